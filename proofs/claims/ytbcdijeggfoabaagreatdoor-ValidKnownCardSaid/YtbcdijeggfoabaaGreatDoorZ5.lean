import Derived.Test.YtbcdijeggfoabaaGreatDoorZ4
import Derived.Test.YtbcdijeggfoabaaGreatDoorRows
import Derived.OpenShut
import Derived.MakeChecks
set_option maxRecDepth 8000
set_option maxHeartbeats 4000000
set_option linter.unusedSimpArgs false
set_option linter.unusedVariables false
set_option linter.unusedSectionVars false
set_option linter.deprecated false
open Go.Proofs.Tryz renaming isAgg3→kT,sizeOf106→lT,sizeOf197→mT,isAgg197→nT,isAgg106→oT,results76→pT,isAgg44→qT,sizeOf44→rT,call99→sT,results140→tT,underlying104→uT,zeroValue106→vT,isAgg22→wT,underlying22→kR,results98→lR,results141→mR,results118→nR,results122→oR,sizeOf74→pR,isAgg72→qR,underlying72→rR,isAgg104→sR,underlying156→tR,sizeOf3→uR,underlying3→vR,underlying42→wR,results80→kY,isAgg41→lY,sizeOf41→mY,call153→nY,zeroValue197→oY
namespace Go.Proofs.YtbcdijeggfoabaaGreatDoor
variable {G:Nat→Prop}{W w:World}{Rs:List HP}
section
open Go.Proofs Go.RowKit
def kindsL:List Int:=[0,1,2,3,3,4]
theorem KT:kindsL.length=6:=rfl
def yM (d:Dcl)(ty f:Int):Bool:=(decide (0≤ty)&&decide (ty≤((d.types.length:Nat):Int)-1))&&(decide (0≤f)&&decide (f≤(((d.types.getD ty.toNat default).fields.length:Nat):Int)-1))
def ym (d:Dcl)(ty f:Int):Fld:=if yM d ty f=true then(d.types.getD ty.toNat default).fields.getD f.toNat default else⟨0,0,false,[]⟩
def xb (d:Dcl)(ty f op arg:Int):Int:=
 if(!yM d ty f)=true then 8 else if(!(decide (1≤op)&&decide (op≤5))|| !decide (kindsL.getD op.toNat 0=(ym d ty f).kind))=true then 2
 else if(decide (op=1)&&decide (arg=0))=true then 1 else if(decide (op=5)&& !(decide (0≤arg)&&decide (arg≤(((ym d ty f).moves.length:Nat):Int)-1)))=true then 1 else 0
theorem ZM {d:Dcl}{ty f op arg:Int}(h:xb d ty f op arg=0):0≤ty∧ty<d.types.length∧Fits (d.types.getD ty.toNat default) f op arg:=by
 unfold xb at h
 split at h
 ·cases h
 rename_i h1
 split at h
 ·cases h
 rename_i h2
 split at h
 ·cases h
 rename_i h3
 split at h
 ·cases h
 rename_i h4
 have hB:yM d ty f=true:=by simpa using h1
 have hz:ym d ty f=(d.types.getD ty.toNat default).fields.getD f.toNat default:=by unfold ym;rw[hB];rfl
 rw[hz]at h2 h4
 unfold yM at hB
 simp only[Bool.and_eq_true,decide_eq_true_eq]at hB
 simp only[Bool.or_eq_true,Bool.not_eq_true',Bool.and_eq_false_iff,Bool.and_eq_true,decide_eq_true_eq,decide_eq_false_iff_not,not_or,Decidable.not_not,not_and]at h2 h3 h4
 refine⟨hB.1.1,by omega,⟨hB.2.1,by omega,?_⟩⟩
 have h5:op=1∨op=2∨op=3∨op=4∨op=5:=by omega
 have h6:=h2.2
 unfold xC
 rcases h5 with rfl|rfl|rfl|rfl|rfl
 ·exact .inl ⟨rfl,h6.symm⟩
 ·exact .inr (.inl ⟨rfl,h6.symm⟩)
 ·exact .inr (.inr (.inl ⟨.inl rfl,h6.symm⟩))
 ·exact .inr (.inr (.inl ⟨.inr rfl,h6.symm⟩))
 ·have:=h4 rfl
  exact .inr (.inr (.inr ⟨rfl,h6.symm,by omega,by omega⟩))
instance:Flat Mv:=⟨fun h=>h⟩
theorem XF {x:Int}(hx:InR x){lo:Int}(hlo:InR lo){hi:Int}(hhi:InR hi)(hS0:Sep G W Rs w):Ret Tryz.prog 99 [.int .i64 (x),.int .i64 (lo),.int .i64 (hi)] w (fun r w'=>r=(.bool ((decide (lo≤x)&&decide (x≤hi))):Value)∧Sep G W Rs w'):=by
 refine zm Tryz.func99 rfl rfl ?_
 refine za (R0 fun _=>st (aS (.bool false) (zb (za (zy kr (st (mV (Iv x) (st (mV (Iv lo) (st (xh rfl rfl (st (mV (.bool (decide (lo≤x))) (stc (V:=Iv x) rfl rfl (fun d=>?_) ?_))))))))))))))
 exact mV (Iv x) rflB
 refine stc (V:=Iv hi) rfl rfl (fun e=>?_) ?_
 exact mV (Iv hi) rflB
 refine stc (V:=.bool (decide (x≤hi))) rfl rfl (fun c=>?_) ?_
 exact zcj (ifpC c) (ifpC c) rflB
 refine st (zF rfl (fun hbp=>(ifpC hbp)) (st (aS (.bool ((decide (lo≤x))&&(decide (x≤hi)))) (zb (zo (zN Tryz.results99 rfl ?_))))))
 refine⟨rfl,hS0⟩
theorem Ux {vl:Value}{l:List Mv}(hl:RdS W G vl l)(hS0:Sep G W Rs w):Ret Tryz.prog 122 [vl] w (fun r w'=> ∃(v:Value),r=(v:Value)∧Sep G W ((RowE (α:=Mv) own 143 v l)::Rs) w'):=by
 have hls:_*32≤_:=hl.small
 refine zm Tryz.func122 rfl rfl ?_
 refine za (R0 fun _=>st (aS Iz (zb (za (za (R0 fun _=>st (mV vl (st (ZO (v:=vl) uT rfl hl.sl (zb ?_))))))))))
 cases i:ZI vl
 refine zf rfl (zp (za (R0 fun _=>st (zL (c:=#[]) uT Tryz.sizeOf143 Tryz.zeroValue143 dc rfl kr ?_))))
 intro o p j
 refine st (mV vl ?_)
 have d:Sep G W ((RowE (α:=Mv) own 143 (Iy p 0 0) [])::Rs) o:=Sep.blkRow (css:=[]) (hS0.new j) rfl trivial yqa
 have e:=d.r0
 refine st (Zy (src:=own) (bytes:=32) d Jg rfl rfl hl yqb rfl (hq':=fun _ _ h _ _=>WX h) ?_)
 intro b q a
 have a:Sep G W ((RowE (α:=Mv) own 143 b l)::Rs) q:=a
 have f:=a.r0
 refine st (aS b (zb (zo (zN oR rfl ?_))))
 refine⟨b,rfl,a⟩
 have m:=Xa hl.sl i
 refine zg rfl (za (R0 fun _=>st (aS Iz (zb (zo (zN oR rfl ?_))))))
 have g:Sep G W ((RowE (α:=Mv) own 143 Iz [])::Rs) w:=hS0.rowNil own 143
 have n:=List.length_eq_zero_iff.1 m
 subst n
 refine⟨(Iz),rfl,g⟩
theorem zdJ {d:Dcl}{dd0:Value}(hdd0:RdS W G dd0 d.types){dd1:Value}(hdd1:RdS W G dd1 d.projs)(od:d.Ok){ty:Int}(hty:InR ty){f:Int}(hf:InR f)(hS0:Sep G W Rs w):Ret Tryz.prog 98 [.agg (d.cells dd0 dd1).toArray,.int .i64 (ty),.int .i64 (f)] w (fun r w'=> ∃(v:Value),r=(.tuple #[.agg ((ym d ty f).cells v).toArray,.bool ((yM d ty f))]:Value)∧((ym d ty f).Ok)∧Sep G W ((RowE (α:=Mv) own 143 v ((ym d ty f).moves))::Rs) w'):=by
 let ag:=zV W (sb dd0) (so dd0+ty.toNat*1+0)
 let aE:=zV W (sb ag) (so ag+f.toNat*4+3)
 have hdd0s:_*24≤_:=hdd0.small
 have hdd1s:_*40≤_:=hdd1.small
 refine zm Tryz.func98 rfl rfl ?_
 refine za (R0 fun _=>st (zT rfl ?_))
 intro w3 b2 aI
 refine st (zv vT ?_)
 intro w7 b6 aJ
 have ae:=(hS0.new aI).new aJ
 refine st (aS (.bool false) (zb (za (za (zy kr (st (mV (Iv ty) (st (yJ rfl (st (lD dd0 wT rfl (zd (ae.b1) rfl) (st (zS kR rfl hdd0.sl ?_)))))))))))))
 have af:InR (((d.types.length:Nat):Int)-1):=by omega
 refine st (YK (r:=((d.types.length:Nat):Int)-1) (b:=1) rfl rfl (zJ af) (st (cL sT (XF (x:=ty) (lo:=0) (hi:=((d.types.length:Nat):Int)-1) hty dc af ae) ?_)))
 rintro _ w10 ⟨rfl,e⟩
 refine st (yw rfl (st (mV (.bool (!(decide (0≤ty)&&decide (ty≤(((d.types.length:Nat):Int)-1))))) (stc (V:=Iv f) rfl rfl (fun ah=>?_) ?_))))
 have ai:=ah
 try simp only[zh]at ai
 exact mV (Iv f) rflB
 refine stc (V:=Ix b2 0) rfl rfl (fun aj=>?_) ?_
 have ak:=aj
 try simp only[zh]at ak
 exact yJ rfl rflB
 refine stc (V:=dd0) rfl rfl (fun F=>?_) ?_
 have al:=F
 try simp only[zh]at al
 exact lD dd0 wT (ifpC F) (zd (e.b1) rfl) rflB
 refine stc (V:=Iv ty) rfl rfl (fun am=>?_) ?_
 have an:=am
 try simp only[zh]at an
 exact mV (Iv ty) rflB
 refine stc (V:=Ix (sb dd0) (so dd0+ty.toNat*1)) rfl rfl (fun t=>?_) ?_
 have ao:=t
 try simp only[zh]at ao
 have hi22:ty.toNat<d.types.length:=bo
 exact zA kR pR (ifpC t) hdd0.sl (ifpC t) ⟨by omega,by omega⟩ rflB
 refine stc (V:=Ix (sb dd0) (so dd0+ty.toNat*1)) rfl rfl (fun H=>?_) ?_
 have ap:=H
 try simp only[zh]at ap
 exact xi (ifpC H) rflB
 refine stc (V:=ag) rfl rfl (fun I=>?_) ?_
 have aq:=I
 try simp only[zh]at aq
 have J:ty.toNat<d.types.length:=bo
 obtain⟨X,D,hoke27⟩:=hdd0.typD J
 have hsm29:((d.types.getD ty.toNat default).fields).length*48≤140737488355328:=D.small
 have Y:=e.cells X (hdd0.foot (ne_of_lt J))
 exact lD ag qR (ifpC I) (Y.get (j:=0) rfl) rflB
 refine stc (V:=Iw (((d.types.getD ty.toNat default).fields).length)) rfl rfl (fun K=>?_) ?_
 have ar:=K
 try simp only[zh]at ar
 have L:ty.toNat<d.types.length:=bo
 obtain⟨Z,o,hoke33⟩:=hdd0.typD L
 have hsm35:((d.types.getD ty.toNat default).fields).length*48≤140737488355328:=o.small
 have hcw36:=e.cells Z (hdd0.foot (ne_of_lt L))
 exact zS rR (ifpC K) o.sl rflB
 refine stc (V:=Iv (((((d.types.getD ty.toNat default).fields).length:Nat):Int)-1)) rfl rfl (fun M=>?_) ?_
 have au:=M
 try simp only[zh]at au
 have N:ty.toNat<d.types.length:=bo
 obtain⟨aa,E,hoke39⟩:=hdd0.typD N
 have hsm41:((d.types.getD ty.toNat default).fields).length*48≤140737488355328:=E.small
 have hcw42:=e.cells aa (hdd0.foot (ne_of_lt N))
 have av:InR (((((d.types.getD ty.toNat default).fields).length:Nat):Int)-1):=by omega
 exact YK (r:=((((d.types.getD ty.toNat default).fields).length:Nat):Int)-1) (k:=.i64) (a:=((((d.types.getD ty.toNat default).fields).length:Nat):Int)) (b:=1) (ifpC M) rfl (zJ av) rflB
 cases u: !(decide (0≤ty)&&decide (ty≤(((d.types.length:Nat):Int)-1)))
 have hg44r:=u
 try simp only[zh]at u
 have y:ty.toNat<d.types.length:=bo
 obtain⟨C,g,hoke45⟩:=hdd0.typD y
 have hsm47:((d.types.getD ty.toNat default).fields).length*48≤140737488355328:=g.small
 have hcw48:=e.cells C (hdd0.foot (ne_of_lt y))
 refine sty rfl rfl (cL sT (XF (x:=f) (lo:=0) (hi:=((((d.types.getD ty.toNat default).fields).length:Nat):Int)-1) hf dc om e) ?_)
 rintro _ w49 ⟨rfl,h⟩
 refine sty rfl rfl (yw rfl (st (yb rfl rfl (zb ?_))))
 cases O: !(decide (0≤f)&&decide (f≤(((((d.types.getD ty.toNat default).fields).length:Nat):Int)-1)))
 try simp only[zh]at O
 refine zf rfl (zp (za (R0 fun _=>st (yJ rfl (st (lD dd0 wT rfl (zd (h.b1) rfl) (st (mV (Iv ty) ?_))))))))
 refine st (zA kR pR rfl hdd0.sl rfl ⟨by omega,by omega⟩ (st (xi rfl ?_)))
 have ab:=h.cells C (hdd0.foot (ne_of_lt y))
 refine st (lD ag qR rfl (ab.get (j:=0) rfl) (st (mV (Iv f) ?_)))
 refine st (zA rR lT rfl g.sl rfl ⟨by omega,by omega⟩ ?_)
 have P:f.toNat<((d.types.getD ty.toNat default).fields).length:=bo
 obtain⟨ac,m,p⟩:=g.fldD P
 have ad:=h.cells ac (g.foot (ne_of_lt P))
 refine st (ze oT lT rfl rfl ad (st (zv vT ?_)))
 intro w62 b61 aw
 have Q:=h.new aw
 refine stn (zr (v:=.agg ((((d.types.getD ty.toNat default).fields).getD f.toNat default).cells aE).toArray) lT rfl rfl (Q.b0) (zZ ⟨rfl,rfl,rfl,m.sl.one,zj⟩) yqc rfl ?_)
 intro w64 ax
 have R:=Q.pt0 ax
 refine zb (za (R0 fun _=>st (yQ rfl (st (lD aE sR rfl (zd (R.b0) rfl) (st (cL Tryz.call122 (Ux (l:=(((d.types.getD ty.toNat default).fields).getD f.toNat default).moves) (vl:=aE) m R) ?_)))))))
 rintro q w68 ⟨_,rfl,z⟩
 have A:=z.r0
 refine st (yQ rfl (stn (yr (v:=q) Tryz.sizeOf104 rfl rfl (z.b1) A.1.one rfl rfl ?_)))
 intro w71 ay
 have az:Fld.Ok (((d.types.getD ty.toNat default).fields).getD f.toNat default):=⟨(show InR ((((d.types.getD ty.toNat default).fields).getD f.toNat default).kind)from p.kind),(show InR ((((d.types.getD ty.toNat default).fields).getD f.toNat default).policy)from p.policy)⟩
 have B:=z.pt1 ay
 refine zb (za (R0 fun _=>st (ze oT lT rfl rfl (zi (B.b1)) (stn (zr (v:=.agg ((((d.types.getD ty.toNat default).fields).getD f.toNat default).cells q).toArray) lT rfl rfl (B.b2) (zZ ⟨rfl,rfl,rfl,A.1.one,zj⟩) yqc rfl ?_)))))
 intro w75 aA
 have S:=B.pt2 aA
 refine st (aS (.bool true) (zb (zo (xY (b:=b6) lR oT lT rfl rfl (zi (S.b2)) (show _=(.bool true:Value)from rfl) ?_))))
 have s:yM d ty f=true:=by unfold yM;simp only[Bool.and_eq_true,decide_eq_true_eq];omega
 have hz:ym d ty f=(((d.types.getD ty.toNat default).fields).getD f.toNat default):=by unfold ym;rw[s];rfl
 rw[hz,s]
 refine⟨q,rfl,?_,(S.s4_a)⟩
 exact az
 try simp only[zh]at O
 refine zg rfl (za (R0 fun _=>?_))
 have aB:Fld.Ok (⟨0,0,false,[]⟩:Fld):=⟨(show InR (0)from dc),(show InR (0)from dc)⟩
 refine st (zQ (parts':=[]) (v:=.agg ((⟨0,0,false,[]⟩:Fld).cells Iz).toArray) rfl (by simp+zetaDelta [Instr.build,Instr.fill,go_sem,YR]) (stn (zr (v:=.agg ((⟨0,0,false,[]⟩:Fld).cells Iz).toArray) lT rfl rfl (h.b0) (zZ ⟨rfl,rfl,rfl,rfl,zj⟩) yqc rfl ?_)))
 intro w80 aC
 have T:=h.pt0 aC
 refine st (aS (.bool false) (zb (zo (xY (b:=b6) lR oT lT rfl rfl (zi (T.b0)) (show _=(.bool false:Value)from rfl) ?_))))
 have aD:Sep _ _ ((RowE (α:=Mv) own 143 Iz [])::_) _:=T.rowNil own 143
 have s:yM d ty f=false:=by unfold yM;rw[Bool.eq_false_iff];intro h9;simp only[Bool.and_eq_true,decide_eq_true_eq]at h9;omega
 have hz:ym d ty f=(⟨0,0,false,[]⟩:Fld):=by unfold ym;rw[s];rfl
 rw[hz,s]
 refine⟨(Iz),rfl,?_,(aD.s3_a)⟩
 exact aB
 try simp only[zh]at u
 refine stx rfl rfl (stx rfl rfl (st (yc rfl rfl (zb (zg rfl (za (R0 fun _=>?_)))))))
 have aF:Fld.Ok (⟨0,0,false,[]⟩:Fld):=⟨(show InR (0)from dc),(show InR (0)from dc)⟩
 refine st (zQ (parts':=[]) (v:=.agg ((⟨0,0,false,[]⟩:Fld).cells Iz).toArray) rfl (by simp+zetaDelta [Instr.build,Instr.fill,go_sem,YR]) (stn (zr (v:=.agg ((⟨0,0,false,[]⟩:Fld).cells Iz).toArray) lT rfl rfl (e.b0) (zZ ⟨rfl,rfl,rfl,rfl,zj⟩) yqc rfl ?_)))
 intro w86 aG
 have U:=e.pt0 aG
 refine st (aS (.bool false) (zb (zo (xY (b:=b6) lR oT lT rfl rfl (zi (U.b0)) (show _=(.bool false:Value)from rfl) ?_))))
 have aH:Sep _ _ ((RowE (α:=Mv) own 143 Iz [])::_) _:=U.rowNil own 143
 have s:yM d ty f=false:=by unfold yM;rw[Bool.eq_false_iff];intro h9;simp only[Bool.and_eq_true,decide_eq_true_eq]at h9;omega
 have hz:ym d ty f=(⟨0,0,false,[]⟩:Fld):=by unfold ym;rw[s];rfl
 rw[hz,s]
 refine⟨(Iz),rfl,?_,(aH.s3_a)⟩
 exact aF
theorem zcL {d:Dcl}{dd0:Value}(hdd0:RdS W G dd0 d.types){dd1:Value}(hdd1:RdS W G dd1 d.projs)(od:d.Ok){ty:Int}(hty:InR ty){f:Int}(hf:InR f){op:Int}(hop:InR op){arg:Int}(harg:InR arg)(hKN:RdS W G (.slice (some ⟨0,0,none⟩) 6 6) kindsL)(hS0:Sep G W Rs w):Ret Tryz.prog 76 [.agg (d.cells dd0 dd1).toArray,.int .i64 (ty),.int .i64 (f),.int .i64 (op),.int .i64 (arg)] w (fun r w'=>r=(.int .i64 (xb d ty f op arg):Value)∧Sep G W Rs w'):=by
 have hdd0s:_*24≤_:=hdd0.small
 have hdd1s:_*40≤_:=hdd1.small
 have hKNs:_*8≤_:=hKN.small
 refine zm Tryz.func76 rfl rfl ?_
 refine za (R0 fun _=>st (zT rfl ?_))
 intro w3 b2 aL
 have aB:=hS0.new aL
 refine st (aS (Iv 0) (zb (za (R0 fun _=>st (ze Tryz.isAgg25 Tryz.sizeOf25 rfl rfl (zi (aB.b0)) (st (mV (Iv ty) (st (mV (Iv f) (st (cL Tryz.call98 (zdJ (d:=d) (ty:=ty) (f:=f) hdd0 hdd1 od hty hf aB) ?_)))))))))))
 rintro _ w7 ⟨z,rfl,hfok6,aC⟩
 let aG:=(ym d ty f).cells z
 have X:=aC.r0
 have hr9s:_*32≤_:=X.2
 refine st (mV (.tuple #[.agg aG.toArray,.bool ((yM d ty f))]) (st (zl rfl rfl (st (zl rfl rfl (st (zv vT ?_)))))))
 intro w12 K aE
 have Y:=aC.new aE
 refine stn (zr (v:=.agg aG.toArray) lT rfl rfl (Y.b0) (zZ ⟨rfl,rfl,rfl,X.1.one,zj⟩) yqc rfl ?_)
 intro w14 aF
 have Z:=Y.pt0 aF
 refine st (aS (.bool ((yM d ty f))) (zb (za (zu (za (R0 fun _=>st (mV (.bool ((yM d ty f))) (st (yw rfl (st (aS (.bool (!(yM d ty f))) (zb ?_))))))))))))
 cases I: !(yM d ty f)
 have h:=I
 try simp only[zh]at I
 refine zf rfl (za ?_)
 refine WD4 ((fun TT aD=>WF [fun vals wq=>Sep G W (aD::TT) wq,fun vals wq=>(vals 1=(.bool ((decide (1≤op)&&decide (op≤5))):Value))∧Sep G W (aD::TT) wq]) ((RowE own 143 z ((ym d ty f).moves))::(Blk b2 (d.cells dd0 dd1).toArray 25)::Rs) (Blk K aG.toArray 106)) (AF [Vl 0 (Iv op),fun _=>True,Vl 2 (.bool (!(decide (1≤op)&&decide (op≤5)))),Vl 3 (.bool (!(decide (1≤op)&&decide (op≤5)))),Vl 4 (if(!(decide (1≤op)&&decide (op≤5)))=false then Iv op else undef),Vl 5 (if(!(decide (1≤op)&&decide (op≤5)))=false then Ix (sb (Iy 0 6 6)) (so (Iy 0 6 6)+op.toNat*1)else undef),Vl 6 (if(!(decide (1≤op)&&decide (op≤5)))=false then Iv ((kindsL.getD op.toNat 0))else undef),Vl 7 (if(!(decide (1≤op)&&decide (op≤5)))=false then Ix K 0 else undef),Vl 8 (if(!(decide (1≤op)&&decide (op≤5)))=false then Iv ((ym d ty f).kind)else undef),Vl 9 (if(!(decide (1≤op)&&decide (op≤5)))=false then .bool (!decide ((kindsL.getD op.toNat 0)=((ym d ty f).kind)))else undef),Vl 10 (.bool ((!(decide (1≤op)&&decide (op≤5)))||(!decide ((kindsL.getD op.toNat 0)=((ym d ty f).kind))))),Vl 11 (.bool ((!(decide (1≤op)&&decide (op≤5)))||(!decide ((kindsL.getD op.toNat 0)=((ym d ty f).kind)))))]) [[],[0],[0,1],[0,1,2],(rg 4),(rg 5),(rg 6),(rg 4),[0,1,2,3,7],(rg 9),(rg 10),(rg 11)] [1] [(0,0),(0,0),(1,1),(1,1),(1,1),(1,1),(1,1),(1,1),(1,1),(1,1),(1,1),(1,1)] Z ⟨fun _ _ _ _ _ _ _=>obl rfl (mV (Iv op) dR),?_,?_,fun _ _ _ _ _ _ ac=>obl rfl (yg (ac 2 dc) dR),?_,?_,?_,?_,?_,?_,fun _ _ _ _ _ _ L=>obl rfl (zz (L 3 dc) (fun hbp=>(zH (L 9 dc) (ifpC hbp))) dR),fun _ _ _ _ _ _ ad=>obl rfl (ya (ad 10 dc) dR),zj⟩ ?_
 refine ob1 0 fun vals _ (aH:Sep _ _ _ _) aI=>(obl rfl ((zO (vals:=[Iv op,Iv 1,Iv 5]) rfl (yK ⟨(aI 0 dc),rfl,rfl,zj⟩) sT (XF (x:=op) (lo:=1) (hi:=5) om dc dc aH) ?_)))
 rintro _ w32 ⟨rfl,aJ⟩
 exact fun c e hv'=>⟨(zG e aJ),zj⟩
 refine ob1 1 fun _ _ ae _=>?_
 obtain⟨A,hS142⟩:=ae
 exact obl rfl (yw A dR)
 refine fun _ _ _ _ _ _ af=>(yq rfl rfl (af 3 dc) (fun B=>?_) yD)
 have ag:=B
 try simp only[zh]at ag
 exact mV (Iv op) (yC B)
 refine ob1 1 fun _ _ ah M=>?_
 obtain⟨A,hS165⟩:=ah
 refine yq rfl rfl (M 3 dc) (fun q=>?_) yD
 have ai:=q
 try simp only[zh]at ai
 exact VQ (b:=sb (Iy 0 6 6)) (o:=so (Iy 0 6 6)) (k:=1) (n:=6) (i:=op) (off:=op.toNat*1) tR uR rfl (zH (M 4 dc) (ifpC q)) om rfl (yC q)
 refine ob1 1 fun _ _ aj N=>?_
 obtain⟨A,ak⟩:=aj
 refine yq rfl rfl (N 3 dc) (fun s=>?_) yD
 have al:=s
 try simp only[zh]at al
 have O:op.toNat<kindsL.length:=(by first|omega|(rw[KT];omega))
 obtain⟨aa,hxe181⟩:=hKN.intD O
 have ab:=ak.cells aa (hKN.foot (ne_of_lt O))
 exact lD (Iv ((kindsL.getD op.toNat 0))) kT (zH (N 5 dc) (ifpC s)) (ab.get (j:=0) rfl) (yC s)
 refine fun _ _ _ _ _ _ am=>(yq rfl rfl (am 3 dc) (fun C=>?_) yD)
 have an:=C
 try simp only[zh]at an
 exact xA rfl (yC C)
 refine ob1 1 fun _ _ ao P=>?_
 obtain⟨A,ap⟩:=ao
 refine yq rfl rfl (P 3 dc) (fun t=>?_) yD
 have aq:=t
 try simp only[zh]at aq
 exact lD (Iv ((ym d ty f).kind)) kT (zH (P 7 dc) (ifpC t)) (zd (ap.b0) rfl) (yC t)
 refine ob1 1 fun _ _ ar J=>?_
 obtain⟨A,hS210⟩:=ar
 refine yq rfl rfl (J 3 dc) (fun m=>?_) yD
 have au:=m
 try simp only[zh]at au
 exact yj (zH (J 6 dc) (ifpC m)) (zH (J 8 dc) (ifpC m)) (yC m)
 intro vals w231 av aw
 obtain⟨A,u⟩:=av
 have aK:=aw 11 dc
 refine yd (kv:=[(0,.agg (d.cells dd0 dd1).toArray),(1,Iv ty),(2,Iv f),(3,Iv op),(4,Iv arg),(5,Ix b2 0),(10,Iv 0),(14,.agg (d.cells dd0 dd1).toArray),(15,Iv ty),(16,Iv f),(17,.tuple #[.agg ((ym d ty f).cells z).toArray,.bool ((yM d ty f))]),(13,.tuple #[.agg ((ym d ty f).cells z).toArray,.bool ((yM d ty f))]),(18,.agg ((ym d ty f).cells z).toArray),(19,.bool ((yM d ty f))),(11,Ix K 0),(12,.bool ((yM d ty f))),(21,.bool ((yM d ty f))),(22,.bool false),(20,.bool false),(23,.bool ((!(decide (1≤op)&&decide (op≤5)))||(!decide ((kindsL.getD op.toNat 0)=((ym d ty f).kind)))))]) ⟨rfl,rfl,rfl,rfl,rfl,rfl,rfl,rfl,rfl,rfl,rfl,rfl,rfl,rfl,rfl,rfl,rfl,rfl,rfl,(by exact aK),zj⟩ (fun ρw231=>(zb ?_))
 cases D:(!(decide (1≤op)&&decide (op≤5)))||(!decide ((kindsL.getD op.toNat 0)=((ym d ty f).kind)))
 have g:=D
 try simp only[zh]at D
 refine zf rfl (za (za (zy kr (st (mV (Iv op) (st (zR rfl rfl (st (mV (.bool (decide (op=1))) (stc (V:=Iv arg) rfl rfl (fun ax=>?_) ?_))))))))))
 have hl238:=tD ax
 exact mV (Iv arg) rflB
 refine stc (V:=.bool (decide (arg=0))) rfl rfl (fun Q=>?_) ?_
 have hl240:=tD Q
 exact zR (ifpC Q) rfl rflB
 refine st (zF rfl (fun hbp=>(ifpC hbp)) (st (aS (.bool ((decide (op=1))&&(decide (arg=0)))) (zb ?_))))
 cases E:(decide (op=1))&&(decide (arg=0))
 have l:=E
 try simp only[zh]at E
 refine zf rfl (zy kr (st (mV (Iv op) (st (zR rfl rfl (st (mV (.bool (decide (op=5))) (stc (V:=Iv arg) rfl rfl (fun ay=>?_) ?_))))))))
 have hl243:=tD ay
 exact mV (Iv arg) rflB
 refine stc (V:=Ix K 3) rfl rfl (fun az=>?_) ?_
 have hl245:=tD az
 exact yQ rfl rflB
 refine stc (V:=z) rfl rfl (fun R=>?_) ?_
 have hl247:=tD R
 exact lD z sR (ifpC R) (zd (u.b0) rfl) rflB
 refine stc (V:=Iw (((ym d ty f).moves).length)) rfl rfl (fun S=>?_) ?_
 have hl249:=tD S
 exact zS uT (ifpC S) X.1 rflB
 refine stc (V:=Iv (((((ym d ty f).moves).length:Nat):Int)-1)) rfl rfl (fun T=>?_) ?_
 have hl251:=tD T
 have aA:InR (((((ym d ty f).moves).length:Nat):Int)-1):=by omega
 exact YK (r:=((((ym d ty f).moves).length:Nat):Int)-1) (b:=1) (ifpC T) rfl (zJ aA) rflB
 cases p:decide (op=5)
 have y:=p
 have p:=fD p
 refine stx rfl rfl (stx rfl rfl (st (yb rfl rfl (st (aS (.bool false) (zb (zf rfl (zp (za (R0 fun _=>st (aS (Iv 0) (zb (zo (zN pT (show _=(Iv 0:Value)from rfl) ?_))))))))))))))
 refine⟨?_,(u.s3_)⟩
 unfold xb
 simp only[h,g,l,y,Bool.not_false,Bool.not_true,Bool.true_and,Bool.false_and,Bool.or_true,if_true,if_false,Bool.false_eq_true,↓reduceIte]
 have y:=p
 have p:=tD p
 refine sty rfl rfl (cL sT (XF (x:=arg) (lo:=0) (hi:=((((ym d ty f).moves).length:Nat):Int)-1) harg dc om u) ?_)
 rintro _ w255 ⟨rfl,U⟩
 refine sty rfl rfl (yw rfl (st (yc rfl rfl (st (aS (.bool (!(decide (0≤arg)&&decide (arg≤(((((ym d ty f).moves).length:Nat):Int)-1))))) (zb ?_))))))
 cases F: !(decide (0≤arg)&&decide (arg≤(((((ym d ty f).moves).length:Nat):Int)-1)))
 have H:=F
 try simp only[zh]at F
 refine zf rfl (zp (za (R0 fun _=>st (aS (Iv 0) (zb (zo (zN pT (show _=(Iv 0:Value)from rfl) ?_)))))))
 refine⟨?_,(U.s3_)⟩
 unfold xb
 simp only[h,g,l,y,H,Bool.not_false,Bool.not_true,Bool.true_and,Bool.false_and,Bool.or_true,if_true,if_false,Bool.false_eq_true,↓reduceIte]
 have H:=F
 try simp only[zh]at F
 refine zg rfl (za (R0 fun _=>st (aS (Iv 1) (zb (zo (zN pT (show _=(Iv 1:Value)from rfl) ?_))))))
 refine⟨?_,(U.s3_)⟩
 unfold xb
 simp only[h,g,l,y,H,Bool.not_false,Bool.not_true,Bool.true_and,Bool.false_and,Bool.or_true,if_true,if_false,Bool.false_eq_true,↓reduceIte]
 have l:=E
 try simp only[zh]at E
 refine zg rfl (zp (zg rfl (za (R0 fun _=>st (aS (Iv 1) (zb (zo (zN pT (show _=(Iv 1:Value)from rfl) ?_))))))))
 refine⟨?_,(u.s3_)⟩
 unfold xb
 simp only[h,g,l,Bool.not_false,Bool.not_true,Bool.true_and,Bool.false_and,Bool.or_true,if_true,if_false,Bool.false_eq_true,↓reduceIte]
 have g:=D
 try simp only[zh]at D
 refine zg rfl (za (R0 fun _=>st (aS (Iv 2) (zb (zo (zN pT (show _=(Iv 2:Value)from rfl) ?_))))))
 refine⟨?_,(u.s3_)⟩
 unfold xb
 simp only[h,g,Bool.not_false,Bool.not_true,Bool.true_and,Bool.false_and,Bool.or_true,if_true,if_false,Bool.false_eq_true,↓reduceIte]
 have h:=I
 try simp only[zh]at I
 refine zg rfl (za (R0 fun _=>st (aS (Iv 8) (zb (zo (zN pT (show _=(Iv 8:Value)from rfl) ?_))))))
 refine⟨?_,(Z.s3_)⟩
 unfold xb
 simp only[h,Bool.not_false,Bool.not_true,Bool.true_and,Bool.false_and,Bool.or_true,if_true,if_false,Bool.false_eq_true,↓reduceIte]
end
section
set_option maxRecDepth 100000
open Go.ChangeShapes Go.WideShapes Go.ChangeAt Go.RowKit
theorem Tryz.own:ownKnob Tryz.prog.godebug=none:=by kernel_rfl
theorem Tryz.laidOut:laidOutB Tryz.prog=true:=by kernel_rfl
theorem zaH:Tryz.prog.globalNamed "quayside/schema.kinds" =some 0:=by kernel_rfl
theorem zen:(Tryz.prog.globals[0]?).map (·.type)=some 156:=by kernel_rfl
theorem zap {W:World}(h:laidMetH Tryz.prog [("quayside/schema.kinds",Rows.laid_quayside_schema_kinds)] W):RdS W (WN W) (.slice (some ⟨0,0,none⟩) 6 6) kindsL:=by
 rw[MakeChecks.laidMetH_plain _ _ _ (by kernel_rfl)]at h
 exact zdL zaH (Lib.tabIs_of_head (k:=.i64) (zs:=kindsL) zaH zen tR vR (by kernel_rfl) (by kernel_rfl) h) (by decide) (by decide)
theorem zbp (os:Os)(args:Array Value):laidMetH Tryz.prog [("quayside/schema.kinds",Rows.laid_quayside_schema_kinds)] ((World.doorLaid Tryz.prog 14 os).forCall (fun _ _=>0) ⟨#[],args,[]⟩).memory:=
 laidMetH_of_parts3 (fuel:=8) (laidMet_of_run' 8 (by kernel_rfl) (by kernel_rfl)) (by kernel_rfl) (by kernel_rfl)
end
section
open Go.Proofs Go.RowKit
theorem zcZ {t:Typ}{c:List Cel}{f op arg:Int}(h:yN t c f op arg=0):xO (xC t f) c (yH c f) op arg=true:=by
 unfold yN at h
 split at h
 ·assumption
 ·cases h
end
section
open Go.RowKit Go.MapKept
structure KLaw (P:Program) (kt:TypeId) {κ:Type} [DecidableEq κ] (enc:κ→Value):Prop where
 inj: ∀{a b:κ},enc a=enc b→a=b
 desc: ∃d,P.underlying kt=some d∧ ∀a b,Instr.sameNow d (enc a) (enc b)=none
 check: ∀(w:World) (e:Bool) (k:κ),(Instr.checkKey e 10000 kt (enc k)).run P w=.ok () w
 eql: ∀(w:World) (a b:κ),(Op.equal kt (enc a) (enc b)).run P w=.ok (decide (a=b)) w
 stays: ∀k,Instr.sameBits 10000 (enc k) (enc k)=true
def yT {κ β:Type}[DecidableEq κ](L:List (κ×β))(k:κ):Option β:=(L.find? fun p=>decide (p.1=k)).map (·.2)
def UT {κ β:Type}[DecidableEq κ](L:List (κ×β))(k:κ)(x:β):List (κ×β):=match L.findIdx? fun p=>decide (p.1=k)with
 |some j=>L.set j (k,x)
 |none=>L++[(k,x)]
def Kk {κ β:Type}[DecidableEq κ](L:List (κ×β))(k:κ)(z:β):List (κ×β):=match L.findIdx? fun p=>decide (p.1=k)with
 |some _=>L
 |none=>L++[(k,z)]
section
variable {P:Program}{kt:TypeId}{κ:Type}[DecidableEq κ]{enc:κ→Value}
theorem KLaw.ask (K:KLaw P kt enc)(k:κ)(w:World): ∀(es:List MapEntry) (i:Nat),(∀e∈es,∃q,e.key=enc q)→
 ((Instr.findAsking kt (enc k) es i).run P w=.ok none w∧ ∀e∈es,e.key≠enc k)∨ ∃j e,(Instr.findAsking kt (enc k) es i).run P w=.ok (some (i+j,e.val)) w∧es[j]? =some e∧e.key=enc k
 |[],i,_=>.inl ⟨rfl,by simp⟩
 |e::es,i,h=>by
  obtain⟨q,hq⟩:=h e (.head _)
  by_cases hk:k=q
  ·subst hk
   refine .inr ⟨0,e,?_,rfl,hq⟩
   simp[Instr.findAsking,hq,K.eql,go_sem]
  ·rcases KLaw.ask K k w es (i+1) (fun x hx=>h x (.tail _ hx))with⟨h1,h2⟩|⟨j,e',h1,h2,h3⟩
   ·refine .inl ⟨?_,fun x hx=>?_⟩
    ·simp[Instr.findAsking,hq,K.eql,hk,h1,go_sem]
    ·rcases List.mem_cons.1 hx with rfl|hx
     ·rw[hq];exact fun e=>hk (K.inj e).symm
     ·exact h2 x hx
   ·refine .inr ⟨j+1,e',?_,by simpa using h2,h3⟩
    have e9:i+1+j=i+(j+1):=by omega
    rw[e9]at h1
    simp[Instr.findAsking,hq,K.eql,hk,h1,go_sem]
theorem KLaw.find (K:KLaw P kt enc)(k:κ)(w:World)(es:List MapEntry)(h: ∀e∈es,∃q,e.key=enc q):
 ((Instr.findKey kt (enc k) es).run P w=.ok none w∧ ∀e∈es,e.key≠enc k)∨ ∃j e,(Instr.findKey kt (enc k) es).run P w=.ok (some (j,e.val)) w∧es[j]? =some e∧e.key=enc k:=by
 obtain⟨d,hd,hs⟩:=K.desc
 match es,h with
 |[],h=>exact .inl ⟨by simp[Instr.findKey,run_underlying hd,Instr.findNow,go_sem],by simp⟩
 |e::es,h=>
  obtain⟨q,hq⟩:=h e (.head _)
  have hn:Instr.findNow d (enc k) (e::es) 0=none:=by simp[Instr.findNow,hq,hs]
  have hr: ∀r,(Instr.findAsking kt (enc k) (e::es) 0).run P w=.ok r w→(Instr.findKey kt (enc k) (e::es)).run P w=.ok r w:=by
   intro r hr
   simp[Instr.findKey,run_underlying hd,hn,go_sem]
   exact hr
  rcases K.ask k w (e::es) 0 h with⟨h1,h2⟩|⟨j,e',h1,h2,h3⟩
  ·exact .inl ⟨hr _ h1,h2⟩
  ·exact .inr ⟨j,e',hr _ (by rw[h1,Nat.zero_add]),h2,h3⟩
theorem KLaw.keeps (K:KLaw P kt enc)(k:κ)(w:World):(Instr.keyThatStays (enc k) (enc k)).run P w=.ok (enc k) w:=by
 simp[Instr.keyThatStays,K.stays]
def EntsV (enc:κ→Value)(es:List MapEntry)(L:List (κ×Value)):Prop:=es.map (fun e=>(e.key,e.val))=L.map (fun p=>(enc p.1,p.2))
theorem EntsV.len {es:List MapEntry}{L:List (κ×Value)}(h:EntsV enc es L):es.length=L.length:=by have:=congrArg List.length h;simpa using this
theorem EntsV.at_ {es:List MapEntry}{L:List (κ×Value)}(h:EntsV enc es L){j:Nat}{e:MapEntry}(he:es[j]? =some e): ∃p,L[j]? =some p∧e.key=enc p.1∧e.val=p.2:=by
 have h1:(es.map (fun e=>(e.key,e.val)))[j]? =(L.map (fun p=>(enc p.1,p.2)))[j]? :=by rw[show es.map _=L.map _ from h]
 rw[List.getElem?_map,List.getElem?_map,he]at h1
 cases hp:L[j]? with
 |none=>rw[hp]at h1;cases h1
 |some p=>rw[hp]at h1;simp only[Option.map_some,Option.some.injEq,Prod.mk.injEq]at h1;exact⟨p,rfl,h1.1,h1.2⟩
theorem EntsV.keys {es:List MapEntry}{L:List (κ×Value)}(h:EntsV enc es L): ∀e∈es,∃q,e.key=enc q:=by
 intro e he
 obtain⟨j,hj,rfl⟩:=List.getElem_of_mem he
 obtain⟨p,_,h1,_⟩:=h.at_ (List.getElem?_eq_getElem hj)
 exact⟨p.1,h1⟩
theorem EntsV.nodup {es:List MapEntry}{L:List (κ×Value)}(h:EntsV enc es L)(hp:(es.map (·.key)).Nodup):(L.map (·.1)).Nodup:=by
 have h1:(es.map (·.key))=(L.map (·.1)).map enc:=by
  have:=congrArg (List.map Prod.fst) h
  simpa[Function.comp_def]using this
 have h2:((L.map (·.1)).map enc).Nodup:=by rw[←h1];exact hp
 exact(List.pairwise_map.1 h2).imp (fun hne e=>hne (by rw[e]))
theorem EntsV.none {es:List MapEntry}{L:List (κ×Value)}(h:EntsV enc es L){k:κ}(hk: ∀e∈es,e.key≠enc k):(L.findIdx? fun p=>decide (p.1=k))=none∧yT L k=none:=by
 have key: ∀p∈L,¬p.1=k:=by
  intro p hp e
  obtain⟨j,hj,rfl⟩:=List.getElem_of_mem hp
  have hje:j<es.length:=by rw[h.len];exact hj
  obtain⟨q,h1,h2,_⟩:=h.at_ (List.getElem?_eq_getElem hje)
  rw[List.getElem?_eq_getElem hj]at h1
  cases h1
  exact hk _ (List.getElem_mem hje) (by rw[h2,e])
 refine⟨by rw[List.findIdx?_eq_none_iff];intro p hp;simpa using key p hp,?_⟩
 unfold yT
 rw[Option.map_eq_none_iff,List.find?_eq_none]
 intro p hp
 simpa using key p hp
theorem EntsV.some {es:List MapEntry}{L:List (κ×Value)}(h:EntsV enc es L)(hi: ∀{a b:κ},enc a=enc b→a=b)(hp:(es.map (·.key)).Nodup){k:κ}{j:Nat}{e:MapEntry}(he:es[j]? =some e)(hk:e.key=enc k):
 j<L.length∧(L.findIdx? fun p=>decide (p.1=k))=some j∧yT L k=some e.val:=by
 obtain⟨p,h1,h2,h3⟩:=h.at_ he
 have hjl:=(List.getElem?_eq_some_iff.1 h1).1
 have hpe:L[j]=p:=(List.getElem?_eq_some_iff.1 h1).2
 have hpk:p.1=k:=hi (by rw[←h2,hk])
 have hn:=h.nodup hp
 have first: ∀i (hij:i<j),¬(L[i]'(by omega)).1=k:=fun i hij=>by
  have:=List.pairwise_iff_getElem.1 (List.pairwise_map.1 hn) i j (by omega) hjl hij
  intro e;exact this (by rw[e,hpe,hpk])
 refine⟨hjl,?_,?_⟩
 ·rw[List.findIdx?_eq_some_iff_getElem]
  exact⟨hjl,by simp[hpe,hpk],fun i hi=>by simpa using first i hi⟩
 ·unfold yT
  have:(L.find? fun p=>decide (p.1=k))=Option.some p:=by
   rw[List.find?_eq_some_iff_getElem]
   exact⟨by simp[hpk],j,hjl,hpe,fun i hi=>by simpa using first i hi⟩
  rw[this,Option.map_some,h3]
def IsMap (enc:κ→Value)(w:World)(m:Nat)(L:List (κ×Value)):Prop:= ∃es clock,w.heap[m]? =some (.map es clock)∧Stamped es clock∧EntsV enc es.toList L∧clock=es.size
def IsMapE (enc:κ→Value)(w:World)(m:Nat)(L:List (κ×Value))(j:Nat)(s:Int):Prop:= ∃es clock,w.heap[m]? =some (.map es clock)∧Stamped es clock∧EntsV enc es.toList L∧clock=es.size∧ ∃e,es[j]? =some e∧(e.born:Int)=s
theorem IsMapE.is {w:World}{m j:Nat}{s:Int}{L:List (κ×Value)}(h:IsMapE enc w m L j s):IsMap enc w m L:=by obtain⟨es,c,h1,h2,h3,h4,_⟩:=h;exact⟨es,c,h1,h2,h3,h4⟩
theorem IsMap.lt {w:World}{m:Nat}{L:List (κ×Value)}(h:IsMap enc w m L):m<w.heap.size:=by obtain⟨es,c,hb,_⟩:=h;exact xD hb
theorem IsMap.nodup {w:World}{m:Nat}{L:List (κ×Value)}(h:IsMap enc w m L):(L.map (·.1)).Nodup:=by
 obtain⟨es,c,hb,hs,he,_⟩:=h
 exact he.nodup hs.2.2
end
section
variable {P:Program}{d:Option Tmp}{ty:TypeId}{pos:String}{af:Array Edge}{gd:Option (Nat×Bool)}{σ:Env}{w:World}{K:Value→World→Prop}{κ:Type}[DecidableEq κ]{enc:κ→Value}{G:Nat→Prop}{W:World}{As:List HP}{m:Nat}{L:List (κ×Value)}
theorem YQ {m:Nat}{es es':Array MapEntry}{c c':Nat}(hb:w.heap[m]? =some (.map es c)):Chg (fun i=>i=m) w {w with heap:=w.heap.setIfInBounds m (.map es' c')}:=by
 refine⟨rfl,rfl,rfl,by simp,fun i hi hne=>(heap_set hb).2 i hne,?_,Nat.le_refl _⟩
 rintro i ⟨c,T,hc⟩
 have hne:i≠m:=fun e=>by subst e;rw[hb]at hc;cases hc
 exact⟨c,T,by rw[(heap_set hb).2 i hne];exact hc⟩
theorem Vv {es:Array MapEntry}(h:EntsV enc es.toList L)(k:κ)(v:Value)(n:Nat):EntsV enc (es.push {key:=enc k,val:=v,born:=n}).toList (L++[(k,v)]):=by
 unfold EntsV at*
 rw[Array.toList_push,List.map_append,List.map_append,h]
 rfl
theorem XV {es:Array MapEntry}(h:EntsV enc es.toList L){k:κ}{v:Value}{j:Nat}{e:MapEntry}(he:es.toList[j]? =some e)(f:MapEntry→MapEntry)(hk:(f e).key=enc k)(hv:(f e).val=v):EntsV enc (es.modify j f).toList (L.set j (k,v)):=by
 unfold EntsV at*
 rw[Array.toList_modify,List.modify_eq_set,he]
 simp only[Option.map_some,Option.getD_some,List.map_set,h,hk,hv]
theorem KK {t kt et:TypeId}{x y:Operand}{k:κ}{z:Value}(hK:KLaw P kt enc)(hU:P.underlying t=some (.map kt et))(hZ: ∀w,(zeroValue et).run P w=.ok z w)
 (hx:ev σ x=.map (some m)) (hy:ev σ y=enc k) (hm:IsMap enc w m L) (h:K ((yT L k).getD z) w):opV P ⟨d,.lookup t x y false,ty,pos,af,gd⟩ σ w K:=by
 obtain⟨es,clock,hb,hs,he,_⟩:=hm
 rcases hK.find k w es.toList he.keys with⟨h1,h2⟩|⟨j,e,h1,h2,h3⟩
 ·rw[(he.none h2).2]at h
  refine yB (v:=z) (w':=w) ?_ h
  simp[execOp,hx,hy,Instr.lookup,run_underlying hU,MapKept.run_getObj_map hb,hK.check,h1,hZ,go_sem]
 ·rw[(he.some hK.inj hs.2.2 h2 h3).2.2]at h
  refine yB (v:=e.val) (w':=w) ?_ h
  simp[execOp,hx,hy,Instr.lookup,run_underlying hU,MapKept.run_getObj_map hb,hK.check,h1,go_sem]
theorem Wd {t kt et:TypeId}{x y:Operand}{k:κ}{z:Value}(hK:KLaw P kt enc)(hU:P.underlying t=some (.map kt et))(hZ: ∀w,(zeroValue et).run P w=.ok z w)
 (hx:ev σ x=.map (some m)) (hy:ev σ y=enc k) (hm:IsMap enc w m L) (h:K (.tuple #[(yT L k).getD z,.bool (yT L k).isSome]) w):opV P ⟨d,.lookup t x y true,ty,pos,af,gd⟩ σ w K:=by
 obtain⟨es,clock,hb,hs,he,_⟩:=hm
 rcases hK.find k w es.toList he.keys with⟨h1,h2⟩|⟨j,e,h1,h2,h3⟩
 ·rw[(he.none h2).2]at h
  refine yB (v:=.tuple #[z,.bool false]) (w':=w) ?_ h
  simp[execOp,hx,hy,Instr.lookup,run_underlying hU,MapKept.run_getObj_map hb,hK.check,h1,hZ,go_sem]
 ·rw[(he.some hK.inj hs.2.2 h2 h3).2.2]at h
  refine yB (v:=.tuple #[e.val,.bool true]) (w':=w) ?_ h
  simp[execOp,hx,hy,Instr.lookup,run_underlying hU,MapKept.run_getObj_map hb,hK.check,h1,go_sem]
theorem VP {t kt et:TypeId}{x y z:Operand}{k:κ}{v:Value}(hK:KLaw P kt enc)(hU:P.underlying t=some (.map kt et))(hx:ev σ x=.map (some m))(hy:ev σ y=enc k)(hz:ev σ z=v)(hm:IsMap enc w m L)
 (h: ∀w1,IsMap enc w1 m (UT L k v)→Chg (fun i=>i=m) w w1→K undef w1):opV P ⟨d,.mapUpdate t x y z,ty,pos,af,gd⟩ σ w K:=by
 obtain⟨es,clock,hb,hs,he,hcl⟩:=hm
 rcases hK.find k w es.toList he.keys with⟨h1,h2⟩|⟨j,e,h1,h2,h3⟩
 ·refine Xf (w':={w with heap:=w.heap.setIfInBounds m (.map (es.push {key:=enc k,val:=v,born:=clock}) (clock+1))}) ?_ (h _ ?_ (YQ hb))
  ·simp[execOp,hx,hy,hz,Instr.mapUpdate,run_underlying hU,MapKept.run_getObj_map hb,hK.check,h1,MapKept.run_setObj_map _ hb,go_sem]
  ·unfold UT
   rw[(he.none h2).1]
   exact⟨_,_,(heap_set hb).1,stamped_push hs h2,Vv he k v clock,by simp[hcl]⟩
 ·have hja:es[j]? =some e:=by simpa using h2
  obtain⟨hjl,hfi,_⟩:=he.some hK.inj hs.2.2 h2 h3
  refine Xf (w':={w with heap:=w.heap.setIfInBounds m (.map (es.modify j fun e=>{e with key:=enc k,val:=v}) clock)}) ?_ (h _ ?_ (YQ hb))
  ·simp[execOp,hx,hy,hz,Instr.mapUpdate,run_underlying hU,MapKept.run_getObj_map hb,hK.check,h1,hja,h3,hK.keeps,MapKept.run_setObj_map _ hb,go_sem]
  ·unfold UT
   rw[hfi]
   exact⟨_,_,(heap_set hb).1,stamped_modify hs _ _ (fun _ _=>rfl) (fun e' _ he'=>by rw[hja]at he';cases he';exact h3.symm),XV he h2 _ rfl rfl,by simp[hcl]⟩
theorem Qc {t kt et:TypeId}{x y:Operand}{k:κ}{z:Value}(hK:KLaw P kt enc)(hU:P.underlying t=some (.map kt et))(hZ: ∀w,(zeroValue et).run P w=.ok z w)(hx:ev σ x=.map (some m))(hy:ev σ y=enc k)(hm:IsMap enc w m L)
 (h: ∀w1 j s,IsMapE enc w1 m (Kk L k z) j s→(∀v,(Kk L k z).set j (k,v)=UT L k v)→(∃p,(Kk L k z)[j]? =some p∧p.1=k)→Chg (fun i=>i=m) w w1→K (.tuple #[(yT L k).getD z,.int .i64 s]) w1):opV P ⟨d,.mapEntry t x y,ty,pos,af,gd⟩ σ w K:=by
 obtain⟨es,clock,hb,hs,he,hcl⟩:=hm
 rcases hK.find k w es.toList he.keys with⟨h1,h2⟩|⟨j,e,h1,h2,h3⟩
 ·have h0:=h {w with heap:=w.heap.setIfInBounds m (.map (es.push {key:=enc k,val:=z,born:=clock}) (clock+1))} es.size (clock:Int)
  unfold Kk UT at h0
  rw[(he.none h2).1,(he.none h2).2]at h0
  refine yB (v:=.tuple #[z,.int .i64 (clock:Int)]) (w':={w with heap:=w.heap.setIfInBounds m (.map (es.push {key:=enc k,val:=z,born:=clock}) (clock+1))}) ?_ (h0 ⟨_,_,(heap_set hb).1,stamped_push hs h2,Vv he k z clock,by simp[hcl],{key:=enc k,val:=z,born:=clock},by simp,rfl⟩ ?_ ?_ (YQ hb))
  ·simp[execOp,hx,hy,Instr.mapEntry,run_underlying hU,MapKept.run_getObj_map hb,hK.check,h1,hZ,MapKept.run_setObj_map _ hb,goInt,go_sem]
  ·intro v
   have hl:es.size=L.length:=by have:=he.len;simpa using this
   simp only[hl]
   rw[List.set_append_right _ _ (Nat.le_refl _),Nat.sub_self];rfl
  ·have hl:es.size=L.length:=by have:=he.len;simpa using this
   exact⟨(k,z),by rw[hl];simp,rfl⟩
 ·have hja:es[j]? =some e:=by simpa using h2
  obtain⟨hjl,hfi,hlk⟩:=he.some hK.inj hs.2.2 h2 h3
  have h0:=h {w with heap:=w.heap.setIfInBounds m (.map (es.modify j fun e=>{e with key:=enc k}) clock)} j (e.born:Int)
  unfold Kk UT at h0
  rw[hfi,hlk]at h0
  have hes:EntsV enc (es.modify j fun e=>{e with key:=enc k}).toList L:=by
   have h9:=XV he (k:=k) (v:=e.val) h2 (fun e=>{e with key:=enc k}) rfl rfl
   obtain⟨p,q1,q2,q3⟩:=he.at_ h2
   have:L.set j (k,e.val)=L:=by
    obtain⟨hj9,q4⟩:=List.getElem?_eq_some_iff.1 q1
    have hpk:p.1=k:=hK.inj (by rw[←q2,h3])
    rw[q3,show(k,p.2)=L[j] by rw[q4,←hpk]]
    exact List.set_getElem_self hj9
   rwa [this]at h9
  refine yB (v:=.tuple #[e.val,.int .i64 (e.born:Int)]) (w':={w with heap:=w.heap.setIfInBounds m (.map (es.modify j fun e=>{e with key:=enc k}) clock)}) ?_ (h0 ⟨_,_,(heap_set hb).1,stamped_modify hs _ _ (fun _ _=>rfl) (fun e' _ he'=>by rw[hja]at he';cases he';exact h3.symm),hes,by simp[hcl],{e with key:=enc k},by simp[Array.getElem?_modify,hja],rfl⟩ (fun v=>rfl) ((he.at_ h2).elim fun p hp=>⟨p,hp.1,hK.inj (by rw[←hp.2.1,h3])⟩) (YQ hb))
  simp[execOp,hx,hy,Instr.mapEntry,run_underlying hU,MapKept.run_getObj_map hb,hK.check,h1,hja,h3,hK.keeps,MapKept.run_setObj_map _ hb,goInt,go_sem]
theorem Vg {t:TypeId}{x y z:Operand}{j:Nat}{s:Int}{v:Value}{p:κ×Value}(hx:ev σ x=.map (some m))(hy:ev σ y=.int .i64 s)(hz:ev σ z=v)(hm:IsMapE enc w m L j s)(hp:L[j]? =some p)
 (h: ∀w1,IsMap enc w1 m (L.set j (p.1,v))→Chg (fun i=>i=m) w w1→K undef w1):opV P ⟨d,.entryStore t x y z,ty,pos,af,gd⟩ σ w K:=by
 obtain⟨es,clock,hb,hs,he,hcl,e,hja,hbn⟩:=hm
 have h2:es.toList[j]? =some e:=by simpa using hja
 have hjs:j<es.size:=(Array.getElem?_eq_some_iff.1 hja).1
 have hej:es[j]=e:=(Array.getElem?_eq_some_iff.1 hja).2
 have hfi:es.findIdx? (fun e=>(e.born:Int)== s)=some j:=by
  rw[Array.findIdx?_eq_some_iff_getElem]
  refine⟨hjs,by simp[hej,hbn],fun i hi=>?_⟩
  have:=List.pairwise_iff_getElem.1 (List.pairwise_map.1 hs.2.1) i j (by simp;omega) (by simpa using hjs) hi
  simp only[Array.getElem_toList]at this
  rw[hej]at this
  have h9: ¬((es[i].born:Int)=s):=fun e9=>this (by omega)
  simpa using h9
 obtain⟨q,q1,q2,q3⟩:=he.at_ h2
 rw[hp]at q1
 cases q1
 refine Xf (w':={w with heap:=w.heap.setIfInBounds m (.map (es.modify j fun e=>{e with val:=v}) clock)}) ?_ (h _ ?_ (YQ hb))
 ·simp[execOp,hx,hy,hz,Instr.entryStore,MapKept.run_getObj_map hb,asInt,hfi,MapKept.run_setObj_map _ hb,go_sem]
 ·exact⟨_,_,(heap_set hb).1,stamped_modify hs _ _ (fun _ _=>rfl) (fun e' _ he'=>rfl),XV he h2 _ q2 rfl,by simp[hcl]⟩
end
end
section
open Go.RowKit Go.MapKept
section
variable {κ β:Type}[DecidableEq κ]
theorem XH {L:List (κ×β)}{k q:κ}{v:β}:yT (L++[(k,v)]) q=(yT L q).or (if k=q then some v else none):=by
 unfold yT
 rw[List.find?_append]
 cases h:L.find? fun p=>decide (p.1=q)with
 |some p=>simp
 |none=>by_cases e:k=q<;>simp[List.find?,e]
theorem VS {L:List (κ×β)}{k:κ}(h:(L.findIdx? fun p=>decide (p.1=k))=none):yT L k=none:=by
 rw[List.findIdx?_eq_none_iff]at h
 unfold yT
 rw[Option.map_eq_none_iff,List.find?_eq_none]
 intro p hp
 simp[h p hp]
theorem zal {L:List (κ×β)}{k q:κ}{v:β}{j:Nat}{p:κ×β}(hj:L[j]? =some p)(hp:p.1=k)(hf: ∀i,i<j→ ∀r,L[i]? =some r→r.1≠k):yT (L.set j (k,v)) q=if k=q then some v else yT L q:=by
 induction L generalizing j with
 |nil=>simp at hj
 |cons a L ih=>
  cases j with
  |zero=>
   simp only[List.getElem?_cons_zero,Option.some.injEq]at hj
   subst hj
   unfold yT
   by_cases e:k=q
   ·subst e;simp
   ·simp[e,hp]
  |succ j=>
   have h1:=ih (j:=j) (by simpa using hj) (fun i hi r hr=>hf (i+1) (by omega) r (by simpa using hr))
   have h0:=hf 0 (by omega) a rfl
   unfold yT at h1⊢
   rw[List.set_cons_succ,List.find?_cons,List.find?_cons]
   by_cases e:a.1=q
   ·have: ¬k=q:=fun e2=>h0 (by rw[e,e2])
    simp[e,this]
   ·simp only[e,decide_false]
    exact h1
theorem VN {L:List (κ×β)}{k:κ}{j:Nat}(h:(L.findIdx? fun p=>decide (p.1=k))=some j):(∃p,L[j]? =some p∧p.1=k)∧ ∀i,i<j→ ∀r,L[i]? =some r→r.1≠k:=by
 rw[List.findIdx?_eq_some_iff_getElem]at h
 obtain⟨hj,h1,h2⟩:=h
 refine⟨⟨L[j],List.getElem?_eq_getElem hj,by simpa using h1⟩,fun i hi r hr=>?_⟩
 have:=h2 i hi
 obtain⟨hil,e⟩:=List.getElem?_eq_some_iff.1 hr
 rw[←e];simpa using this
theorem Vy (L:List (κ×β))(k q:κ)(v:β):yT (UT L k v) q=if k=q then some v else yT L q:=by
 unfold UT
 split
 ·rename_i j hj
  obtain⟨⟨p,h1,h2⟩,h3⟩:=VN hj
  exact zal h1 h2 h3
 ·rename_i hj
  rw[XH]
  by_cases e:k=q
  ·subst e;rw[VS hj];simp
  ·simp[e]
theorem Xo (L:List (κ×β))(k q:κ)(z:β)(h: ¬k=q):yT (Kk L k z) q=yT L q:=by
 unfold Kk
 split
 ·rfl
 ·rw[XH];simp[h]
end
def YF {κ α:Type}[DecidableEq κ](X:κ→Option α)(k:κ)(x:α):κ→Option α:=fun q=>if k=q then some x else X q
section
variable {κ α:Type}[DecidableEq κ]
def ValAt (E:Value→α→HP)(w:World)(F:Nat→Prop):Option Value→Option α→Prop
 |some v,some x=>(E v x).p w F
 |none,none=>True
 |_,_=>False
theorem ValAt.loc {E:Value→α→HP}{w w':World}{F F':Nat→Prop}: ∀{v:Option Value} {x:Option α},ValAt E w F v x→(∀b,F b→b<w.heap.size→w'.heap[b]? =w.heap[b]? ∧F' b)→ValAt E w' F' v x
 |some v,some x,h,hf=>(E v x).loc h hf
 |none,none,_,_=>trivial
 |some _,none,h,_=>h.elim
 |none,some _,h,_=>h.elim
theorem ValAt.isSome {E:Value→α→HP}{w:World}{F:Nat→Prop}: ∀{v:Option Value} {x:Option α},ValAt E w F v x→v.isSome=x.isSome
 |some _,some _,_=>rfl
 |none,none,_=>rfl
 |some _,none,h=>h.elim
 |none,some _,h=>h.elim
structure Spread (w:World) (m:Nat) (f:Nat→Prop) (g:κ→Nat→Prop):Prop where
 sub: ∀k b,g k b→f b∧b<w.heap.size∧b≠m
 apart: ∀k k',k≠k'→ ∀b,g k b→ ¬g k' b
theorem Spread.loc {w w':World}{m:Nat}{f f':Nat→Prop}{g:κ→Nat→Prop}(h:Spread w m f g)(hf: ∀b,f b→b<w.heap.size→w'.heap[b]? =w.heap[b]? ∧f' b):Spread w' m f' g:=
 ⟨fun k b hb=>⟨(hf b (h.sub k b hb).1 (h.sub k b hb).2.1).2,by
  obtain⟨h1,h2,_⟩:=h.sub k b hb
  have:=(hf b h1 h2).1
  rw[Array.getElem?_eq_getElem h2]at this
  exact(Array.getElem?_eq_some_iff.1 this).1,(h.sub k b hb).2.2⟩,h.apart⟩
theorem Spread.loc2 {w w':World}{m:Nat}{f:Nat→Prop}{g:κ→Nat→Prop}(h:Spread w m f g)(hz:w.heap.size≤w'.heap.size):Spread w' m f g:=⟨fun k b hb=>⟨(h.sub k b hb).1,Nat.lt_of_lt_of_le (h.sub k b hb).2.1 hz,(h.sub k b hb).2.2⟩,h.apart⟩
def MapO (enc:κ→Value)(E:Value→α→HP)(m:Nat)(X:κ→Option α):HP:=⟨fun w f=> ∃(R:List (κ×Value)) (g:κ→Nat→Prop),f m∧IsMap enc w m R∧(∀k,ValAt E w (g k) (yT R k) (X k))∧Spread w m f g,fun{w w' f f'} h hf=>by
 obtain⟨R,g,hm,⟨es,c,hb,r⟩,hv,hs⟩:=h
 exact⟨R,g,(hf m hm (xD hb)).2,⟨es,c,((hf m hm (xD hb)).1).trans hb,r⟩,fun k=>(hv k).loc (fun b hg hlt=>⟨(hf b (hs.sub k b hg).1 hlt).1,hg⟩),hs.loc hf⟩⟩
def ZS (enc:κ→Value)(E:Value→α→HP)(z:Value)(m:Nat)(X:κ→Option α)(k:κ)(v:Value):HP:=⟨fun w f=> ∃(R:List (κ×Value)) (g:κ→Nat→Prop),f m∧IsMap enc w m R∧(yT R k).getD z=v∧(yT R k).isSome=(X k).isSome∧(∀q,q≠k→ValAt E w (g q) (yT R q) (X q))∧Spread w m f g,fun{w w' f f'} h hf=>by
 obtain⟨R,g,hm,⟨es,c,hb,r⟩,h1,h2,hv,hs⟩:=h
 exact⟨R,g,(hf m hm (xD hb)).2,⟨es,c,((hf m hm (xD hb)).1).trans hb,r⟩,h1,h2,fun q hq=>(hv q hq).loc (fun b hg hlt=>⟨(hf b (hs.sub q b hg).1 hlt).1,hg⟩),hs.loc hf⟩⟩
def Ue (enc:κ→Value)(E:Value→α→HP)(m:Nat)(X:κ→Option α)(k:κ)(s:Int):HP:=⟨fun w f=> ∃(R:List (κ×Value)) (g:κ→Nat→Prop) (j:Nat),f m∧IsMapE enc w m R j s∧(∀v q,yT (R.set j (k,v)) q=if k=q then some v else yT R q)∧(∃p,R[j]? =some p∧p.1=k)∧(∀q,q≠k→ValAt E w (g q) (yT R q) (X q))∧Spread w m f g,fun{w w' f f'} h hf=>by
 obtain⟨R,g,j,hm,⟨es,c,hb,r⟩,h1,h2,hv,hs⟩:=h
 exact⟨R,g,j,(hf m hm (xD hb)).2,⟨es,c,((hf m hm (xD hb)).1).trans hb,r⟩,h1,h2,fun q hq=>(hv q hq).loc (fun b hg hlt=>⟨(hf b (hs.sub q b hg).1 hlt).1,hg⟩),hs.loc hf⟩⟩
def XT (E:Value→α→HP)(v:Value):Option α→HP
 |some x=>E v x
 |none=>Emp
end
section
variable {κ α:Type}[DecidableEq κ]{enc:κ→Value}{E:Value→α→HP}{z:Value}{m:Nat}{X:κ→Option α}{k:κ}{v:Value}{G:Nat→Prop}{W w:World}{As:List HP}
theorem Sep.mapoNew {w':World}(h:Sep G W As w)(hn:New w w' w.heap.size (.map #[] 0)):Sep G W (MapO enc E w.heap.size (fun _:κ=>(none:Option α))::As) w':=
 h.push hn.ext (f:=fun i=>i=w.heap.size) ⟨[],fun _ _=>False,rfl,⟨#[],0,hn.at_,stamped_empty 0,rfl,rfl⟩,fun _=>trivial,⟨fun _ _ h=>h.elim,fun _ _ _ _ h=>h.elim⟩⟩ (fun i hi=>by omega)
theorem Sep.mapoTake (h:Sep G W (MapO enc E m X::As) w)(z:Value)(k:κ): ∃v,(X k=none→v=z)∧Sep G W (ZS enc E z m X k v::XT E v (X k)::As) w:=by
 obtain⟨fs,q1,q2⟩:=h.parts
 obtain⟨⟨R,g,hm,hM,hv,hs⟩,hl⟩:=q1 0 _ rfl
 refine⟨(yT R k).getD z,fun hx=>?_,?_⟩
 ·have:=(hv k).isSome
  rw[hx]at this
  cases hR:yT R k with
  |none=>rfl
  |some u=>rw[hR]at this;cases this
 ·have h1:Sep G W (Star [ZS enc E z m X k ((yT R k).getD z),XT E ((yT R k).getD z) (X k)]::As) w:=by
   refine⟨h.kept,fs,fun i C hC=>?_,fun i j hi hj=>q2 i j (by simpa using hi) (by simpa using hj)⟩
   cases i with
   |succ i=>exact q1 (i+1) C (by simpa using hC)
   |zero=>
    simp only[List.getElem?_cons_zero,Option.some.injEq]at hC
    subst hC
    refine⟨⟨fun i b=>if i=0 then fs 0 b∧ ¬g k b∧b<w.heap.size else g k b,fun i C hC=>?_,fun i j hi hj hne b hb=>?_⟩,hl⟩
    ·match i,hC with
     |0,hC=>
      simp only[List.getElem?_cons_zero,Option.some.injEq]at hC
      subst hC
      refine⟨⟨R,fun q b=>if q=k then False else g q b,⟨hm,fun hg=>(hs.sub k m hg).2.2 rfl,hM.lt⟩,hM,rfl,(hv k).isSome,fun q hq=>?_,⟨fun q b hb=>?_,fun q q' hne b hb hb'=>?_⟩⟩,fun b hb=>⟨hb.1,hb.2.2⟩⟩
      ·simp only[if_neg hq];exact hv q
      ·by_cases e:q=k
       ·rw[if_pos e]at hb;exact hb.elim
       ·rw[if_neg e]at hb
        have:=hs.sub q b hb
        exact⟨⟨this.1,fun h9=>hs.apart q k e b hb h9,this.2.1⟩,this.2.1,this.2.2⟩
      ·by_cases e:q=k
       ·rw[if_pos e]at hb;exact hb.elim
       ·by_cases e':q'=k
        ·rw[if_pos e']at hb';exact hb'.elim
        ·rw[if_neg e]at hb;rw[if_neg e']at hb';exact hs.apart q q' hne b hb hb'
     |1,hC=>
      simp only[List.getElem?_cons_succ,List.getElem?_cons_zero,Option.some.injEq]at hC
      subst hC
      refine⟨?_,fun b hb=>⟨(hs.sub k b hb).1,(hs.sub k b hb).2.1⟩⟩
      have:=hv k
      cases hR:yT R k with
      |none=>
       rw[hR]at this
       cases hX:X k with
       |none=>exact trivial
       |some x=>rw[hX]at this;exact this.elim
      |some u=>
       rw[hR]at this
       cases hX:X k with
       |none=>rw[hX]at this;exact this.elim
       |some x=>rw[hX]at this;exact this
     |i+2,hC=>simp at hC
    ·simp only[List.length_cons,List.length_nil]at hi hj
     match i,j,hb with
     |0,0,_=>exact absurd rfl hne
     |0,1,hb=>exact hb.2.1
     |1,0,hb=>exact fun h9=>h9.2.1 hb
     |1,1,_=>exact absurd rfl hne
     |i+2,_,_=>omega
     |0,j+2,_=>omega
     |1,j+2,_=>omega
  exact h1.openStar
theorem Xt {f:Nat→Prop}{g:κ→Nat→Prop}{f0 f1:Nat→Prop}{w1:World}(hs:Spread w m f0 g)(h0: ∀b,f0 b→f b∧b<w.heap.size)(h1: ∀b,f1 b→f b∧b<w.heap.size)(hd: ∀b,f0 b→ ¬f1 b)(hm:f0 m)(hz:w.heap.size≤w1.heap.size):Spread w1 m f (fun q b=>if q=k then f1 b else g q b):=by
 refine⟨fun q b hb=>?_,fun q q' hne b hb hb'=>?_⟩
 ·by_cases e:q=k
  ·simp only[if_pos e]at hb
   exact⟨(h1 b hb).1,Nat.lt_of_lt_of_le (h1 b hb).2 hz,fun e2=>hd m hm (e2▸hb)⟩
  ·simp only[if_neg e]at hb
   have:=hs.sub q b hb
   exact⟨(h0 b this.1).1,Nat.lt_of_lt_of_le this.2.1 hz,this.2.2⟩
 ·by_cases e:q=k
  ·simp only[if_pos e]at hb
   have e': ¬q'=k:=fun e2=>hne (e.trans e2.symm)
   simp only[if_neg e']at hb'
   exact hd b (hs.sub q' b hb').1 hb
  ·simp only[if_neg e]at hb
   by_cases e':q'=k
   ·simp only[if_pos e']at hb'
    exact hd b (hs.sub q b hb).1 hb'
   ·simp only[if_neg e']at hb'
    exact hs.apart q q' hne b hb hb'
theorem Sep.mapoPut (h:Sep G W (ZS enc E z m X k v::XT E v (X k)::As) w):Sep G W (MapO enc E m X::As) w:=by
 have hst:=h.closeStar (Bs:=[ZS enc E z m X k v,XT E v (X k)])
 refine hst.impl (i:=0) rfl (fun f hA=>?_)
 obtain⟨gs,r1,r2⟩:=hA
 obtain⟨⟨R,g,hm,hM,hz,hi,hv,hs⟩,hf0⟩:=r1 0 _ rfl
 obtain⟨hN,hf1⟩:=r1 1 _ rfl
 have r2':=r2 0 1 (by simp) (by simp) (by simp)
 refine⟨R,fun q b=>if q=k then gs 1 b else g q b,(hf0 m hm).1,hM,fun q=>?_,Xt hs hf0 hf1 r2' hm (Nat.le_refl _)⟩
 by_cases e:q=k
 ·subst e
  simp only[if_true]
  cases hR:yT R q with
  |none=>
   rw[hR]at hi
   cases hX:X q with
   |none=>exact trivial
   |some x=>rw[hX]at hi;cases hi
  |some u=>
   rw[hR]at hi hz
   cases hX:X q with
   |none=>rw[hX]at hi;cases hi
   |some x=>rw[hX]at hN;simp only[Option.getD_some]at hz;subst hz;exact hN
 ·simp only[if_neg e]
  exact hv q e
theorem Sep.mapo1 (h:Sep G W As w){i:Nat}(hi:As[i]? =some (ZS enc E z m X k v)): ∃R,IsMap enc w m R∧(yT R k).getD z=v∧(yT R k).isSome=(X k).isSome:=by
 obtain⟨f,⟨R,g,hm,hM,hz,hi,_⟩,_⟩:=h.get hi;exact⟨R,hM,hz,hi⟩
end
section
variable {P:Program}{d:Option Tmp}{ty:TypeId}{pos:String}{af:Array Edge}{gd:Option (Nat×Bool)}{σ:Env}{w:World}{K:Value→World→Prop}{κ α:Type}[DecidableEq κ]{enc:κ→Value}{E:Value→α→HP}{z:Value}{m:Nat}{X:κ→Option α}{k:κ}{v:Value}{G:Nat→Prop}{W:World}{As:List HP}
theorem KH {t kt et:TypeId}{x y:Operand}{i:Nat}(h:Sep G W As w)(hi:As[i]? =some (ZS enc E z m X k v))(hK:KLaw P kt enc)(hU:P.underlying t=some (.map kt et))(hZ: ∀w,(zeroValue et).run P w=.ok z w)
 (hx:ev σ x=.map (some m)) (hy:ev σ y=enc k) (hk:K v w):opV P ⟨d,.lookup t x y false,ty,pos,af,gd⟩ σ w K:=by
 obtain⟨R,hM,e,_⟩:=h.mapo1 hi
 exact KK hK hU hZ hx hy hM (by rw[e];exact hk)
theorem YI {t kt et:TypeId}{x y:Operand}{i:Nat}(h:Sep G W As w)(hi:As[i]? =some (ZS enc E z m X k v))(hK:KLaw P kt enc)(hU:P.underlying t=some (.map kt et))(hZ: ∀w,(zeroValue et).run P w=.ok z w)
 (hx:ev σ x=.map (some m)) (hy:ev σ y=enc k) (hk:K (.tuple #[v,.bool (X k).isSome]) w):opV P ⟨d,.lookup t x y true,ty,pos,af,gd⟩ σ w K:=by
 obtain⟨R,hM,e,e2⟩:=h.mapo1 hi
 exact Wd hK hU hZ hx hy hM (by rw[e,e2];exact hk)
theorem Xk {t kt et:TypeId}{x y u:Operand}{v':Value}{x':α}(h:Sep G W (ZS enc E z m X k v::E v' x'::As) w)(hK:KLaw P kt enc)(hU:P.underlying t=some (.map kt et))(hx:ev σ x=.map (some m))(hy:ev σ y=enc k)(hu:ev σ u=v')
 (hk: ∀w1,Sep G W (MapO enc E m (YF X k x')::As) w1→K undef w1):opV P ⟨d,.mapUpdate t x y u,ty,pos,af,gd⟩ σ w K:=by
 have hst:=h.closeStar (Bs:=[ZS enc E z m X k v,E v' x'])
 obtain⟨ff,q1,q2⟩:=hst.parts
 obtain⟨⟨gs,r1,r2⟩,hl⟩:=q1 0 _ rfl
 obtain⟨⟨R,g,hm,hM,hz,hi,hv,hs⟩,hf0⟩:=r1 0 _ rfl
 obtain⟨hN,hf1⟩:=r1 1 _ rfl
 have r2':=r2 0 1 (by simp) (by simp) (by simp)
 refine VP hK hU hx hy hu hM (fun w1 hM1 hc=>hk w1 ?_)
 have keep: ∀b,b≠m→b<w.heap.size→w1.heap[b]? =w.heap[b]? :=fun b hb hlt=>hc.block b hlt hb
 have key:(MapO enc E m (YF X k x')).p w1 (ff 0):=by
  refine⟨UT R k v',fun q b=>if q=k then gs 1 b else g q b,(hf0 m hm).1,hM1,fun q=>?_,Xt hs hf0 hf1 r2' hm hc.size⟩
  rw[Vy]
  unfold YF
  by_cases e:q=k
  ·subst e
   simp only[if_true]
   exact(E v' x').loc hN (fun b hb hlt=>⟨keep b (fun e2=>r2' m hm (e2▸hb)) hlt,hb⟩)
  ·simp only[if_neg e,if_neg (Ne.symm e)]
   exact(hv q e).loc (fun b hb hlt=>⟨keep b (hs.sub q b hb).2.2 hlt,hb⟩)
 refine⟨hst.kept.chg hc (fun b hb=>by subst hb;exact(hl _ (hf0 _ hm).1).1),ff,fun i C hC=>?_,fun i j hi hj=>q2 i j (by simpa using hi) (by simpa using hj)⟩
 cases i with
 |zero=>
  simp only[List.getElem?_cons_zero,Option.some.injEq]at hC
  subst hC
  exact⟨key,fun b hb=>⟨(hl b hb).1,Nat.lt_of_lt_of_le (hl b hb).2 hc.size⟩⟩
 |succ i=>
  obtain⟨hp,hlp⟩:=q1 (i+1) C (by simpa using hC)
  have hne: ∀b,ff (i+1) b→b≠m:=fun b hb e2=>by
   subst e2
   exact q2 0 (i+1) (by simp) (by have:=(List.getElem?_eq_some_iff.1 hC).1;simpa using this) (by omega) _ (hf0 _ hm).1 hb
  exact⟨C.loc hp (fun b hb hlt=>⟨keep b (hne b hb) hlt,hb⟩),fun b hb=>⟨(hlp b hb).1,Nat.lt_of_lt_of_le (hlp b hb).2 hc.size⟩⟩
theorem UQ {t kt et:TypeId}{x y:Operand}(h:Sep G W (ZS enc E z m X k v::As) w)(hK:KLaw P kt enc)(hU:P.underlying t=some (.map kt et))(hZ: ∀w,(zeroValue et).run P w=.ok z w)(hx:ev σ x=.map (some m))(hy:ev σ y=enc k)
 (hk: ∀w1 s,Sep G W (Ue enc E m X k s::As) w1→K (.tuple #[v,.int .i64 s]) w1):opV P ⟨d,.mapEntry t x y,ty,pos,af,gd⟩ σ w K:=by
 obtain⟨ff,q1,q2⟩:=h.parts
 obtain⟨⟨R,g,hm,hM,hz,hi,hv,hs⟩,hl⟩:=q1 0 _ rfl
 refine Qc hK hU hZ hx hy hM (fun w1 j s hM1 hset hp hc=>?_)
 rw[hz]
 refine hk w1 s ?_
 have keep: ∀b,b≠m→b<w.heap.size→w1.heap[b]? =w.heap[b]? :=fun b hb hlt=>hc.block b hlt hb
 have key:(Ue enc E m X k s).p w1 (ff 0):=by
  refine⟨Kk R k z,g,j,hm,hM1,fun u q=>?_,hp,fun q hq=>?_,hs.loc2 hc.size⟩
  ·rw[hset u,Vy]
   by_cases e:k=q
   ·rw[if_pos e,if_pos e]
   ·rw[if_neg e,if_neg e,Xo _ _ _ _ e]
  ·rw[Xo _ _ _ _ (Ne.symm hq)]
   exact(hv q hq).loc (fun b hb hlt=>⟨keep b (hs.sub q b hb).2.2 hlt,hb⟩)
 refine⟨h.kept.chg hc (fun b hb=>by subst hb;exact(hl _ hm).1),ff,fun i C hC=>?_,fun i j hi hj=>q2 i j (by simpa using hi) (by simpa using hj)⟩
 cases i with
 |zero=>
  simp only[List.getElem?_cons_zero,Option.some.injEq]at hC
  subst hC
  exact⟨key,fun b hb=>⟨(hl b hb).1,Nat.lt_of_lt_of_le (hl b hb).2 hc.size⟩⟩
 |succ i=>
  obtain⟨hp,hlp⟩:=q1 (i+1) C (by simpa using hC)
  have hne: ∀b,ff (i+1) b→b≠m:=fun b hb e2=>by
   subst e2
   exact q2 0 (i+1) (by simp) (by have:=(List.getElem?_eq_some_iff.1 hC).1;simpa using this) (by omega) _ hm hb
  exact⟨C.loc hp (fun b hb hlt=>⟨keep b (hne b hb) hlt,hb⟩),fun b hb=>⟨(hlp b hb).1,Nat.lt_of_lt_of_le (hlp b hb).2 hc.size⟩⟩
theorem WR {t:TypeId}{x y u:Operand}{s:Int}{v':Value}{x':α}(h:Sep G W (Ue enc E m X k s::E v' x'::As) w)(hx:ev σ x=.map (some m))(hy:ev σ y=.int .i64 s)(hu:ev σ u=v')
 (hk: ∀w1,Sep G W (MapO enc E m (YF X k x')::As) w1→K undef w1):opV P ⟨d,.entryStore t x y u,ty,pos,af,gd⟩ σ w K:=by
 have hst:=h.closeStar (Bs:=[Ue enc E m X k s,E v' x'])
 obtain⟨ff,q1,q2⟩:=hst.parts
 obtain⟨⟨gs,r1,r2⟩,hl⟩:=q1 0 _ rfl
 obtain⟨⟨R,g,j,hm,hM,hset,⟨p,hp,hpk⟩,hv,hs⟩,hf0⟩:=r1 0 _ rfl
 obtain⟨hN,hf1⟩:=r1 1 _ rfl
 have r2':=r2 0 1 (by simp) (by simp) (by simp)
 refine Vg hx hy hu hM hp (fun w1 hM1 hc=>hk w1 ?_)
 rw[hpk]at hM1
 have keep: ∀b,b≠m→b<w.heap.size→w1.heap[b]? =w.heap[b]? :=fun b hb hlt=>hc.block b hlt hb
 have key:(MapO enc E m (YF X k x')).p w1 (ff 0):=by
  refine⟨R.set j (k,v'),fun q b=>if q=k then gs 1 b else g q b,(hf0 m hm).1,hM1,fun q=>?_,Xt hs hf0 hf1 r2' hm hc.size⟩
  rw[hset v' q]
  unfold YF
  by_cases e:q=k
  ·subst e
   simp only[if_true]
   exact(E v' x').loc hN (fun b hb hlt=>⟨keep b (fun e2=>r2' m hm (e2▸hb)) hlt,hb⟩)
  ·simp only[if_neg e,if_neg (Ne.symm e)]
   exact(hv q e).loc (fun b hb hlt=>⟨keep b (hs.sub q b hb).2.2 hlt,hb⟩)
 refine⟨hst.kept.chg hc (fun b hb=>by subst hb;exact(hl _ (hf0 _ hm).1).1),ff,fun i C hC=>?_,fun i j hi hj=>q2 i j (by simpa using hi) (by simpa using hj)⟩
 cases i with
 |zero=>
  simp only[List.getElem?_cons_zero,Option.some.injEq]at hC
  subst hC
  exact⟨key,fun b hb=>⟨(hl b hb).1,Nat.lt_of_lt_of_le (hl b hb).2 hc.size⟩⟩
 |succ i=>
  obtain⟨hp,hlp⟩:=q1 (i+1) C (by simpa using hC)
  have hne: ∀b,ff (i+1) b→b≠m:=fun b hb e2=>by
   subst e2
   exact q2 0 (i+1) (by simp) (by have:=(List.getElem?_eq_some_iff.1 hC).1;simpa using this) (by omega) _ (hf0 _ hm).1 hb
  exact⟨C.loc hp (fun b hb hlt=>⟨keep b (hne b hb) hlt,hb⟩),fun b hb=>⟨(hlp b hb).1,Nat.lt_of_lt_of_le (hlp b hb).2 hc.size⟩⟩
end
end
section
theorem Yr {α:Type}{P:List α→Prop}(h0:P [])(h1: ∀l x,P l→P (l++[x]))(l:List α):P l:=by
 rw[←List.reverse_reverse l]
 induction l.reverse with
 |nil=>exact h0
 |cons x l ih=>rw[List.reverse_cons];exact h1 _ _ ih
def yz (v:List Int)(o:Int):Int:=if o<0∨(v.length:Int)≤o then 0 else max (v.getD o.toNat 0) 0
def ZR (a b:Ev):Bool:=decide (a.seq≤yz b.deps a.origin)
def xZ (a b:Ev):Bool:= !decide (a.origin=b.origin∧a.seq=b.seq)&& !ZR a b&& !ZR b a
def YN (k oA aA oB aB:Int):Bool:=
 if k=2 then decide (oA=2)&&decide (oB=2)&& !decide (oA=oB∧aA=aB)
 else if k=4 then decide (oA=5)&&decide (oB=5)&& !decide (oA=oB∧aA=aB)
 else if k=3 then(decide (oA=3∧aA=aB)&&decide (oB=4∧aB=aA))||(decide (oA=4∧aA=aB)&&decide (oB=3∧aB=aA))
 else false
def xt (f:Fld)(x e:Ev):Bool:=(decide (f.policy=2)||(decide (f.policy=3)&&decide (e.arg<x.arg)))&&YN f.kind x.op x.arg e.op e.arg&&xZ x e
def onL (k:Int×Int)(x:Ent):Bool:= !x.void&&decide (x.ev.typ=k.1∧x.ev.agg=k.2)
def on3 (k:Int×Int×Int)(x:Ent):Bool:= !x.void&&decide (x.ev.typ=k.1∧x.ev.agg=k.2.1∧x.ev.field=k.2.2)
def xR (d:Dcl)(ty:Int):Typ:=d.types.getD ty.toNat default
def zaM (t:Typ):List Cel:=List.replicate t.fields.length (⟨0,[]⟩:Cel)
def zM (d:Dcl)(k:Int×Int)(L:List Ent):List Cel:=L.foldl (fun c x=>if onL k x then doL (xR d k.1) c x.ev.field x.ev.op x.ev.arg else c) (zaM (xR d k.1))
def yn (k:Int×Int)(L:List Ent):Nat:=(L.filter (onL k)).length
def yG (k:Int×Int×Int)(L:List Ent):List Ev:=(L.filter (on3 k)).map (·.ev)
def ye (d:Dcl)(L:List Ent)(e:Ev):Bool×Int×Int:=
 if ¬xb d e.typ e.field e.op e.arg=0 then(true,0,0)
 else match (yG (e.typ,e.agg,e.field) L).find? (fun x=>xt ((xR d e.typ).fields.getD e.field.toNat default) x e)with
  |some x=>(true,x.origin,x.seq)
  |none=>if ¬yN (xR d e.typ) (zM d (e.typ,e.agg) L) e.field e.op e.arg=0 then(true,0,0)else(false,0,0)
def yI (d:Dcl)(L:List Ent)(e:Ev):Ent:=⟨e,(ye d L e).1,(ye d L e).2.1,(ye d L e).2.2⟩
def zq (d:Dcl)(l:List Ev):List Ent:=l.foldl (fun L e=>L++[yI d L e]) []
def zt (d:Dcl)(L:List Ent):Int×Int→Option (Nat×List Cel):=fun k=>if yn k L=0 then none else some (yn k L,zM d k L)
def yW (L:List Ent):Int×Int×Int→Option (List Ev):=fun k=>if(yG k L).isEmpty then none else some (yG k L)
def Inv (d:Dcl)(L:List Ent):Prop:= ∀ty ag:Int,0≤ty→ty<d.types.length→Right (xR d ty) (zM d (ty,ag) L)
theorem xT (d:Dcl)(l:List Ev)(e:Ev):zq d (l++[e])=zq d l++[yI d (zq d l) e]:=by unfold zq;rw[List.foldl_append];rfl
theorem xX (d:Dcl)(k:Int×Int)(L:List Ent)(x:Ent):zM d k (L++[x])=if onL k x then doL (xR d k.1) (zM d k L) x.ev.field x.ev.op x.ev.arg else zM d k L:=by unfold zM;rw[List.foldl_append];rfl
theorem Zw (k:Int×Int)(L:List Ent)(x:Ent):yn k (L++[x])=if onL k x then yn k L+1 else yn k L:=by
 unfold yn
 rw[List.filter_append,List.length_append,List.filter_cons]
 split<;>simp
theorem Vs (k:Int×Int×Int)(L:List Ent)(x:Ent):yG k (L++[x])=if on3 k x then yG k L++[x.ev]else yG k L:=by
 unfold yG
 rw[List.filter_append,List.filter_cons]
 split<;>simp
theorem ZJ (k:Int×Int)(L:List Ent):yn k L≤L.length:=List.length_filter_le _ _
theorem WH {d:Dcl}{k:Int×Int}: ∀{L:List Ent},yn k L=0→zM d k L=zaM (xR d k.1):=by
 intro L
 induction L using Yr with
 |h0=>intro _;rfl
 |h1 L x ih=>
  intro h
  rw[Zw]at h
  rw[xX]
  split
  ·rename_i hx;rw[if_pos hx]at h;omega
  ·rename_i hx;rw[if_neg hx]at h;exact ih h
theorem Zp {d:Dcl}{L:List Ent}{x:Ent}(h:x.void=true):zt d (L++[x])=zt d L∧yW (L++[x])=yW L:=by
 constructor
 ·funext k
  have:onL k x=false:=by unfold onL;rw[h];rfl
  unfold zt
  rw[Zw,xX,this]
  rfl
 ·funext k
  have:on3 k x=false:=by unfold on3;rw[h];rfl
  unfold yW
  rw[Vs,this]
  rfl
theorem Kl {d:Dcl}{L:List Ent}{x:Ent}(h:x.void=false):zt d (L++[x])=YF (zt d L) (x.ev.typ,x.ev.agg) (yn (x.ev.typ,x.ev.agg) L+1,doL (xR d x.ev.typ) (zM d (x.ev.typ,x.ev.agg) L) x.ev.field x.ev.op x.ev.arg):=by
 funext k
 unfold zt YF
 rw[Zw,xX]
 by_cases e:(x.ev.typ,x.ev.agg)=k
 ·subst e
  have:onL (x.ev.typ,x.ev.agg) x=true:=by unfold onL;rw[h];simp
  rw[this]
  simp
 ·have:onL k x=false:=by
   unfold onL
   rw[h]
   have: ¬(x.ev.typ=k.1∧x.ev.agg=k.2):=fun h9=>e (by obtain⟨a,b⟩:=k;obtain⟨rfl,rfl⟩:=h9;rfl)
   simp[this]
  rw[this]
  simp[e]
theorem JW {L:List Ent}{x:Ent}(h:x.void=false):yW (L++[x])=YF (yW L) (x.ev.typ,x.ev.agg,x.ev.field) (yG (x.ev.typ,x.ev.agg,x.ev.field) L++[x.ev]):=by
 funext k
 unfold yW YF
 rw[Vs]
 by_cases e:(x.ev.typ,x.ev.agg,x.ev.field)=k
 ·subst e
  have:on3 (x.ev.typ,x.ev.agg,x.ev.field) x=true:=by unfold on3;rw[h];simp
  rw[this]
  simp
 ·have:on3 k x=false:=by
   unfold on3
   rw[h]
   have: ¬(x.ev.typ=k.1∧x.ev.agg=k.2.1∧x.ev.field=k.2.2):=fun h9=>e (by obtain⟨a,b,c⟩:=k;obtain⟨rfl,rfl,rfl⟩:=h9;rfl)
   simp[this]
  rw[this]
  simp[e]
theorem QW (t:Typ):Right t (zaM t):=Je
theorem Inv.nil (d:Dcl):Inv d []:=fun ty ag _ _=>QW _
theorem XX {d:Dcl}{L:List Ent}{e:Ev}(h:(ye d L e).1=false):xb d e.typ e.field e.op e.arg=0∧yN (xR d e.typ) (zM d (e.typ,e.agg) L) e.field e.op e.arg=0:=by
 unfold ye at h
 split at h
 ·cases h
 rename_i h1
 split at h
 ·cases h
 split at h
 ·cases h
 rename_i h2
 exact⟨Decidable.not_not.1 h1,Decidable.not_not.1 h2⟩
theorem Inv.snoc {d:Dcl}{L:List Ent}{e:Ev}(hd:DclOk d)(h:Inv d L):Inv d (L++[yI d L e]):=by
 intro ty ag h0 h1
 rw[xX]
 split
 ·rename_i hx
  unfold onL at hx
  simp only[Bool.and_eq_true,Bool.not_eq_true',decide_eq_true_eq]at hx
  obtain⟨hv,ht,ha⟩:=hx
  obtain⟨hf,hm⟩:=XX (d:=d) (L:=L) (e:=e) hv
  obtain⟨f1,f2,hft⟩:=ZM hf
  have ht':e.typ=ty:=ht
  have ha':e.agg=ag:=ha
  subst ht' ha'
  exact zbC hft (hd.typ _ (by omega)) (h e.typ e.agg h0 h1) (zcZ hm)
 ·exact h ty ag h0 h1
theorem Inv.run {d:Dcl}(hd:DclOk d)(l:List Ev):Inv d (zq d l):=by
 induction l using Yr with
 |h0=>exact Inv.nil d
 |h1 l e ih=>rw[xT];exact ih.snoc hd
end
section
open Go.RowKit
instance {α:Type} [Rep α]:Rep (Bool×α) where
 k:=Rep.k α
 rd w F cs x:=Rep.rd w F cs x.2
 bytes:=Rep.bytes α
 bpos:=Rep.bpos
 kpos:=Rep.kpos
 len h:=Rep.len h
 one h:=Rep.one h
 mono h hF:=Rep.mono h hF
def mix {α:Type}[Rep α](G:Nat→Prop)(W:World):Src (Bool×α):=
 ⟨fun cs x=>if x.1 then(own (α:=α)).el cs x.2 else(shr (α:=α) G W).el cs x.2,fun{w f cs x} h=>by
  split at h
  ·exact(own (α:=α)).len h
  ·exact(shr (α:=α) G W).len h,fun{w f cs x} h=>by
  split at h
  ·exact(own (α:=α)).one h
  ·exact(shr (α:=α) G W).one h⟩
def ZV {α:Type}(k:Nat)(l:List α):List (Bool×α):=(l.take k).map (Prod.mk true)++(l.drop k).map (Prod.mk false)
theorem Zs {α:Type}(k:Nat)(l:List α):(ZV k l).length=l.length:=by unfold ZV;simp;omega
theorem QV {α:Type}{k i:Nat}{l:List α}(hk:k≤i)(hi:i<l.length):(ZV k l)[i]? =some (false,l[i]):=by
 unfold ZV
 rw[List.getElem?_append_right (by simp;omega)]
 simp only[List.length_map,List.length_take,List.getElem?_map,List.getElem?_drop]
 rw[show k+(i-min k l.length)=i by omega,List.getElem?_eq_getElem hi];rfl
theorem zaz {α:Type}{k:Nat}{l:List α}(hk:k<l.length):(ZV k l).set k (true,l[k])=ZV (k+1) l:=by
 unfold ZV
 rw[List.take_succ_eq_append_getElem hk,List.map_append,List.append_assoc,List.set_append_right _ _ (by simp only[List.length_map,List.length_take];omega),List.drop_eq_getElem_cons hk]
 simp only[List.length_map,List.length_take,List.map_cons,List.map_nil,List.singleton_append]
 rw[show k-min k l.length=0 by omega,List.set_cons_zero]
section
variable {α:Type}[Rep α]{G:Nat→Prop}{W w:World}{As:List HP}{T:TypeId}{v:Value}{l:List α}
theorem EP.mapIn {β:Type}{q:List Value→α→Prop}{q':List Value→β→Prop}(g:α→β)(h: ∀cs x,q cs x→q' cs (g x)): ∀{css:List (List Value)} {l:List α},EP q css l→EP q' css (l.map g)
 |[],[],_=>trivial
 |_::_,_::_,hh=>⟨h _ _ hh.1,EP.mapIn g h hh.2⟩
 |[],_::_,hh=>hh.elim
 |_::_,[],hh=>hh.elim
theorem EP.mapOut {β:Type}{q:List Value→α→Prop}{q':List Value→β→Prop}(g:α→β)(h: ∀cs x,q' cs (g x)→q cs x): ∀{css:List (List Value)} {l:List α},EP q' css (l.map g)→EP q css l
 |[],[],_=>trivial
 |_::_,_::_,hh=>⟨h _ _ hh.1,EP.mapOut g h hh.2⟩
 |[],_::_,hh=>hh.elim
 |_::_,[],hh=>hh.elim
theorem Sep.toMix (h:Sep G W (RowE (shr G W) T v l::As) w):Sep G W (RowE (mix (α:=α) G W) T v (ZV 0 l)::As) w:=by
 refine h.impl (i:=0) rfl (fun f hA=>?_)
 obtain⟨css,hE,hown,hrow,hsm⟩:=hA
 have e:ZV 0 l=l.map (Prod.mk false):=by unfold ZV;simp
 rw[e]
 exact⟨css,EP.mapIn (Prod.mk false) (fun cs x hx=>hx) hE,by rw[List.length_map];exact hown,hrow,by rw[List.length_map];exact hsm⟩
theorem Sep.ofMix {n:Nat}(h:Sep G W (RowE (mix (α:=α) G W) T v (ZV n l)::As) w)(hn:l.length≤n):Sep G W (RowE (own (α:=α)) T v l::As) w:=by
 refine h.impl (i:=0) rfl (fun f hA=>?_)
 have e:ZV n l=l.map (Prod.mk true):=by unfold ZV;rw[List.take_of_length_le hn,List.drop_of_length_le hn];simp
 rw[e]at hA
 obtain⟨css,hE,hown,hrow,hsm⟩:=hA
 exact⟨css,EP.mapOut (Prod.mk true) (fun cs x hx=>hx) hE,by rw[List.length_map]at hown;exact hown,hrow,by rw[List.length_map]at hsm;exact hsm⟩
theorem Sep.mixAt {i k j:Nat}(h:Sep G W As w)(hi:As[i]? =some (RowE (mix (α:=α) G W) T v (ZV k l)))(hk:k≤j)(hj:j<l.length): ∃cs,CellsAt w (sb v) (so v+j*Rep.k α) cs∧Rep.rd W G cs l[j]:=by
 obtain⟨cs,f,h1,h2⟩:=h.rowAt hi (j:=j) (by rw[Zs];exact hj)
 have e:(ZV k l)[j]'(by rw[Zs];exact hj)=(false,l[j]):=by
  have:=QV hk hj
  rw[List.getElem?_eq_getElem (by rw[Zs];exact hj)]at this
  exact Option.some.inj this
 rw[e]at h2
 exact⟨cs,h1,h2⟩
end
section
variable {α:Type}[Rep α]{P:Program}{d:Option Tmp}{ty:TypeId}{pos:String}{af:Array Edge}{gd:Option (Nat×Bool)}{σ:Env}{w:World}{K:Value→World→Prop}{G:Nat→Prop}{W:World}{As:List HP}{N:HP}{T:TypeId}{v:Value}{l:List α}
theorem XR {t:TypeId}{j o:Nat}{x y:Operand}{u:Value}{us:List Value}(h:Sep G W (RowE (mix (α:=α) G W) T v (ZV j l)::N::As) w)(hS: ∀w,(sizeOf t).run P w=.ok us.length w)(hj:j<l.length)
 (hx:ev σ x=.pointer (some ⟨sb v,so v+j*Rep.k α+o,none⟩)) (hy:ev σ y=u) (hu:u.cells.toList=us) (ho:o+us.length≤Rep.k α) (h1: ∀u∈us,u.oneCell'=true)
 (hq: ∀w f cs0,Rep.rd W G cs0 l[j]→N.p w f→((own (α:=α)).el (cs0.take o++us++cs0.drop (o+us.length)) l[j]).p w f)
 (hK: ∀w',Sep G W (RowE (mix (α:=α) G W) T v (ZV (j+1) l)::As) w'→K undef w'):opV P ⟨d,.store t x y,ty,pos,af,gd⟩ σ w K:=by
 have e:(ZV j l)[j]'(by rw[Zs];exact hj)=(false,l[j]):=by
  have:=QV (Nat.le_refl j) hj
  rw[List.getElem?_eq_getElem (by rw[Zs];exact hj)]at this
  exact Option.some.inj this
 refine xe (α:=Bool×α) (j:=j) (o:=o) (u:=u) (us:=us) (x1:=(true,l[j])) h hS (by rw[Zs];exact hj) hx hy hu ho h1 (fun w f cs0 hel hN=>?_) (fun w' h'=>hK w' (by rw[zaz hj]at h';exact h'))
 rw[e]at hel
 exact hq w f cs0 hel hN
end
end
section
section
variable {P:Program}{n:Nat}{Q:ZW}{σ:Env}{w:World}{ops:List Oper}{pre:List (List Nat)}
def xv:List Nat→(Nat→Bool)→Nat
 |[],_=>0
 |s::r,d=>(if d s=true then 1 else 0)+2*xv r d
theorem Kq: ∀(ss:List Nat) (d:Nat→Bool),xv ss d<2^ss.length
 |[],_=>Nat.one_pos
 |s::r,d=>by
  have:=Kq r d
  simp only[xv,List.length_cons,Nat.pow_succ]
  split<;>omega
theorem Uw: ∀(ss:List Nat) (d:Nat→Bool) (p s:Nat),ss[p]? =some s→(xv ss d).testBit p=d s
 |[],_,_,_,h=>by simp at h
 |x::r,d,0,s,h=>by
  simp only[List.getElem?_cons_zero,Option.some.injEq]at h
  subst h
  rw[Nat.testBit_zero,xv]
  cases h:d x<;>simp<;>omega
 |x::r,d,p+1,s,h=>by
  have:=Uw r d p s (by simpa using h)
  rw[Nat.testBit_succ,xv,show((if d x=true then 1 else 0)+2*xv r d)/2=xv r d by split<;>omega]
  exact this
theorem Uj {ss:List Nat}{d:Nat→Bool}{i:Nat}(h:i∉ss):xv ss (fun j=>d j||j== i)=xv ss d:=by
 induction ss with
 |nil=>rfl
 |cons s r ih=>
  have hs: ¬s=i:=fun e=>h (e▸List.mem_cons_self)
  simp only[xv]
  rw[ih (fun hm=>h (List.mem_cons_of_mem _ hm))]
  simp[hs]
theorem zac {ss:List Nat}{d:Nat→Bool}{i:Nat}(hnd:ss.Nodup)(h:i∈ss)(hd:d i=false):xv ss (fun j=>d j||j== i)=xv ss d+2^ss.idxOf i:=by
 induction ss with
 |nil=>cases h
 |cons s r ih=>
  obtain⟨h1,h2⟩:=List.nodup_cons.1 hnd
  by_cases e:s=i
  ·subst e
   simp only[xv,List.idxOf_cons_self]
   rw[Uj h1]
   simp[hd]
   omega
  ·have hm:i∈r:=by
    rcases List.mem_cons.1 h with e2|hm
    ·exact absurd e2.symm e
    ·exact hm
   simp only[xv]
   rw[ih h2 hm,show(s::r).idxOf i=r.idxOf i+1 by rw[List.idxOf_cons,show(s== i)=false from beq_eq_false_iff_ne.2 e];rfl,Nat.pow_succ]
   simp[e]
   omega
theorem Uz: ∀{ss:List Nat} {d:Nat→Bool},(∀s∈ss,d s=true)→xv ss d=2^ss.length-1
 |[],_,_=>rfl
 |s::r,d,h=>by
  have:=Uz (ss:=r) (d:=d) (fun q hq=>h q (List.mem_cons_of_mem _ hq))
  have h2:0<2^r.length:=Nat.two_pow_pos _
  simp only[xv,List.length_cons,Nat.pow_succ,h s List.mem_cons_self,if_true,this]
  omega
theorem Vx: ∀{ss:List Nat} {d:Nat→Bool},(∀s∈ss,d s=false)→xv ss d=0
 |[],_,_=>rfl
 |s::r,d,h=>by
  have:=Vx (ss:=r) (d:=d) (fun q hq=>h q (List.mem_cons_of_mem _ hq))
  simp[xv,h s List.mem_cons_self,this]
def zcb (pre:List (List Nat))(ss:List Nat)(m i:Nat):Bool:=(List.range ss.length).all fun p=>match ss.getD p 0 with
 |s=>(!(pre.getD i []).contains s||m.testBit p)&&(!(Nat.beq s i||(pre.getD s []).contains i)|| !m.testBit p)&&(!m.testBit p||(List.range ss.length).all fun r=> !(pre.getD s []).contains (ss.getD r 0)||m.testBit r)
def maskOk (pre:List (List Nat))(ss:List Nat)(sees:List (List Nat)):Bool:=(List.range sees.length).all fun i=>(List.range (2^ss.length)).all fun m=> !zcb pre ss m i||(sees.getD i []).contains m
theorem maskOk.mem {ss:List Nat}{sees:List (List Nat)}(h:maskOk pre ss sees=true){i:Nat}(hi:i<sees.length){done:Nat→Bool}(hc:closed pre done)(hd:done i=false)(hp: ∀j∈pre.getD i [],done j=true):xv ss done∈sees.getD i []:=by
 simp only[maskOk,List.all_eq_true,List.mem_range]at h
 have h1:=h i hi (xv ss done) (Kq _ _)
 have hcons:zcb pre ss (xv ss done) i=true:=by
  simp only[zcb,List.all_eq_true,List.mem_range]
  intro p hp'
  have hb: ∀r,r<ss.length→(xv ss done).testBit r=done (ss.getD r 0):=fun r hr=>Uw ss done r _ (by rw[List.getD_eq_getElem?_getD,List.getElem?_eq_getElem hr];rfl)
  simp only[Bool.and_eq_true,Bool.or_eq_true,Bool.not_eq_true',List.all_eq_true,List.mem_range]
  rw[hb p hp']
  refine⟨⟨?_,?_⟩,?_⟩
  ·cases hk:(pre.getD i []).contains (ss.getD p 0)with
   |false=>exact .inl rfl
   |true=>exact .inr (hp _ (List.contains_iff_mem.1 hk))
  ·cases hk:(Nat.beq (ss.getD p 0) i||(pre.getD (ss.getD p 0) []).contains i)with
   |false=>exact .inl rfl
   |true=>
    right
    rcases Bool.or_eq_true _ _▸hk with h2|h2
    ·rw[Nat.eq_of_beq_eq_true h2];exact hd
    ·cases hds:done (ss.getD p 0)with
     |false=>rfl
     |true=>have:=hc _ hds i (List.contains_iff_mem.1 h2);rw[hd]at this;cases this
  ·cases hds:done (ss.getD p 0)with
   |false=>exact .inl rfl
   |true=>
    right
    intro r hr
    rw[hb r hr]
    cases hk:(pre.getD (ss.getD p 0) []).contains (ss.getD r 0)with
    |false=>exact .inl rfl
    |true=>exact .inr (hc _ hds _ (List.contains_iff_mem.1 hk))
 rw[hcons]at h1
 simpa using h1
def Qv (P:Program)(ops:List Oper)(pre:List (List Nat))(ss:List Nat)(sees:List (List Nat))(W:Nat→(Nat→Value)→World→Prop)(A:Nat→(Nat→Value)→Prop)(σ:Env):Nat→List Oper→Prop
 |_,[]=>True
 |i,o::rest=>(∀k vals w,k∈sees.getD i []→W k vals w→(∀j,j∈pre.getD i []→A j vals)→
  if Region.wanted o (yl ops.toArray (Wp ops (pre.getD i []) σ vals))then opV P o (Wp ops (pre.getD i []) σ vals) w (fun v w'=> ∀vals',vals' i=v→(∀j,j≠i→vals' j=vals j)→(if ss.contains i then W (k+2^ss.idxOf i) vals' w' else w'=w)∧A i vals')
  else ∀vals',vals' i=undef→(∀j,j≠i→vals' j=vals j)→(if ss.contains i then W (k+2^ss.idxOf i) vals' w else True)∧A i vals')∧
  Qv P ops pre ss sees W A σ (i+1) rest
theorem zbr {ss:List Nat}{sees:List (List Nat)}{W:Nat→(Nat→Value)→World→Prop}{A:Nat→(Nat→Value)→Prop}{i0:Nat}: ∀{l:List Oper},Qv P ops pre ss sees W A σ i0 l→ ∀i o,l[i]? =some o→ ∀k vals w,k∈sees.getD (i0+i) []→W k vals w→(∀j,j∈pre.getD (i0+i) []→A j vals)→
 if Region.wanted o (yl ops.toArray (Wp ops (pre.getD (i0+i) []) σ vals))then opV P o (Wp ops (pre.getD (i0+i) []) σ vals) w (fun v w'=> ∀vals',vals' (i0+i)=v→(∀j,j≠i0+i→vals' j=vals j)→(if ss.contains (i0+i)then W (k+2^ss.idxOf (i0+i)) vals' w' else w'=w)∧A (i0+i) vals')
 else ∀vals',vals' (i0+i)=undef→(∀j,j≠i0+i→vals' j=vals j)→(if ss.contains (i0+i)then W (k+2^ss.idxOf (i0+i)) vals' w else True)∧A (i0+i) vals':=by
 intro l
 induction l generalizing i0 with
 |nil=>intro _ i o h;simp at h
 |cons x l ih=>
  intro h i o ho
  obtain⟨h1,h2⟩:=h
  cases i with
  |zero=>simp only[List.getElem?_cons_zero,Option.some.injEq]at ho;subst ho;exact h1
  |succ i=>
   have:=ih h2 i o (by simpa using ho)
   rw[show i0+1+i=i0+(i+1) by omega]at this
   exact this
theorem zed {ss:List Nat}{sees:List (List Nat)}{W:Nat→(Nat→Value)→World→Prop}{A:Nat→(Nat→Value)→Prop}(hf:Fit ops pre ops.length)(hd:xI n ops=true)(hkl:sees.length=ops.length)(hk:maskOk pre ss sees=true)(hsl: ∀s∈ss,s<ops.length)(hnd:ss.Nodup)
 (hloc: ∀k vals vals' w,(∀s∈ss,vals' s=vals s)→W k vals w→W k vals' w)
 (hlocA: ∀i vals vals',(∀j,j=i∨j∈pre.getD i []→vals' j=vals j)→A i vals→A i vals') (hob:Qv P ops pre ss sees W A σ 0 ops)
 (hfin: ∀vals w',W (2^ss.length-1) vals w'→(∀j,j<ops.length→A j vals)→Q .normal (behind ops vals σ ops.length) w'):
 ∀(fuel:Nat) (listed:Array Bool) (a:Act) (vals:Nat→Value) (w:World),listed.size=ops.length→closed pre (dn listed)→(∀j,dn listed j=true→j<ops.length)→
 ops.length≤cnt (dn listed) ops.length+fuel→Sim n (mixed ops (dn listed) vals σ) a→W (xv ss (dn listed)) vals w→(∀j,dn listed j=true→A j vals)→
 wpAny P .any ops.toArray (fun e a' w'=> ∃σ'',Sim n σ'' a'∧Q e σ'' w') fuel listed a w:=by
 have hend: ∀(listed:Array Bool) (a:Act) (vals:Nat→Value) (w:World),(∀j,j<ops.length→dn listed j=true)→(∀j,dn listed j=true→j<ops.length)→Sim n (mixed ops (dn listed) vals σ) a→W (xv ss (dn listed)) vals w→(∀j,dn listed j=true→A j vals)→
  ∃σ'',Sim n σ'' a∧Q .normal σ'' w:=by
  intro listed a vals w hall hlt hsim hW hA
  have hdn:dn listed=fun j=>decide (j<ops.length):=by
   funext j
   rw[Bool.eq_iff_iff,decide_eq_true_eq]
   exact⟨hlt j,hall j⟩
  have hst:xv ss (dn listed)=2^ss.length-1:=Uz fun s hs=>hall s (hsl s hs)
  rw[hdn,←Yx hf ops.length (Nat.le_refl _)]at hsim
  exact⟨_,hsim,hfin vals w (hst▸hW) fun j hj=>hA j (hall j hj)⟩
 intro fuel
 induction fuel with
 |zero=>
  intro listed a vals w hs hc hlt hfu hsim hW hA
  have hall:=WQ (done:=dn listed) (m:=ops.length) (by omega)
  refine⟨?_,hend listed a vals w hall hlt hsim hW hA⟩
  cases hr:Region.ready .any ops.toArray listed with
  |nil=>rfl
  |cons i r=>
   have hi:i∈Region.ready .any ops.toArray listed:=by rw[hr];exact List.mem_cons_self
   obtain⟨h1,o,ho,_⟩:=(Xb hs).1 hi
   have:=hall i (List.getElem?_eq_some_iff.1 ho).1
   rw[h1]at this;cases this
 |succ fuel ih=>
  intro listed a vals w hs hc hlt hfu hsim hW hA
  refine⟨fun hr=>hend listed a vals w (VW hf hs hr) hlt hsim hW hA,fun i hi=>?_⟩
  obtain⟨o,ho,hni,hpre⟩:=Us hf hs hc hi
  have hilen:=(List.getElem?_eq_some_iff.1 ho).1
  have hdst: ∀d,o.dst=some d→d<n:=by
   intro d hd'
   simp only[xI,List.all_eq_true]at hd
   have:=hd o (List.mem_of_getElem? ho)
   rw[hd']at this
   simpa[Nat.blt_eq]using this
  have hv:=Ve (σ:=σ) (vals:=vals) hf ho hc hni hpre
  have hbd:=maskOk.mem hk (i:=i) (by omega) hc hni hpre
  have hO:=zbr hob i o ho (xv ss (dn listed)) vals w
  simp only[Nat.zero_add]at hO
  have hO':=hO hbd hW (fun j hj=>hA j (hpre j hj))
  have hset:=zbZ hs ho
  have hnext: ∀v a' w',(∀vals',vals' i=v→(∀j,j≠i→vals' j=vals j)→(if ss.contains i then W (xv ss (dn listed)+2^ss.idxOf i) vals' w' else W (xv ss (dn listed)) vals w')∧A i vals')→Sim n (Yo (mixed ops (dn listed) vals σ) o.dst v) a'→
   wpAny P .any ops.toArray (fun e a' w'=> ∃σ'',Sim n σ'' a'∧Q e σ'' w') fuel (listed.setIfInBounds i true) a' w':=by
   intro v a' w' hn hs'
   rw[VD hf ho hni v]at hs'
   obtain⟨hWn,hAn⟩:=hn (fun j=>if j=i then v else vals j) (if_pos rfl) (fun j hj=>if_neg hj)
   refine ih _ a' (fun j=>if j=i then v else vals j) w' (by simpa using hs) ?_ ?_ ?_ ?_ ?_ ?_
   ·intro j hj j' hj'
    rw[hset]at hj⊢
    simp only[Bool.or_eq_true,beq_iff_eq]at hj⊢
    rcases hj with hj|rfl
    ·exact .inl (hc j hj j' hj')
    ·exact .inl (hpre j' hj')
   ·intro j hj
    rw[hset]at hj
    simp only[Bool.or_eq_true,beq_iff_eq]at hj
    rcases hj with hj|rfl
    ·exact hlt j hj
    ·exact hilen
   ·rw[hset,UU hni,if_pos hilen];omega
   ·rw[hset];exact hs'
   ·rw[hset]
    by_cases hm:i∈ss
    ·rw[if_pos (List.contains_iff_mem.2 hm)]at hWn
     rw[zac hnd hm hni]
     exact hWn
    ·rw[if_neg (fun h=>hm (List.contains_iff_mem.1 h))]at hWn
     rw[Uj hm]
     exact hloc _ _ _ _ (fun s hs=>if_neg (fun e:s=i=>hm (e▸hs))) hWn
   ·intro j hj
    rw[hset]at hj
    simp only[Bool.or_eq_true,beq_iff_eq]at hj
    by_cases hji:j=i
    ·subst hji;exact hAn
    ·rcases hj with hj|hj
     ·refine hlocA j vals _ (fun q hq=>if_neg (fun e:q=i=>?_)) (hA j hj)
      subst e
      rcases hq with hq|hq
      ·exact hji hq.symm
      ·have:=hc j hj q hq;rw[hni]at this;cases this
     ·exact(hji hj).elim
  unfold wpOp
  simp only[List.getElem?_toArray,ho]
  rw[hsim.yielded,Xz (σ:=Wp ops (pre.getD i []) σ vals) hv]
  split
  ·rename_i hw
   rw[if_pos hw]at hO'
   refine .inl (KR hsim (K:=fun σ'' w'=> ∃v,(∀vals',vals' i=v→(∀j,j≠i→vals' j=vals j)→(if ss.contains i then W (xv ss (dn listed)+2^ss.idxOf i) vals' w' else W (xv ss (dn listed)) vals w')∧A i vals')∧σ''=Yo (mixed ops (dn listed) vals σ) o.dst v) ?_ hdst ?_)
   ·rintro a' σ'' w' hs' ⟨v,h1,rfl⟩
    exact hnext v a' w' h1 hs'
   ·unfold opP
    rw[UA (hf.sel i o ho) hv]
    refine Qw (fun v w' h=>⟨v,fun vals' h1 h2=>?_,rfl⟩) hO'
    obtain⟨h3,h4⟩:=h vals' h1 h2
    refine⟨?_,h4⟩
    split
    ·rename_i hm;rw[if_pos hm]at h3;exact h3
    ·rename_i hm;rw[if_neg hm]at h3;subst h3;exact hW
  ·rename_i hw
   rw[if_neg hw]at hO'
   refine hnext undef _ w (fun vals' h1 h2=>?_) (hsim.put hdst undef)
   obtain⟨h3,h4⟩:=hO' vals' h1 h2
   refine⟨?_,h4⟩
   split
   ·rename_i hm;rw[if_pos hm]at h3;exact h3
   ·exact hW
theorem zcH {id:Nat}(W:Nat→(Nat→Value)→World→Prop)(A:Nat→(Nat→Value)→Prop)(pre:List (List Nat))(ss:List Nat)(sees:List (List Nat))(hm:P.follows .mixedOrders=true)(hd:xI n ops=true)(hok:drawOk ops pre ops.length=true)
 (hkl:sees.length=ops.length) (hk:maskOk pre ss sees=true) (hsl:(ss.all fun s=>Nat.blt s ops.length)=true) (hnd:ss.Nodup)
 (hW: ∀w0:World,w0.heap=w.heap→w0.os=w.os→w0.tape=w.tape→w0.output=w.output∧w.drawn≤w0.drawn→ ∀vals,W 0 vals w0)
 (hloc: ∀k vals vals' w,(∀s∈ss,vals' s=vals s)→W k vals w→W k vals' w)
 (hlocA: ∀i vals vals',(∀j,j=i∨j∈pre.getD i []→vals' j=vals j)→A i vals→A i vals')
 (hob:Qv P ops pre ss sees W A σ 0 ops)
 (hfin: ∀vals w',W (2^ss.length-1) vals w'→(∀j,j<ops.length→A j vals)→WPs P ops.toArray (Q .normal) [] (behind ops vals σ ops.length) w'):
 WP P n (.region id ops.toArray true) Q σ w:=by
 intro a hs
 have hf:=drawOk.fit hok
 have hz:dn (Array.replicate ops.toArray.size false)=fun _=>false:=by
  funext i
  simp[dn,Array.getElem?_replicate]
  split<;>rfl
 refine wp_region_any hm ?_
 refine zed (ss:=ss) (vals:=fun _=>undef) hf hd hkl hk (fun s hs=>by
  have:=(List.all_eq_true.1 hsl) s hs;simpa[Nat.blt_eq]using this) hnd hloc hlocA hob hfin _ _ a _ (by simp) ?_ ?_ ?_ ?_ ?_ ?_
 ·intro i hi;rw[hz]at hi;cases hi
 ·intro i hi;rw[hz]at hi;cases hi
 ·simp
 ·have:mixed ops (dn (Array.replicate ops.toArray.size false)) (fun _=>undef) σ=σ:=by
   funext t
   exact Zl fun j _=>by rw[hz]
  rw[this];exact hs
 ·have:xv ss (dn (Array.replicate ops.toArray.size false))=0:=Vx fun s _=>by rw[hz]
  rw[this];exact hW {w with drawn:=w.drawn+1} rfl rfl rfl ⟨rfl,Nat.le_succ _⟩ _
 ·intro i hi;rw[hz]at hi;cases hi
end
theorem WD6 {P:Program}{n:Nat}{Q:ZW}{σ:Env}{w W0:World}{G0:Nat→Prop}{As:List HP}{ops:List Oper}{id:Nat}(W:Nat→(Nat→Value)→World→Prop)(A:Nat→(Nat→Value)→Prop)(pre:List (List Nat))(ss:List Nat)(sees:List (List Nat))(hS:Sep G0 W0 As w)
 (hob:Qv P ops pre ss sees W A σ 0 ops)
 (hfin: ∀vals w',W (2^ss.length-1) vals w'→(∀j,j<ops.length→A j vals)→WPs P ops.toArray (Q .normal) [] (behind ops vals σ ops.length) w')
 (hlocA: ∀i vals vals',(∀j,j=i∨j∈pre.getD i []→vals' j=vals j)→A i vals→A i vals':=by exact xd (by repeat first|exact trivial|refine⟨dA,?_⟩|refine⟨dT,?_⟩))
 (hm:P.follows .mixedOrders=true:=by kernel_rfl) (hd:xI n ops=true:=by kernel_rfl) (hok:drawOk ops pre ops.length=true:=by kernel_rfl) (hkl:sees.length=ops.length:=by rfl) (hk:maskOk pre ss sees=true:=by kernel_rfl) (hsl:(ss.all fun s=>Nat.blt s ops.length)=true:=by kernel_rfl) (hnd:ss.Nodup:=by decide)
 (h0: ∀vals w,Sep G0 W0 As w→W 0 vals w:=by exact fun _ _ h=>h)
 (hloc: ∀k vals vals' w,(∀s∈ss,vals' s=vals s)→W k vals w→W k vals' w:=by
  intro k vals u w H h
  try simp only[List.mem_cons,List.not_mem_nil,forall_eq_or_imp,or_false,forall_eq]at H
  rcases k with _|_|_|_|_|_|_|_|_|_|_|_|_|_|_|_|_|_|_|_|_|_|_|_|_|_|_|_|_|_|_|_|_|_
  all_goals first|exact h|exact trivial|(simp only[WF,List.getElem?_cons_zero,List.getElem?_cons_succ,H]at h⊢;exact h)):
 WP P n (.region id ops.toArray true) Q σ w:=zcH W A pre ss sees hm hd hok hkl hk hsl hnd (fun _ h1 h2 h3 h4 _=>h0 _ _ (hS.same h1 h2 h3 h4)) hloc hlocA hob hfin
end
section
open Go.Proofs Go.RowKit
theorem Uk (a b c d:Int):(decide (a=c∧b=d))=(a== c&&b== d):=by
 by_cases h1:a=c<;>by_cases h2:b=d<;>simp[h1,h2]
theorem ck3 (w:World)(e:Bool)(n:Nat)(a:Int):(Instr.checkKey e (n+1) 3 (.int .i64 a)).run Tryz.prog w=.ok () w:=MapKept.run_checkKey vR (show MapKept.IsKey (.int .i64) (.int .i64 a)from rfl) e n
def xB (k:Int×Int):Value:=.agg #[.int .i64 k.1,.int .i64 k.2]
def Zx (k:Int×Int×Int):Value:=.agg #[.int .i64 k.1,.int .i64 k.2.1,.int .i64 k.2.2]
theorem K2:KLaw Tryz.prog 125 xB where
 inj:=by
  rintro⟨a,b⟩ ⟨c,d⟩ h
  simp only[xB,Value.agg.injEq,Array.mk.injEq,List.cons.injEq,Value.int.injEq,true_and,and_true]at h
  rw[h.1,h.2]
 desc:=⟨_,Tryz.underlying125,fun _ _=>rfl⟩
 check:=by
  intro w e k
  show(Instr.checkKey e 10000 125 (.agg #[.int .i64 k.1,.int .i64 k.2])).run Tryz.prog w=.ok () w
  rw[show(10000:Nat)=9998+1+1 from rfl,Instr.checkKey]
  simp[go_sem,ck3]
 eql:=by
  rintro w ⟨a,b⟩ ⟨c,d⟩
  rw[show decide ((a,b)=(c,d))=(a== c&&b== d) by rw[←Uk];simp]
  unfold Op.equal Op.maxDepth xB
  simp[go_sem]
  by_cases h1:a=c<;>by_cases h2:b=d<;>simp[h1,h2]
 stays:=by intro k;simp[Instr.sameBits,xB]
theorem K3:KLaw Tryz.prog 165 Zx where
 inj:=by
  rintro⟨a,b,c⟩ ⟨d,e,f⟩ h
  simp only[Zx,Value.agg.injEq,Array.mk.injEq,List.cons.injEq,Value.int.injEq,true_and,and_true]at h
  rw[h.1,h.2.1,h.2.2]
 desc:=⟨_,Tryz.underlying165,fun _ _=>rfl⟩
 check:=by
  intro w e k
  show(Instr.checkKey e 10000 165 (.agg #[.int .i64 k.1,.int .i64 k.2.1,.int .i64 k.2.2])).run Tryz.prog w=.ok () w
  rw[show(10000:Nat)=9997+1+1+1 from rfl,Instr.checkKey]
  simp[go_sem,ck3]
  rw[Instr.checkKey]
  simp[go_sem,ck3]
 eql:=by
  rintro w ⟨a,b,c⟩ ⟨d,e,f⟩
  rw[show decide ((a,b,c)=(d,e,f))=(a== d&&b== e&&c== f) by by_cases h1:a=d<;>by_cases h2:b=e<;>by_cases h3:c=f<;>simp[h1,h2,h3]]
  unfold Op.equal Op.maxDepth Zx
  simp[go_sem]
  by_cases h1:a=d<;>by_cases h2:b=e<;>by_cases h3:c=f<;>simp[h1,h2,h3]
 stays:=by intro k;simp[Instr.sameBits,Zx]
def E1 (v:Value)(x:Nat×List Cel):HP:=⟨fun w f=> ∃vc,v=.agg #[.int .i64 ((x.1:Nat):Int),vc]∧(RowE (α:=Cel) own 140 vc x.2).p w f,fun h hf=>by
 obtain⟨vc,h1,h2⟩:=h
 exact⟨vc,h1,HP.loc _ h2 hf⟩⟩
def E2 (v:Value)(l:List Ev):HP:=RowE (α:=Ev) own 44 v l
def Kj:Value:=.agg #[.int .i64 0,.slice none 0 0]
def ViewO (b:Nat)(d:Dcl)(L M:List Ent):HP:=Ex1 fun vt=>Ex1 fun vp=>Ex1 fun ve=>Ex1 fun m1=>Ex1 fun m2=>Star [Blk b #[vt,vp,ve,.map (some m1),.map (some m2)] 101,RowE (α:=Typ) own 74 vt d.types,RowE (α:=Prj) own 112 vp d.projs,RowE (α:=Ent) own 96 ve L,MapO xB E1 m1 (zt d M),MapO Zx E2 m2 (yW M)]
section
variable {G:Nat→Prop}{W w:World}{As:List HP}{b:Nat}{d:Dcl}{L M:List Ent}
theorem ViewO.open (h:Sep G W (ViewO b d L M::As) w): ∃vt vp ve m1 m2,Sep G W (Blk b #[vt,vp,ve,.map (some m1),.map (some m2)] 101::RowE (α:=Typ) own 74 vt d.types::RowE (α:=Prj) own 112 vp d.projs::RowE (α:=Ent) own 96 ve L::MapO xB E1 m1 (zt d M)::MapO Zx E2 m2 (yW M)::As) w:=by
 obtain⟨vt,h⟩:=h.openEx
 obtain⟨vp,h⟩:=h.openEx
 obtain⟨ve,h⟩:=h.openEx
 obtain⟨m1,h⟩:=h.openEx
 obtain⟨m2,h⟩:=h.openEx
 exact⟨vt,vp,ve,m1,m2,h.openStar⟩
theorem ViewO.close {vt vp ve:Value}{m1 m2:Nat}(h:Sep G W (Blk b #[vt,vp,ve,.map (some m1),.map (some m2)] 101::RowE (α:=Typ) own 74 vt d.types::RowE (α:=Prj) own 112 vp d.projs::RowE (α:=Ent) own 96 ve L::MapO xB E1 m1 (zt d M)::MapO Zx E2 m2 (yW M)::As) w):Sep G W (ViewO b d L M::As) w:=by
 have h:=Sep.closeStar (Bs:=[Blk b #[vt,vp,ve,.map (some m1),.map (some m2)] 101,RowE (α:=Typ) own 74 vt d.types,RowE (α:=Prj) own 112 vp d.projs,RowE (α:=Ent) own 96 ve L,MapO xB E1 m1 (zt d M),MapO Zx E2 m2 (yW M)]) h
 exact Sep.closeEx (A:=fun vt=>Ex1 fun vp=>Ex1 fun ve=>Ex1 fun m1=>Ex1 fun m2=>Star [Blk b #[vt,vp,ve,.map (some m1),.map (some m2)] 101,RowE (α:=Typ) own 74 vt d.types,RowE (α:=Prj) own 112 vp d.projs,RowE (α:=Ent) own 96 ve L,MapO xB E1 m1 (zt d M),MapO Zx E2 m2 (yW M)]) vt (Sep.closeEx (A:=fun vp=>Ex1 fun ve=>Ex1 fun m1=>Ex1 fun m2=>Star [Blk b #[vt,vp,ve,.map (some m1),.map (some m2)] 101,RowE (α:=Typ) own 74 vt d.types,RowE (α:=Prj) own 112 vp d.projs,RowE (α:=Ent) own 96 ve L,MapO xB E1 m1 (zt d M),MapO Zx E2 m2 (yW M)]) vp (Sep.closeEx (A:=fun ve=>Ex1 fun m1=>Ex1 fun m2=>Star [Blk b #[vt,vp,ve,.map (some m1),.map (some m2)] 101,RowE (α:=Typ) own 74 vt d.types,RowE (α:=Prj) own 112 vp d.projs,RowE (α:=Ent) own 96 ve L,MapO xB E1 m1 (zt d M),MapO Zx E2 m2 (yW M)]) ve (Sep.closeEx (A:=fun m1=>Ex1 fun m2=>Star [Blk b #[vt,vp,ve,.map (some m1),.map (some m2)] 101,RowE (α:=Typ) own 74 vt d.types,RowE (α:=Prj) own 112 vp d.projs,RowE (α:=Ent) own 96 ve L,MapO xB E1 m1 (zt d M),MapO Zx E2 m2 (yW M)]) m1 (Sep.closeEx (A:=fun m2=>Star [Blk b #[vt,vp,ve,.map (some m1),.map (some m2)] 101,RowE (α:=Typ) own 74 vt d.types,RowE (α:=Prj) own 112 vp d.projs,RowE (α:=Ent) own 96 ve L,MapO xB E1 m1 (zt d M),MapO Zx E2 m2 (yW M)]) m2 h))))
theorem zbA {v:Value}{k:Int×Int×Int}(h:Sep G W (XT E2 v (yW M k)::As) w)(hv:yW M k=none→v=.slice none 0 0):Sep G W (RowE (α:=Ev) own 44 v (yG k M)::As) w:=by
 refine h.impl (i:=0) rfl (fun f hA=>?_)
 unfold yW at hA hv
 split at hA
 ·rename_i he
  rw[if_pos he]at hv
  rw[hv rfl,List.isEmpty_iff.1 he]
  exact RowE.nil _ _ _ _
 ·exact hA
theorem Ua {v:Value}{k:Int×Int×Int}(h:Sep G W (RowE (α:=Ev) own 44 v (yG k M)::As) w):Sep G W (XT E2 v (yW M k)::As) w:=by
 refine h.impl (i:=0) rfl (fun f hA=>?_)
 unfold yW
 split
 ·exact trivial
 ·exact hA
def stL (d:Dcl)(k:Int×Int)(M:List Ent):List Cel:=if yn k M=0 then[]else zM d k M
theorem Uu {v:Value}{k:Int×Int}(h:Sep G W (XT E1 v (zt d M k)::As) w)(hv:zt d M k=none→v=Kj): ∃vc,v=.agg #[.int .i64 ((yn k M:Nat):Int),vc]∧Sep G W (RowE (α:=Cel) own 140 vc (stL d k M)::As) w:=by
 unfold zt at h hv
 unfold stL
 by_cases he:yn k M=0
 ·rw[if_pos he]at hv h
  rw[if_pos he]
  refine⟨.slice none 0 0,by rw[hv rfl,he];rfl,h.impl (i:=0) rfl (fun f _=>RowE.nil _ _ _ _)⟩
 ·rw[if_neg he]at h
  rw[if_neg he]
  obtain⟨f,⟨vc,h1,h2⟩,_⟩:=h.get (i:=0) rfl
  refine⟨vc,h1,h.impl (i:=0) rfl (fun f hA=>?_)⟩
  obtain⟨vc',h3,h4⟩:=hA
  rw[h1]at h3
  simp only[Value.agg.injEq,Array.mk.injEq,List.cons.injEq,and_true,true_and]at h3
  rw[h3]
  exact h4
theorem KQ {vc:Value}{k:Int×Int}(h:Sep G W (RowE (α:=Cel) own 140 vc (stL d k M)::As) w):Sep G W (XT E1 (.agg #[.int .i64 ((yn k M:Nat):Int),vc]) (zt d M k)::As) w:=by
 refine h.impl (i:=0) rfl (fun f hA=>?_)
 unfold zt
 unfold stL at hA
 by_cases he:yn k M=0
 ·rw[if_pos he];exact trivial
 ·rw[if_neg he]at hA⊢;exact⟨vc,rfl,hA⟩
theorem zab {vc:Value}{n:Nat}{c:List Cel}(h:Sep G W (RowE (α:=Cel) own 140 vc c::As) w):Sep G W (E1 (.agg #[.int .i64 ((n:Nat):Int),vc]) (n,c)::As) w:=h.impl (i:=0) rfl (fun f hA=>⟨vc,rfl,hA⟩)
end
end
section
open Go.Proofs Go.RowKit
abbrev ZZ:=And.intro (@Ev.cells.eq_1) (And.intro (@Mv.cells.eq_1) (And.intro (@Fld.cells.eq_1) (And.intro (@Typ.cells.eq_1) (And.intro (@Prj.cells.eq_1) (And.intro (@Dcl.cells.eq_1) (And.intro (@Cel.cells.eq_1) (And.intro (@AskR.cells.eq_1) (And.intro (@CelS.cells.eq_1) (And.intro (@Ent.cells.eq_1) (@Sta.cells.eq_1))))))))))
theorem UM {vv:Value}{v:List Int}(hv:RdS W G vv v){o:Int}(ho:InR o)(hS0:Sep G W Rs w):Ret Tryz.prog 80 [vv,.int .i64 (o)] w (fun r w'=>r=(.int .i64 (yz v o):Value)∧(InR (yz v o))∧Sep G W Rs w'):=by
 refine zm Tryz.func80 rfl rfl ?_
 refine za (R0 fun _=>st (aS (Iv 0) (zb (za (za (zy kr (st (mV (Iv o) (st (zI rfl rfl (st (mV (.bool (decide (o<0))) (stc (V:=Iv o) rfl rfl (fun l=>?_) ?_)))))))))))))
 exact mV (Iv o) rflB
 refine stc (V:=vv) rfl rfl (fun m=>?_) ?_
 exact mV vv rflB
 refine stc (V:=Iw v.length) rfl rfl (fun g=>?_) ?_
 exact zS wR (ifpC g) hv.sl rflB
 refine stc (V:=.bool (decide (((v.length:Nat):Int)≤o))) rfl rfl (fun c=>?_) ?_
 exact xh (ifpC c) (ifpC c) rflB
 refine st (zz rfl (fun hbp=>(ifpC hbp)) (zb ?_))
 cases h:(decide (o<0))||(decide (((v.length:Nat):Int)≤o))
 try simp only[zh]at h
 refine zf rfl (zp (za (R0 fun _=>st (mV vv (st (mV (Iv o) ?_))))))
 refine st (zA wR uR rfl hv.sl rfl ⟨by omega,by omega⟩ ?_)
 have d:o.toNat<v.length:=bo
 obtain⟨e,hxe11⟩:=hv.intD d
 have f:=hS0.cells e (hv.foot (ne_of_lt d))
 refine st (lD (Iv ((v.getD o.toNat 0))) kT rfl (f.get (j:=0) rfl) (st (YG (k:=.i64) (a:=(v.getD o.toNat 0)) (b:=0) rfl rfl (st (aS (Iv (max (v.getD o.toNat 0) 0)) (zb (zo (zN kY (show _=(Iv (max (v.getD o.toNat 0) 0):Value)from rfl) ?_))))))))
 refine⟨?_,?_,hS0⟩
 unfold yz;rw[ifnC (by omega)]
 unfold yz;rw[ifnC (by omega)];omega
 try simp only[zh]at h
 refine zg rfl (za (R0 fun _=>st (aS (Iv 0) (zb (zo (zN kY (show _=(Iv 0:Value)from rfl) ?_))))))
 refine⟨?_,?_,hS0⟩
 unfold yz;rw[ifpC (by omega)]
 unfold yz;rw[ifpC (by omega)];omega
theorem QK {a:Ev}{da0:Value}(hda0:RdS W G da0 a.deps)(oa:a.Ok){b:Ev}{db0:Value}(hdb0:RdS W G db0 b.deps)(ob:b.Ok)(hS0:Sep G W Rs w):Ret Tryz.prog 153 [.agg (a.cells da0).toArray,.agg (b.cells db0).toArray] w (fun r w'=>r=(.bool ((ZR a b)):Value)∧Sep G W Rs w'):=by
 refine zm Tryz.func153 rfl rfl ?_
 refine za (R0 fun _=>st (zT rfl ?_))
 intro w3 b2 L
 refine st (zT rfl ?_)
 intro w7 D M
 refine st (aS (.bool false) (zb (za ?_)))
 refine WD4 ((fun TT C=>WF [fun vals E=>Sep G W (C::TT) E,fun vals E=>(vals 5=(Iv (yz b.deps a.origin):Value))∧(InR (yz b.deps a.origin))∧Sep G W (C::TT) E]) ((Blk b2 (a.cells da0).toArray 44)::Rs) (Blk D (b.cells db0).toArray 44)) (AF [Vl 0 (Ix D 3),Vl 1 db0,Vl 2 (Ix b2 0),Vl 3 (Ix b2 0),Vl 4 (Iv (a.origin)),fun _=>True,Vl 6 (Ix b2 0),Vl 7 (Ix b2 1),Vl 8 (Iv (a.seq)),Vl 9 (.bool (decide (a.seq≤(yz b.deps a.origin)))),Vl 10 (.bool (decide (a.seq≤(yz b.deps a.origin))))]) [[],[0],[],[2],[2,3],(rg 5),[],[6],[6,7],(rg 9),(rg 10)] [5] [(0,0),(0,0),(0,0),(0,0),(0,0),(0,0),(0,1),(0,1),(0,1),(1,1),(1,1)] ((hS0.new L).new M) ⟨fun _ _ _ _ _ _ _=>obl rfl (xg rfl dR),ob1 0 fun _ _ (j:Sep _ _ _ _) l=>obl rfl (lD db0 Tryz.isAgg42 (l 0 dc) (zd (j.b0) rfl) dR),fun _ _ _ _ _ _ _=>obl rfl (yA rfl dR),fun _ _ _ _ _ _ m=>obl rfl (xm (m 2 dc) dR),ob1 0 fun _ _ (n:Sep _ _ _ _) p=>obl rfl (lD (Iv (a.origin)) kT (p 3 dc) (zd (n.b1) rfl) dR),?_,fun _ _ _ _ _ _ _=>obl rfl (yA rfl dR),fun _ _ _ _ _ _ q=>obl rfl (Za (q 6 dc) dR),?_,?_,fun _ _ _ _ _ _ s=>obl rfl (ya (s 9 dc) dR),zj⟩ ?_
 refine ob1 0 fun vals _ (F:Sep _ _ _ _) i=>(obl rfl ((zO (vals:=[db0,Iv (a.origin)]) rfl (yK ⟨(i 1 dc),(i 4 dc),zj⟩) Tryz.call80 (UM hdb0 oa.origin F) ?_)))
 rintro _ w54 ⟨rfl,c,H⟩
 exact fun vals' N hv'=>⟨(zG N (zG c H)),zj⟩
 refine fun d _ _ I J g h=>?_
 have hkk:=xz I J
 rcases hkk with rfl|rfl
 have t:=g
 exact obl rfl (lD (Iv (a.seq)) kT (h 7 dc) (zd (t.b1) rfl) dR)
 obtain⟨e,c,u⟩:=g
 exact obl rfl (lD (Iv (a.seq)) kT (h 7 dc) (zd (u.b1) rfl) dR)
 refine ob1 1 fun _ _ x y=>?_
 obtain⟨e,c,hS157⟩:=x
 exact obl rfl (xh e (y 8 dc) dR)
 intro vals w166 z A
 obtain⟨e,c,B⟩:=z
 have K:=A 10 dc
 refine yd (kv:=[(0,.agg (a.cells da0).toArray),(1,.agg (b.cells db0).toArray),(2,Ix b2 0),(3,Ix D 0),(4,.bool (decide (a.seq≤(yz b.deps a.origin))))]) ⟨rfl,rfl,rfl,rfl,(by exact K),zj⟩ (fun ρw166=>(zb (zo (zN Tryz.results153 rfl ?_))))
 refine⟨rfl,(B.s2_)⟩
theorem zcl {x y:Operand}{a0 a1 b0 b1:Int}: ∀w,(do eqGuard .eql 41 x y (.agg #[.int .i64 a0,.int .i64 a1]) (.agg #[.int .i64 b0,.int .i64 b1]);binOp .eql 41 (.agg #[.int .i64 a0,.int .i64 a1]) (.agg #[.int .i64 b0,.int .i64 b1]):Sem Value).run Tryz.prog w=.ok (.bool (decide (a0=b0∧a1=b1))) w:=by
 intro w
 have h: ∀w,(Op.equal 41 (.agg #[.int .i64 a0,.int .i64 a1]) (.agg #[.int .i64 b0,.int .i64 b1])).run Tryz.prog w=.ok (decide (a0=b0∧a1=b1)) w:=by
  intro w
  unfold Op.equal Op.maxDepth;rw[Uk];simp[go_sem];(try(by_cases h1:a0=b0<;>by_cases h2:a1=b1<;>simp[h1,h2]))
 simp[eqGuard,binOp,h,go_sem]
theorem zaV {x y:Operand}{a0 a1 b0 b1:Int}: ∀w,(do eqGuard .neq 41 x y (.agg #[.int .i64 a0,.int .i64 a1]) (.agg #[.int .i64 b0,.int .i64 b1]);binOp .neq 41 (.agg #[.int .i64 a0,.int .i64 a1]) (.agg #[.int .i64 b0,.int .i64 b1]):Sem Value).run Tryz.prog w=.ok (.bool (!decide (a0=b0∧a1=b1))) w:=by
 intro w
 have h: ∀w,(Op.equal 41 (.agg #[.int .i64 a0,.int .i64 a1]) (.agg #[.int .i64 b0,.int .i64 b1])).run Tryz.prog w=.ok (decide (a0=b0∧a1=b1)) w:=by
  intro w
  unfold Op.equal Op.maxDepth;rw[Uk];simp[go_sem];(try(by_cases h1:a0=b0<;>by_cases h2:a1=b1<;>simp[h1,h2]))
 simp[eqGuard,binOp,h,go_sem]
theorem zcR {a:Ev}{da0:Value}(hda0:RdS W G da0 a.deps)(oa:a.Ok){b:Ev}{db0:Value}(hdb0:RdS W G db0 b.deps)(ob:b.Ok)(hS0:Sep G W Rs w):Ret Tryz.prog 141 [.agg (a.cells da0).toArray,.agg (b.cells db0).toArray] w (fun r w'=>r=(.bool ((xZ a b)):Value)∧Sep G W Rs w'):=by
 refine zm Tryz.func141 rfl rfl ?_
 refine za (R0 fun _=>st (zT rfl ?_))
 intro w3 b2 q
 refine st (zT rfl ?_)
 intro w7 b6 s
 have f:=(hS0.new q).new s
 refine st (aS (.bool false) (zb (za (zy kr (st (yA rfl (st (ze lY mY rfl rfl (CellsAt.sub (zi (f.b1)) 0 rfl) (st (yA rfl (st (ze lY mY rfl rfl (CellsAt.sub (zi (f.b0)) 0 rfl) (st (Wz (e:=decide (a.origin=b.origin∧a.seq=b.seq)) (xs:=#[Iv (a.origin),Iv (a.seq)]) (ys:=#[Iv (b.origin),Iv (b.seq)]) zaV rfl rfl (st (mV (.bool (!decide (a.origin=b.origin∧a.seq=b.seq))) (stc (V:=.agg (a.cells da0).toArray) rfl rfl (fun t=>?_) ?_)))))))))))))))))
 exact ze qT rT rfl rfl (zi (f.b1)) rflB
 refine stc (V:=.agg (b.cells db0).toArray) rfl rfl (fun j=>?_) ?_
 exact ze qT rT rfl rfl (zi (f.b0)) rflB
 cases c: !decide (a.origin=b.origin∧a.seq=b.seq)
 have d:=c
 have c:=zB c
 refine stx rfl rfl (stx rfl rfl (st (yb rfl rfl (st (mV (.bool false) (stx rfl rfl (stx rfl rfl (stx rfl rfl (stx rfl rfl (st (yb rfl rfl (st (aS (.bool false) (zb (zo (zN mR (show _=(.bool false:Value)from rfl) ?_))))))))))))))))
 refine⟨?_,(f.s2_)⟩
 unfold xZ
 first|rfl|simp only[d,Bool.not_true,Bool.not_false,Bool.false_and,Bool.true_and,Bool.and_false]
 have d:=c
 have c:=zC c
 refine sty rfl rfl (cL nY (QK (a:=a) (b:=b) hda0 oa hdb0 ob f) ?_)
 rintro _ w15 ⟨rfl,g⟩
 refine sty rfl rfl (yw rfl (st (yc rfl rfl (st (mV (.bool (!(ZR a b))) (stc (V:=.agg (b.cells db0).toArray) rfl rfl (fun l=>?_) ?_))))))
 have m:=l
 try simp only[zh]at m
 exact ze qT rT rfl rfl (zi (g.b0)) rflB
 refine stc (V:=.agg (a.cells da0).toArray) rfl rfl (fun n=>?_) ?_
 have o:=n
 try simp only[zh]at o
 exact ze qT rT rfl rfl (zi (g.b1)) rflB
 cases h: !(ZR a b)
 have i:=h
 try simp only[zh]at h
 refine stx rfl rfl (stx rfl rfl (st (yb rfl rfl (st (aS (.bool false) (zb (zo (zN mR (show _=(.bool false:Value)from rfl) ?_))))))))
 refine⟨?_,(g.s2_)⟩
 unfold xZ
 first|rfl|simp only[d,i,Bool.not_true,Bool.not_false,Bool.false_and,Bool.true_and,Bool.and_false]
 have i:=h
 try simp only[zh]at h
 refine sty rfl rfl (cL nY (QK (a:=b) (b:=a) hdb0 ob hda0 oa g) ?_)
 rintro _ w23 ⟨rfl,p⟩
 refine sty rfl rfl (yw rfl (st (yc rfl rfl (st (aS (.bool (!(ZR b a))) (zb (zo (zN mR (show _=(.bool (!(ZR b a)):Value)from rfl) ?_))))))))
 refine⟨?_,(p.s2_)⟩
 unfold xZ
 first|rfl|simp only[d,i,Bool.not_true,Bool.not_false,Bool.false_and,Bool.true_and,Bool.and_false]
theorem UN {x y:Operand}{a0 a1 b0 b1:Int}: ∀w,(do eqGuard .eql 197 x y (.agg #[.int .i64 a0,.int .i64 a1]) (.agg #[.int .i64 b0,.int .i64 b1]);binOp .eql 197 (.agg #[.int .i64 a0,.int .i64 a1]) (.agg #[.int .i64 b0,.int .i64 b1]):Sem Value).run Tryz.prog w=.ok (.bool (decide (a0=b0∧a1=b1))) w:=by
 intro w
 have h: ∀w,(Op.equal 197 (.agg #[.int .i64 a0,.int .i64 a1]) (.agg #[.int .i64 b0,.int .i64 b1])).run Tryz.prog w=.ok (decide (a0=b0∧a1=b1)) w:=by
  intro w
  unfold Op.equal Op.maxDepth;rw[Uk];simp[go_sem];(try(by_cases h1:a0=b0<;>by_cases h2:a1=b1<;>simp[h1,h2]))
 simp[eqGuard,binOp,h,go_sem]
theorem JM {x y:Operand}{a0 a1 b0 b1:Int}: ∀w,(do eqGuard .neq 197 x y (.agg #[.int .i64 a0,.int .i64 a1]) (.agg #[.int .i64 b0,.int .i64 b1]);binOp .neq 197 (.agg #[.int .i64 a0,.int .i64 a1]) (.agg #[.int .i64 b0,.int .i64 b1]):Sem Value).run Tryz.prog w=.ok (.bool (!decide (a0=b0∧a1=b1))) w:=by
 intro w
 have h: ∀w,(Op.equal 197 (.agg #[.int .i64 a0,.int .i64 a1]) (.agg #[.int .i64 b0,.int .i64 b1])).run Tryz.prog w=.ok (decide (a0=b0∧a1=b1)) w:=by
  intro w
  unfold Op.equal Op.maxDepth;rw[Uk];simp[go_sem];(try(by_cases h1:a0=b0<;>by_cases h2:a1=b1<;>simp[h1,h2]))
 simp[eqGuard,binOp,h,go_sem]
theorem zay {f:Fld}{df0:Value}(hdf0:RdS W G df0 f.moves)(of:f.Ok){oA:Int}(hoA:InR oA){aA:Int}(haA:InR aA){oB:Int}(hoB:InR oB){aB:Int}(haB:InR aB)(hS0:Sep G W Rs w):Ret Tryz.prog 140 [.agg (f.cells df0).toArray,.int .i64 (oA),.int .i64 (aA),.int .i64 (oB),.int .i64 (aB)] w (fun r w'=>r=(.bool ((YN f.kind oA aA oB aB)):Value)∧Sep G W Rs w'):=by
 refine zm Tryz.func140 rfl rfl ?_
 refine za (R0 fun _=>st (zT rfl ?_))
 intro w3 b2 ak
 refine st (aS (.bool false) (zb (za (yy (by kernel_rfl) (fun _=>(st (mV (Iv oA) (st (mV (Iv aA) (st (zQ (parts':=[(0,Iv oA),(1,Iv aA)]) (v:=.agg #[Iv oA,Iv aA]) rfl (by simp+zetaDelta [Instr.build,Instr.fill,go_sem,ZZ]) (st (mV (Iv oB) (st (mV (Iv aB) (st (zQ (parts':=[(0,Iv oB),(1,Iv aB)]) (v:=.agg #[Iv oB,Iv aB]) rfl (by simp+zetaDelta [Instr.build,Instr.fill,go_sem,ZZ]) (st (zv oY ?_)))))))))))))))))))
 intro w7 b6 al
 refine st (zv oY ?_)
 intro w11 E am
 have q:=((hS0.new ak).new al).new am
 refine stn (zr (v:=.agg #[Iv oA,Iv aA]) mT rfl rfl (q.b1) (zZ ⟨rfl,rfl,zj⟩) yqc rfl ?_)
 intro w13 F
 have s:=q.pt1 F
 refine stn (zr (v:=.agg #[Iv oB,Iv aB]) mT rfl rfl (s.b0) (zZ ⟨rfl,rfl,zj⟩) yqc rfl ?_)
 intro w16 H
 have c:=s.pt0 H
 refine zb (za (za (R0 fun _=>st (xA rfl (st (lD (Iv (f.kind)) kT rfl (zd (c.b2) rfl) (zb (zu (za (R0 fun _=>st (zR rfl rfl (st (aS (.bool (decide (f.kind=2))) (zb ?_))))))))))))))
 cases g:decide (f.kind=2)
 have g:=fD g
 refine zf rfl (za (R0 fun _=>st (zR rfl rfl (st (aS (.bool (decide (f.kind=4))) (zb ?_))))))
 cases h:decide (f.kind=4)
 have h:=fD h
 refine zf rfl (za (R0 fun _=>st (zR rfl rfl (st (aS (.bool (decide (f.kind=3))) (zb ?_))))))
 cases i:decide (f.kind=3)
 have i:=fD i
 refine zf rfl (zp (za (R0 fun _=>st (aS (.bool false) (zb (zo (zN tT (show _=(.bool false:Value)from rfl) ?_)))))))
 refine⟨?_,(c.s3_)⟩
 unfold YN
 (first|rw[ifpC (by omega)]|rw[ifnC (by omega),ifpC (by omega)]|rw[ifnC (by omega),ifnC (by omega),ifpC (by omega)]|rw[ifnC (by omega),ifnC (by omega),ifnC (by omega)])<;>(first|rfl|simp_all)
 have i:=tD i
 refine zg rfl (za (zy (by kernel_rfl) (st (ze nT mT rfl rfl (zi (c.b1)) (st (mV (Iv aB) (st (zQ (parts':=[(0,Iv 3),(1,Iv aB)]) (v:=.agg #[Iv 3,Iv aB]) rfl (by simp+zetaDelta [Instr.build,Instr.fill,go_sem,ZZ]) (st (Yv (e:=decide (oA=3∧aA=aB)) (xs:=#[Iv oA,Iv aA]) (ys:=#[Iv 3,Iv aB]) UN rfl rfl (st (mV (.bool (decide (oA=3∧aA=aB))) (stc (V:=.agg #[Iv oB,Iv aB]) rfl rfl (fun I=>?_) ?_)))))))))))))
 exact ze nT mT rfl rfl (zi (c.b0)) rflB
 refine stc (V:=Iv aA) rfl rfl (fun J=>?_) ?_
 exact mV (Iv aA) rflB
 refine stc (V:=.agg #[Iv 4,Iv aA]) rfl rfl (fun t=>?_) ?_
 exact zQ (parts':=[(0,Iv 4),(1,Iv aA)]) (v:=.agg #[Iv 4,Iv aA]) (ZH ⟨rfl,rfl,rfl,(ifpC t),zj⟩) (by simp+zetaDelta [Instr.build,Instr.fill,go_sem,ZZ]) rflB
 refine stc (V:=.bool (decide (oB=4∧aB=aA))) rfl rfl (fun l=>?_) ?_
 exact Yv (e:=decide (oB=4∧aB=aA)) (xs:=#[Iv oB,Iv aB]) (ys:=#[Iv 4,Iv aA]) UN (ifpC l) (ifpC l) rflB
 refine st (zF rfl (fun hbp=>(ifpC hbp)) (st (mV (.bool ((decide (oA=3∧aA=aB))&&(decide (oB=4∧aB=aA)))) (stc (V:=.agg #[Iv oA,Iv aA]) rfl rfl (fun K=>?_) ?_))))
 have L:=K
 try simp only[zh]at L
 exact ze nT mT rfl rfl (zi (c.b1)) rflB
 refine stc (V:=Iv aB) rfl rfl (fun M=>?_) ?_
 have N:=M
 try simp only[zh]at N
 exact mV (Iv aB) rflB
 refine stc (V:=.agg #[Iv 4,Iv aB]) rfl rfl (fun u=>?_) ?_
 have O:=u
 try simp only[zh]at O
 exact zQ (parts':=[(0,Iv 4),(1,Iv aB)]) (v:=.agg #[Iv 4,Iv aB]) (ZH ⟨rfl,rfl,rfl,(ifpC u),zj⟩) (by simp+zetaDelta [Instr.build,Instr.fill,go_sem,ZZ]) rflB
 refine stc (V:=.bool (decide (oA=4∧aA=aB))) rfl rfl (fun m=>?_) ?_
 have P:=m
 try simp only[zh]at P
 exact Yv (e:=decide (oA=4∧aA=aB)) (xs:=#[Iv oA,Iv aA]) (ys:=#[Iv 4,Iv aB]) UN (ifpC m) (ifpC m) rflB
 refine stc (V:=.bool (decide (oA=4∧aA=aB))) rfl rfl (fun x=>?_) ?_
 have Q:=x
 try simp only[zh]at Q
 exact yg (ifpC x) rflB
 refine xn (V:=.agg #[Iv oB,Iv aB]) rfl rfl (fun y=>?_) ?_
 have R:=y.1
 try simp only[zh]at R
 exact ze nT mT rfl rfl (zi (c.b0)) rflB
 refine xn (V:=Iv aA) rfl rfl (fun z=>?_) ?_
 have S:=z.1
 try simp only[zh]at S
 exact mV (Iv aA) rflB
 refine xn (V:=.agg #[Iv 3,Iv aA]) rfl rfl (fun j=>?_) ?_
 have T:=j.1
 try simp only[zh]at T
 exact zQ (parts':=[(0,Iv 3),(1,Iv aA)]) (v:=.agg #[Iv 3,Iv aA]) (ZH ⟨rfl,rfl,rfl,(ifpC ⟨j.1,j.2⟩),zj⟩) (by simp+zetaDelta [Instr.build,Instr.fill,go_sem,ZZ]) rflB
 refine xn (V:=.bool (decide (oB=3∧aB=aA))) rfl rfl (fun d=>?_) ?_
 have U:=d.1
 try simp only[zh]at U
 exact Yv (e:=decide (oB=3∧aB=aA)) (xs:=#[Iv oB,Iv aB]) (ys:=#[Iv 3,Iv aA]) UN (ifpC ⟨d.1,d.2⟩) (ifpC ⟨d.1,d.2⟩) rflB
 refine stc (V:=.bool ((decide (oA=4∧aA=aB))&&(decide (oB=3∧aB=aA)))) rfl rfl (fun n=>?_) ?_
 have X:=n
 try simp only[zh]at X
 exact zF (ifpC n) (fun hbp=>(ifpC ⟨n,hbp⟩)) rflB
 refine st (zz rfl (fun hbp=>(ifpC hbp)) (st (aS (.bool (((decide (oA=3∧aA=aB))&&(decide (oB=4∧aB=aA)))||((decide (oA=4∧aA=aB))&&(decide (oB=3∧aB=aA))))) (zb (zo (zN tT (show _=(.bool (((decide (oA=3∧aA=aB))&&(decide (oB=4∧aB=aA)))||((decide (oA=4∧aA=aB))&&(decide (oB=3∧aB=aA)))):Value)from rfl) ?_))))))
 refine⟨?_,(c.s3_)⟩
 unfold YN
 (first|rw[ifpC (by omega)]|rw[ifnC (by omega),ifpC (by omega)]|rw[ifnC (by omega),ifnC (by omega),ifpC (by omega)]|rw[ifnC (by omega),ifnC (by omega),ifnC (by omega)])<;>(first|rfl|simp_all)
 have h:=tD h
 refine zg rfl (za (zy kr (st (Wu rfl (st (lD (Iv oA) kT rfl (zd (c.b1) rfl) (st (zR rfl rfl (st (mV (.bool (decide (oA=5))) (stc (V:=Ix E 0) rfl rfl (fun Y=>?_) ?_)))))))))))
 exact Wu rfl rflB
 refine stc (V:=Iv oB) rfl rfl (fun A=>?_) ?_
 exact lD (Iv oB) kT (ifpC A) (zd (c.b0) rfl) rflB
 refine stc (V:=.bool (decide (oB=5))) rfl rfl (fun B=>?_) ?_
 exact zR (ifpC B) rfl rflB
 refine st (zF rfl (fun hbp=>(ifpC hbp)) (st (mV (.bool ((decide (oA=5))&&(decide (oB=5)))) (stc (V:=.agg #[Iv oA,Iv aA]) rfl rfl (fun Z=>?_) ?_))))
 have aa:=Z
 try simp only[zh]at aa
 exact ze nT mT rfl rfl (zi (c.b1)) rflB
 refine stc (V:=.agg #[Iv oB,Iv aB]) rfl rfl (fun ab=>?_) ?_
 have ac:=ab
 try simp only[zh]at ac
 exact ze nT mT rfl rfl (zi (c.b0)) rflB
 refine stc (V:=.bool (!decide (oA=oB∧aA=aB))) rfl rfl (fun o=>?_) ?_
 have ad:=o
 try simp only[zh]at ad
 exact Wz (e:=decide (oA=oB∧aA=aB)) (xs:=#[Iv oA,Iv aA]) (ys:=#[Iv oB,Iv aB]) JM (ifpC o) (ifpC o) rflB
 refine st (zF rfl (fun hbp=>(ifpC hbp)) (st (aS (.bool (((decide (oA=5))&&(decide (oB=5)))&&(!decide (oA=oB∧aA=aB)))) (zb (zo (zN tT (show _=(.bool (((decide (oA=5))&&(decide (oB=5)))&&(!decide (oA=oB∧aA=aB))):Value)from rfl) ?_))))))
 refine⟨?_,(c.s3_)⟩
 unfold YN
 (first|rw[ifpC (by omega)]|rw[ifnC (by omega),ifpC (by omega)]|rw[ifnC (by omega),ifnC (by omega),ifpC (by omega)]|rw[ifnC (by omega),ifnC (by omega),ifnC (by omega)])<;>(first|rfl|simp_all)
 have g:=tD g
 refine zg rfl (za (zy kr (st (Wu rfl (st (lD (Iv oA) kT rfl (zd (c.b1) rfl) (st (zR rfl rfl (st (mV (.bool (decide (oA=2))) (stc (V:=Ix E 0) rfl rfl (fun ae=>?_) ?_)))))))))))
 exact Wu rfl rflB
 refine stc (V:=Iv oB) rfl rfl (fun C=>?_) ?_
 exact lD (Iv oB) kT (ifpC C) (zd (c.b0) rfl) rflB
 refine stc (V:=.bool (decide (oB=2))) rfl rfl (fun D=>?_) ?_
 exact zR (ifpC D) rfl rflB
 refine st (zF rfl (fun hbp=>(ifpC hbp)) (st (mV (.bool ((decide (oA=2))&&(decide (oB=2)))) (stc (V:=.agg #[Iv oA,Iv aA]) rfl rfl (fun af=>?_) ?_))))
 have ag:=af
 try simp only[zh]at ag
 exact ze nT mT rfl rfl (zi (c.b1)) rflB
 refine stc (V:=.agg #[Iv oB,Iv aB]) rfl rfl (fun ah=>?_) ?_
 have ai:=ah
 try simp only[zh]at ai
 exact ze nT mT rfl rfl (zi (c.b0)) rflB
 refine stc (V:=.bool (!decide (oA=oB∧aA=aB))) rfl rfl (fun p=>?_) ?_
 have aj:=p
 try simp only[zh]at aj
 exact Wz (e:=decide (oA=oB∧aA=aB)) (xs:=#[Iv oA,Iv aA]) (ys:=#[Iv oB,Iv aB]) JM (ifpC p) (ifpC p) rflB
 refine st (zF rfl (fun hbp=>(ifpC hbp)) (st (aS (.bool (((decide (oA=2))&&(decide (oB=2)))&&(!decide (oA=oB∧aA=aB)))) (zb (zo (zN tT (show _=(.bool (((decide (oA=2))&&(decide (oB=2)))&&(!decide (oA=oB∧aA=aB))):Value)from rfl) ?_))))))
 refine⟨?_,(c.s3_)⟩
 unfold YN
 (first|rw[ifpC (by omega)]|rw[ifnC (by omega),ifpC (by omega)]|rw[ifnC (by omega),ifnC (by omega),ifpC (by omega)]|rw[ifnC (by omega),ifnC (by omega),ifnC (by omega)])<;>(first|rfl|simp_all)
theorem zdF {f:Fld}{df0:Value}(hdf0:RdS W G df0 f.moves)(of:f.Ok){x:Ev}{dx0:Value}(hdx0:RdS W G dx0 x.deps)(ox:x.Ok){e:Ev}{de0:Value}(hde0:RdS W G de0 e.deps)(oe:e.Ok)(hS0:Sep G W Rs w):Ret Tryz.prog 118 [.agg (f.cells df0).toArray,.agg (x.cells dx0).toArray,.agg (e.cells de0).toArray] w (fun r w'=>r=(.bool ((xt f x e)):Value)∧Sep G W Rs w'):=by
 refine zm Tryz.func118 rfl rfl ?_
 refine za (R0 fun _=>st (zT rfl ?_))
 intro w3 b2 X
 refine st (zT rfl ?_)
 intro w7 D Y
 refine st (zT rfl ?_)
 intro w11 o Z
 have c:=((hS0.new X).new Y).new Z
 refine st (aS (.bool false) (zb (za (zy kr (st (Yq rfl (st (lD (Iv (f.policy)) kT rfl (zd (c.b2) rfl) (st (zR rfl rfl (st (mV (.bool (decide (f.policy=2))) (stc (V:=Ix b2 1) rfl rfl (fun E=>?_) ?_)))))))))))))
 exact Yq rfl rflB
 refine stc (V:=Iv (f.policy)) rfl rfl (fun p=>?_) ?_
 exact lD (Iv (f.policy)) kT (ifpC p) (zd (c.b2) rfl) rflB
 refine stc (V:=.bool (decide (f.policy=3))) rfl rfl (fun q=>?_) ?_
 exact zR (ifpC q) rfl rflB
 refine stc (V:=.bool (decide (f.policy=3))) rfl rfl (fun s=>?_) ?_
 exact yg (ifpC s) rflB
 refine xn (V:=Ix D 8) rfl rfl (fun t=>?_) ?_
 exact Zc rfl rflB
 refine xn (V:=Iv (x.arg)) rfl rfl (fun h=>?_) ?_
 exact lD (Iv (x.arg)) kT (ifpC ⟨h.1,h.2⟩) (zd (c.b1) rfl) rflB
 refine xn (V:=Ix o 8) rfl rfl (fun u=>?_) ?_
 exact Zc rfl rflB
 refine xn (V:=Iv (e.arg)) rfl rfl (fun i=>?_) ?_
 exact lD (Iv (e.arg)) kT (ifpC ⟨i.1,i.2⟩) (zd (c.b0) rfl) rflB
 refine xn (V:=.bool (decide (e.arg<x.arg))) rfl rfl (fun d=>?_) ?_
 exact xj (k:=.i64) (a:=x.arg) (b:=e.arg) (ifpC ⟨d.1,d.2⟩) (ifpC ⟨d.1,d.2⟩) rflB
 refine stc (V:=.bool ((decide (f.policy=3))&&(decide (e.arg<x.arg)))) rfl rfl (fun n=>?_) ?_
 exact zF (ifpC n) (fun hbp=>(ifpC ⟨n,hbp⟩)) rflB
 refine st (zz rfl (fun hbp=>(ifpC hbp)) (st (aS (.bool ((decide (f.policy=2))||((decide (f.policy=3))&&(decide (e.arg<x.arg))))) (zb (za (zy kr (st (mV (.bool ((decide (f.policy=2))||((decide (f.policy=3))&&(decide (e.arg<x.arg))))) (st (mV (.bool ((decide (f.policy=2))||((decide (f.policy=3))&&(decide (e.arg<x.arg))))) (stc (V:=.agg (f.cells df0).toArray) rfl rfl (fun F=>?_) ?_)))))))))))
 have H:=F
 try simp only[zh]at H
 exact ze oT lT rfl rfl (zi (c.b2)) rflB
 refine stc (V:=Ix D 7) rfl rfl (fun I=>?_) ?_
 have J:=I
 try simp only[zh]at J
 exact xP rfl rflB
 refine stc (V:=Iv (x.op)) rfl rfl (fun y=>?_) ?_
 have K:=y
 try simp only[zh]at K
 exact lD (Iv (x.op)) kT (ifpC y) (zd (c.b1) rfl) rflB
 refine stc (V:=Ix D 8) rfl rfl (fun L=>?_) ?_
 have M:=L
 try simp only[zh]at M
 exact Zc rfl rflB
 refine stc (V:=Iv (x.arg)) rfl rfl (fun z=>?_) ?_
 have N:=z
 try simp only[zh]at N
 exact lD (Iv (x.arg)) kT (ifpC z) (zd (c.b1) rfl) rflB
 refine stc (V:=Ix o 7) rfl rfl (fun O=>?_) ?_
 have P:=O
 try simp only[zh]at P
 exact xP rfl rflB
 refine stc (V:=Iv (e.op)) rfl rfl (fun A=>?_) ?_
 have Q:=A
 try simp only[zh]at Q
 exact lD (Iv (e.op)) kT (ifpC A) (zd (c.b0) rfl) rflB
 refine stc (V:=Ix o 8) rfl rfl (fun R=>?_) ?_
 have S:=R
 try simp only[zh]at S
 exact Zc rfl rflB
 refine stc (V:=Iv (e.arg)) rfl rfl (fun B=>?_) ?_
 have T:=B
 try simp only[zh]at T
 exact lD (Iv (e.arg)) kT (ifpC B) (zd (c.b0) rfl) rflB
 cases j:(decide (f.policy=2))||((decide (f.policy=3))&&(decide (e.arg<x.arg)))
 have g:=j
 try simp only[zh]at j
 refine stx rfl rfl (st (yb rfl rfl (st (mV (.bool false) (stx rfl rfl (stx rfl rfl (stx rfl rfl (st (yb rfl rfl (st (aS (.bool false) (zb (zo (zN nR (show _=(.bool false:Value)from rfl) ?_))))))))))))))
 refine⟨?_,(c.s3_)⟩
 unfold xt
 first|rfl|simp only[g,Bool.false_and,Bool.true_and,Bool.and_false,Bool.and_true,Bool.true_or,Bool.or_true]
 have g:=j
 try simp only[zh]at j
 refine sty rfl rfl (cL Tryz.call140 (zay (f:=f) (oA:=x.op) (aA:=x.arg) (oB:=e.op) (aB:=e.arg) hdf0 of ox.op ox.arg oe.op oe.arg c) ?_)
 rintro _ w58 ⟨rfl,l⟩
 refine st (yc rfl rfl (st (mV (.bool ((YN f.kind x.op x.arg e.op e.arg))) (stc (V:=.agg (x.cells dx0).toArray) rfl rfl (fun hb60=>?_) ?_))))
 exact ze qT rT rfl rfl (zi (l.b1)) rflB
 refine stc (V:=.agg (e.cells de0).toArray) rfl rfl (fun hb62=>?_) ?_
 exact ze qT rT rfl rfl (zi (l.b0)) rflB
 cases C:(YN f.kind x.op x.arg e.op e.arg)
 have m:=C
 refine stx rfl rfl (st (yb rfl rfl (st (aS (.bool false) (zb (zo (zN nR (show _=(.bool false:Value)from rfl) ?_)))))))
 refine⟨?_,(l.s3_)⟩
 unfold xt
 first|rfl|simp only[g,m,Bool.false_and,Bool.true_and,Bool.and_false,Bool.and_true,Bool.true_or,Bool.or_true]
 have m:=C
 refine sty rfl rfl (cL Tryz.call141 (zcR (a:=x) (b:=e) hdx0 ox hde0 oe l) ?_)
 rintro _ w66 ⟨rfl,U⟩
 refine st (yc rfl rfl (st (aS (.bool ((xZ x e))) (zb (zo (zN nR (show _=(.bool ((xZ x e)):Value)from rfl) ?_))))))
 refine⟨?_,(U.s3_)⟩
 unfold xt
 first|rfl|simp only[g,m,Bool.false_and,Bool.true_and,Bool.and_false,Bool.and_true,Bool.true_or,Bool.or_true]
end
end Go.Proofs.YtbcdijeggfoabaaGreatDoor
