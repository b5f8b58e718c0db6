import Derived.Test.YtbcdijeggfoabaaGreatDoorW4
import Derived.Test.YtbcdijeggfoabaaGreatDoorW1
import Derived.Test.YtbcdijeggfoabaaGreatDoorRows
import Derived.OpenShut
import Derived.Stop.Joined
import Derived.LaidMore
import Derived.MakeChecks
import Derived.Test.YtbcdijeggfoabaaGreatDoorW2
set_option linter.unusedSimpArgs false
set_option linter.unusedVariables false
set_option linter.unusedSectionVars false
set_option linter.deprecated false
open Go.Proofs.Tryz renaming sizeOf106→kT,underlying44→lT,underlying49→mT,results76→nT,underlying112→oT,isAgg106→pT,underlying143→qT,underlying106→rT,underlying104→sT,underlying22→tT,call99→uT,underlying3→vT,underlying25→wT,zeroValue106→kR,isAgg22→lR,underlying72→mR,results98→nR,results122→oR,sizeOf74→pR,isAgg72→qR,isAgg104→rR,underlying156→sR,isAgg3→tR,underlying74→uR,underlying26→vR,underlying27→wR
namespace Go.Proofs.YtbcdijeggfoabaaGreatDoor
variable {G:Nat→Prop}{W w:World}{Rs:List HP}
section
set_option maxRecDepth 8000
set_option maxHeartbeats 4000000
open Go.Proofs Go.RowKit
def kindsL:List Int:=[0,1,2,3,3,4]
theorem Ke:kindsL.length=6:=rfl
def yD (d:Dcl)(ty f:Int):Bool:=(decide (0≤ty)&&decide (ty≤((d.types.length:Nat):Int)-1))&&(decide (0≤f)&&decide (f≤(((d.types.getD ty.toNat default).fields.length:Nat):Int)-1))
def zW (d:Dcl)(ty f:Int):Fld:=if yD d ty f=true then(d.types.getD ty.toNat default).fields.getD f.toNat default else⟨0,0,false,[]⟩
def yV (d:Dcl)(ty f op arg:Int):Int:=
 if(!yD d ty f)=true then 8 else if(!(decide (1≤op)&&decide (op≤5))|| !decide (kindsL.getD op.toNat 0=(zW d ty f).kind))=true then 2
 else if(decide (op=1)&&decide (arg=0))=true then 1 else if(decide (op=5)&& !(decide (0≤arg)&&decide (arg≤(((zW d ty f).moves.length:Nat):Int)-1)))=true then 1 else 0
theorem Yb {d:Dcl}{ty f op arg:Int}(h:yV d ty f op arg=0):0≤ty∧ty<d.types.length∧Fits (d.types.getD ty.toNat default) f op arg:=by
 unfold yV at h
 split at h
 ·cases h
 rename_i h1
 split at h
 ·cases h
 rename_i h2
 split at h
 ·cases h
 rename_i h3
 split at h
 ·cases h
 rename_i h4
 have hB:yD d ty f=true:=by simpa using h1
 have hz:zW d ty f=(d.types.getD ty.toNat default).fields.getD f.toNat default:=by unfold zW;rw[hB];rfl
 rw[hz]at h2 h4
 unfold yD at hB
 simp only[Bool.and_eq_true,decide_eq_true_eq]at hB
 simp only[Bool.or_eq_true,Bool.not_eq_true',Bool.and_eq_false_iff,Bool.and_eq_true,decide_eq_true_eq,decide_eq_false_iff_not,not_or,Decidable.not_not,not_and]at h2 h3 h4
 refine⟨hB.1.1,by omega,⟨hB.2.1,by omega,?_⟩⟩
 have h5:op=1∨op=2∨op=3∨op=4∨op=5:=by omega
 have h6:=h2.2
 unfold xi
 rcases h5 with rfl|rfl|rfl|rfl|rfl
 ·exact .inl ⟨rfl,h6.symm⟩
 ·exact .inr (.inl ⟨rfl,h6.symm⟩)
 ·exact .inr (.inr (.inl ⟨.inl rfl,h6.symm⟩))
 ·exact .inr (.inr (.inl ⟨.inr rfl,h6.symm⟩))
 ·have:=h4 rfl
  exact .inr (.inr (.inr ⟨rfl,h6.symm,by omega,by omega⟩))
instance:Flat Mv:=⟨fun h=>h⟩
theorem Xe {x:Int}(hx:InR x){lo:Int}(hlo:InR lo){hi:Int}(hhi:InR hi)(hS0:Sep G W Rs w):Ret Tryz.prog 99 [.int .i64 (x),.int .i64 (lo),.int .i64 (hi)] w (fun r w'=>r=(.bool ((decide (lo≤x)&&decide (x≤hi))):Value)∧Sep G W Rs w'):=by
 refine zi Tryz.func99 rfl rfl ?_
 refine za (R0 fun _=>st (aS (.bool false) (zb (za (zA kr (st (mV (Iv x) (st (mV (Iv lo) (st (yR rfl rfl (st (mV (.bool (decide (lo≤x))) (stc (V:=Iv x) rfl rfl (fun d=>?_) ?_))))))))))))))
 exact mV (Iv x) ⟨rfl,rfl⟩
 refine stc (V:=Iv hi) rfl rfl (fun e=>?_) ?_
 exact mV (Iv hi) ⟨rfl,rfl⟩
 refine stc (V:=.bool (decide (x≤hi))) rfl rfl (fun c=>?_) ?_
 exact zdP (if_pos c) (if_pos c) ⟨rfl,rfl⟩
 refine st (zy rfl (fun hbp=>(if_pos hbp)) (st (aS (.bool ((decide (lo≤x))&&(decide (x≤hi)))) (zb (zk (zG Tryz.results99 rfl ?_))))))
 refine⟨rfl,hS0⟩
theorem VK {vl:Value}{l:List Mv}(hl:RdS W G vl l)(hS0:Sep G W Rs w):Ret Tryz.prog 122 [vl] w (fun r w'=> ∃(v:Value),r=(v:Value)∧Sep G W ((RowE (α:=Mv) own 143 v l)::Rs) w'):=by
 have hls:_*32≤_:=hl.small
 refine zi (args:=[vl]) Tryz.func122 rfl rfl ?_
 refine za (R0 fun _=>st (aS (Iz) (zb (za (za (R0 fun _=>st (mV vl (st (Zn (v:=vl) sT rfl hl.sl (zb ?_))))))))))
 cases i:Zj vl
 refine ze rfl (zl (za (R0 fun _=>st (zI (k:=4) (parts':=[]) (c:=#[]) sT Tryz.sizeOf143 Tryz.zeroValue143 dc rfl kr ?_))))
 intro o p j
 refine st (mV vl ?_)
 have d:Sep G W ((RowE (α:=Mv) own 143 (Iy p 0 0) ([]:List Mv))::Rs) o:=Sep.blkRow (src:=own) (l:=([]:List Mv)) (css:=[]) (hS0.new j) rfl trivial yqa
 have e:=d.r0
 refine st (Za (src:=own) (bytes:=32) d Kt rfl rfl hl yqb rfl (hq':=fun _ _ h _ _=>Wm h) ?_)
 intro b q a
 have a:Sep G W ((RowE (α:=Mv) own 143 b l)::Rs) q:=a
 have f:=a.r0
 refine st (aS b (zb (zk (zG oR rfl ?_))))
 refine⟨b,rfl,a⟩
 have m:=YB hl.sl i
 refine zg rfl (za (R0 fun _=>st (aS (Iz) (zb (zk (zG oR rfl ?_))))))
 have g:Sep G W ((RowE (α:=Mv) own 143 (Iz) ([]:List Mv))::Rs) w:=hS0.rowNil own 143
 have n:l=[]:=List.length_eq_zero_iff.1 m
 subst n
 refine⟨(Iz),rfl,g⟩
theorem zcZ {d:Dcl}{dd0:Value}(hdd0:RdS W G dd0 d.types){dd1:Value}(hdd1:RdS W G dd1 d.projs)(od:d.Ok){ty:Int}(hty:InR ty){f:Int}(hf:InR f)(hS0:Sep G W Rs w):Ret Tryz.prog 98 [.agg (d.cells dd0 dd1).toArray,.int .i64 (ty),.int .i64 (f)] w (fun r w'=> ∃(v:Value),r=(.tuple #[.agg ((zW d ty f).cells v).toArray,.bool ((yD d ty f))]:Value)∧((zW d ty f).Ok)∧Sep G W ((RowE (α:=Mv) own 143 v ((zW d ty f).moves))::Rs) w'):=by
 let ag:=zN W (sb dd0) (so dd0+ty.toNat*1+0)
 let aE:=zN W (sb ag) (so ag+f.toNat*4+3)
 have hdd0s:_*24≤_:=hdd0.small
 have hdd1s:_*40≤_:=hdd1.small
 refine zi (args:=[.agg (d.cells dd0 dd1).toArray,Iv ty,Iv f]) Tryz.func98 rfl rfl ?_
 refine za (R0 fun _=>st (zM (v:=.agg (d.cells dd0 dd1).toArray) rfl ?_))
 intro w3 b2 aI
 refine st (zq kR ?_)
 intro w7 b6 aJ
 have ae:=(hS0.new aI).new aJ
 refine st (aS (.bool false) (zb (za (za (zA kr (st (mV (Iv ty) (st (yC rfl (st (lD dd0 lR rfl (zd (ae.b1) rfl) (st (zJ (n:=d.types.length) tT rfl hdd0.sl ?_)))))))))))))
 have af:InR (((d.types.length:Nat):Int)-1):=by omega
 refine st (YU (r:=((d.types.length:Nat):Int)-1) (k:=.i64) (a:=((d.types.length:Nat):Int)) (b:=1) rfl rfl (zF af) (st (cL uT (Xe (x:=ty) (lo:=0) (hi:=((d.types.length:Nat):Int)-1) hty dc af ae) ?_)))
 rintro _ w10 ⟨rfl,e⟩
 refine st (yB (a:=(decide (0≤ty)&&decide (ty≤(((d.types.length:Nat):Int)-1)))) rfl (st (mV (.bool (!(decide (0≤ty)&&decide (ty≤(((d.types.length:Nat):Int)-1))))) (stc (V:=Iv f) rfl rfl (fun ah=>?_) ?_))))
 have ai:=ah
 try simp only[zf]at ai
 exact mV (Iv f) ⟨rfl,rfl⟩
 refine stc (V:=Ix b2 0) rfl rfl (fun aj=>?_) ?_
 have ak:=aj
 try simp only[zf]at ak
 exact yC rfl ⟨rfl,rfl⟩
 refine stc (V:=dd0) rfl rfl (fun F=>?_) ?_
 have al:=F
 try simp only[zf]at al
 exact lD dd0 lR (if_pos F) (zd (e.b1) rfl) ⟨rfl,rfl⟩
 refine stc (V:=Iv ty) rfl rfl (fun am=>?_) ?_
 have an:=am
 try simp only[zf]at an
 exact mV (Iv ty) ⟨rfl,rfl⟩
 refine stc (V:=Ix (sb dd0) (so dd0+ty.toNat*1)) rfl rfl (fun t=>?_) ?_
 have ao:=t
 try simp only[zf]at ao
 have hi22:ty.toNat<d.types.length:=bo
 exact zr (k:=1) (i:=ty) tT pR (if_pos t) hdd0.sl (if_pos t) ⟨by omega,by omega⟩ ⟨rfl,rfl⟩
 refine stc (V:=Ix (sb dd0) (so dd0+ty.toNat*1)) rfl rfl (fun H=>?_) ?_
 have ap:=H
 try simp only[zf]at ap
 exact yS (if_pos H) ⟨rfl,rfl⟩
 refine stc (V:=ag) rfl rfl (fun I=>?_) ?_
 have aq:=I
 try simp only[zf]at aq
 have J:ty.toNat<d.types.length:=bo
 obtain⟨X,D,hoke27⟩:=hdd0.typD J
 have hsm29:((d.types.getD ty.toNat default).fields).length*48≤140737488355328:=D.small
 have Y:=e.cells X (hdd0.foot (ne_of_lt J))
 exact lD ag qR (if_pos I) (Y.get (j:=0) rfl) ⟨rfl,rfl⟩
 refine stc (V:=Iw (((d.types.getD ty.toNat default).fields).length)) rfl rfl (fun K=>?_) ?_
 have ar:=K
 try simp only[zf]at ar
 have L:ty.toNat<d.types.length:=bo
 obtain⟨Z,o,hoke33⟩:=hdd0.typD L
 have hsm35:((d.types.getD ty.toNat default).fields).length*48≤140737488355328:=o.small
 have hcw36:=e.cells Z (hdd0.foot (ne_of_lt L))
 exact zJ (n:=((d.types.getD ty.toNat default).fields).length) mR (if_pos K) o.sl ⟨rfl,rfl⟩
 refine stc (V:=Iv (((((d.types.getD ty.toNat default).fields).length:Nat):Int)-1)) rfl rfl (fun M=>?_) ?_
 have au:=M
 try simp only[zf]at au
 have N:ty.toNat<d.types.length:=bo
 obtain⟨aa,E,hoke39⟩:=hdd0.typD N
 have hsm41:((d.types.getD ty.toNat default).fields).length*48≤140737488355328:=E.small
 have hcw42:=e.cells aa (hdd0.foot (ne_of_lt N))
 have av:InR (((((d.types.getD ty.toNat default).fields).length:Nat):Int)-1):=by omega
 exact YU (r:=((((d.types.getD ty.toNat default).fields).length:Nat):Int)-1) (k:=.i64) (a:=((((d.types.getD ty.toNat default).fields).length:Nat):Int)) (b:=1) (if_pos M) rfl (zF av) ⟨rfl,rfl⟩
 cases u: !(decide (0≤ty)&&decide (ty≤(((d.types.length:Nat):Int)-1)))
 have hg44r:=u
 try simp only[zf]at u
 have y:ty.toNat<d.types.length:=bo
 obtain⟨C,g,hoke45⟩:=hdd0.typD y
 have hsm47:((d.types.getD ty.toNat default).fields).length*48≤140737488355328:=g.small
 have hcw48:=e.cells C (hdd0.foot (ne_of_lt y))
 refine sty rfl rfl (cL uT (Xe (x:=f) (lo:=0) (hi:=((((d.types.getD ty.toNat default).fields).length:Nat):Int)-1) hf dc om e) ?_)
 rintro _ w49 ⟨rfl,h⟩
 refine sty rfl rfl (yB (a:=(decide (0≤f)&&decide (f≤(((((d.types.getD ty.toNat default).fields).length:Nat):Int)-1)))) rfl (st (yw (v:=.bool (!(decide (0≤f)&&decide (f≤(((((d.types.getD ty.toNat default).fields).length:Nat):Int)-1))))) rfl rfl (zb ?_))))
 cases O: !(decide (0≤f)&&decide (f≤(((((d.types.getD ty.toNat default).fields).length:Nat):Int)-1)))
 try simp only[zf]at O
 refine ze rfl (zl (za (R0 fun _=>st (yC rfl (st (lD dd0 lR rfl (zd (h.b1) rfl) (st (mV (Iv ty) ?_))))))))
 have hi52:ty.toNat<d.types.length:=bo
 refine st (zr (k:=1) (i:=ty) tT pR rfl hdd0.sl rfl ⟨by omega,by omega⟩ (st (yS rfl ?_)))
 have ab:=h.cells C (hdd0.foot (ne_of_lt y))
 refine st (lD ag qR rfl (ab.get (j:=0) rfl) (st (mV (Iv f) ?_)))
 have hi55:f.toNat<((d.types.getD ty.toNat default).fields).length:=bo
 refine st (zr (k:=4) (i:=f) mR kT rfl g.sl rfl ⟨by omega,by omega⟩ ?_)
 have P:f.toNat<((d.types.getD ty.toNat default).fields).length:=bo
 obtain⟨ac,m,p⟩:=g.fldD P
 have hsm58:((((d.types.getD ty.toNat default).fields).getD f.toNat default).moves).length*32≤140737488355328:=m.small
 have ad:=h.cells ac (g.foot (ne_of_lt P))
 refine st (zh (k:=4) pT kT rfl rfl ad (st (zq kR ?_)))
 intro w62 b61 aw
 have Q:=h.new aw
 refine stn (zp (v:=.agg ((((d.types.getD ty.toNat default).fields).getD f.toNat default).cells aE).toArray) (c':=((((d.types.getD ty.toNat default).fields).getD f.toNat default).cells aE).toArray) kT rfl rfl (Q.b0) (zX ⟨rfl,rfl,rfl,m.sl.one,trivial⟩) yqc rfl ?_)
 intro w64 ax
 have R:=Q.pt0 ax
 refine zb (za (R0 fun _=>st (yF rfl (st (lD aE rR rfl (zd (R.b0) rfl) (st (cL Tryz.call122 (VK (l:=(((d.types.getD ty.toNat default).fields).getD f.toNat default).moves) (vl:=aE) m R) ?_)))))))
 rintro q w68 ⟨_,rfl,z⟩
 have A:=z.r0
 have hr70s:_*32≤_:=A.2
 refine st (yF rfl (stn (ym (v:=q) (c:=[Iv ((((d.types.getD ty.toNat default).fields).getD f.toNat default).kind),Iv ((((d.types.getD ty.toNat default).fields).getD f.toNat default).policy),.bool ((((d.types.getD ty.toNat default).fields).getD f.toNat default).floor),aE]) (c':=[Iv ((((d.types.getD ty.toNat default).fields).getD f.toNat default).kind),Iv ((((d.types.getD ty.toNat default).fields).getD f.toNat default).policy),.bool ((((d.types.getD ty.toNat default).fields).getD f.toNat default).floor),q]) Tryz.sizeOf104 rfl rfl (z.b1) A.1.one rfl rfl ?_)))
 intro w71 ay
 have az:Fld.Ok (((d.types.getD ty.toNat default).fields).getD f.toNat default):=⟨(show InR ((((d.types.getD ty.toNat default).fields).getD f.toNat default).kind)from p.kind),(show InR ((((d.types.getD ty.toNat default).fields).getD f.toNat default).policy)from p.policy)⟩
 have B:=z.pt1 ay
 refine zb (za (R0 fun _=>st (zh (k:=4) pT kT rfl rfl (CellsAt.all (B.b1)) (stn (zp (v:=.agg ((((d.types.getD ty.toNat default).fields).getD f.toNat default).cells q).toArray) (c':=((((d.types.getD ty.toNat default).fields).getD f.toNat default).cells q).toArray) kT rfl rfl (B.b2) (zX ⟨rfl,rfl,rfl,A.1.one,trivial⟩) yqc rfl ?_)))))
 intro w75 aA
 have S:=B.pt2 aA
 refine st (aS (.bool true) (zb (zk (xD (b:=b6) nR pT kT rfl rfl (CellsAt.all (S.b2)) (show _=(.bool true:Value)from rfl) ?_))))
 have s:yD d ty f=true:=by unfold yD;simp only[Bool.and_eq_true,decide_eq_true_eq];omega
 have hz:zW d ty f=(((d.types.getD ty.toNat default).fields).getD f.toNat default):=by unfold zW;rw[s];rfl
 rw[hz,s]
 refine⟨q,rfl,?_,(S.s4_a)⟩
 exact az
 try simp only[zf]at O
 refine zg rfl (za (R0 fun _=>?_))
 have aB:Fld.Ok (⟨0,0,false,[]⟩:Fld):=⟨(show InR (0)from dc),(show InR (0)from dc)⟩
 refine st (zL (parts':=[]) (v:=.agg ((⟨0,0,false,[]⟩:Fld).cells (Iz)).toArray) rfl (by simp+zetaDelta [Instr.build,Instr.fill,Ev.cells,go_sem,Mv.cells,Fld.cells,Typ.cells,Prj.cells,Dcl.cells,Cel.cells,AskR.cells]) (stn (zp (v:=.agg ((⟨0,0,false,[]⟩:Fld).cells (Iz)).toArray) (c':=((⟨0,0,false,[]⟩:Fld).cells (Iz)).toArray) kT rfl rfl (h.b0) (zX ⟨rfl,rfl,rfl,rfl,trivial⟩) yqc rfl ?_)))
 intro w80 aC
 have T:=h.pt0 aC
 refine st (aS (.bool false) (zb (zk (xD (b:=b6) nR pT kT rfl rfl (CellsAt.all (T.b0)) (show _=(.bool false:Value)from rfl) ?_))))
 have aD:Sep _ _ ((RowE (α:=Mv) own 143 (Iz) ([]:List Mv))::_) _:=T.rowNil own 143
 have s:yD d ty f=false:=by unfold yD;rw[Bool.eq_false_iff];intro h9;simp only[Bool.and_eq_true,decide_eq_true_eq]at h9;omega
 have hz:zW d ty f=(⟨0,0,false,[]⟩:Fld):=by unfold zW;rw[s];rfl
 rw[hz,s]
 refine⟨(Iz),rfl,?_,(aD.s3_a)⟩
 exact aB
 try simp only[zf]at u
 refine stx rfl rfl (stx rfl rfl (st (yz (v:=.bool true) rfl rfl (zb (zg rfl (za (R0 fun _=>?_)))))))
 have aF:Fld.Ok (⟨0,0,false,[]⟩:Fld):=⟨(show InR (0)from dc),(show InR (0)from dc)⟩
 refine st (zL (parts':=[]) (v:=.agg ((⟨0,0,false,[]⟩:Fld).cells (Iz)).toArray) rfl (by simp+zetaDelta [Instr.build,Instr.fill,Ev.cells,go_sem,Mv.cells,Fld.cells,Typ.cells,Prj.cells,Dcl.cells,Cel.cells,AskR.cells]) (stn (zp (v:=.agg ((⟨0,0,false,[]⟩:Fld).cells (Iz)).toArray) (c':=((⟨0,0,false,[]⟩:Fld).cells (Iz)).toArray) kT rfl rfl (e.b0) (zX ⟨rfl,rfl,rfl,rfl,trivial⟩) yqc rfl ?_)))
 intro w86 aG
 have U:=e.pt0 aG
 refine st (aS (.bool false) (zb (zk (xD (b:=b6) nR pT kT rfl rfl (CellsAt.all (U.b0)) (show _=(.bool false:Value)from rfl) ?_))))
 have aH:Sep _ _ ((RowE (α:=Mv) own 143 (Iz) ([]:List Mv))::_) _:=U.rowNil own 143
 have s:yD d ty f=false:=by unfold yD;rw[Bool.eq_false_iff];intro h9;simp only[Bool.and_eq_true,decide_eq_true_eq]at h9;omega
 have hz:zW d ty f=(⟨0,0,false,[]⟩:Fld):=by unfold zW;rw[s];rfl
 rw[hz,s]
 refine⟨(Iz),rfl,?_,(aH.s3_a)⟩
 exact aF
theorem zca {d:Dcl}{dd0:Value}(hdd0:RdS W G dd0 d.types){dd1:Value}(hdd1:RdS W G dd1 d.projs)(od:d.Ok){ty:Int}(hty:InR ty){f:Int}(hf:InR f){op:Int}(hop:InR op){arg:Int}(harg:InR arg)(hKN:RdS W G (.slice (some ⟨0,0,none⟩) 6 6) kindsL)(hS0:Sep G W Rs w):Ret Tryz.prog 76 [.agg (d.cells dd0 dd1).toArray,.int .i64 (ty),.int .i64 (f),.int .i64 (op),.int .i64 (arg)] w (fun r w'=>r=(.int .i64 (yV d ty f op arg):Value)∧Sep G W Rs w'):=by
 have hdd0s:_*24≤_:=hdd0.small
 have hdd1s:_*40≤_:=hdd1.small
 have hKNs:_*8≤_:=hKN.small
 refine zi (args:=[.agg (d.cells dd0 dd1).toArray,Iv ty,Iv f,Iv op,Iv arg]) Tryz.func76 rfl rfl ?_
 refine za (R0 fun _=>st (zM (v:=.agg (d.cells dd0 dd1).toArray) rfl ?_))
 intro w3 b2 aL
 have aB:=hS0.new aL
 refine st (aS (Iv 0) (zb (za (R0 fun _=>st (zh (k:=2) Tryz.isAgg25 Tryz.sizeOf25 rfl rfl (CellsAt.all (aB.b0)) (st (mV (Iv ty) (st (mV (Iv f) (st (cL Tryz.call98 (zcZ (d:=d) (ty:=ty) (f:=f) hdd0 hdd1 od hty hf aB) ?_)))))))))))
 rintro _ w7 ⟨z,rfl,hfok6,aC⟩
 let aG:=(zW d ty f).cells z
 have X:=aC.r0
 have hr9s:_*32≤_:=X.2
 refine st (mV (.tuple #[.agg aG.toArray,.bool ((yD d ty f))]) (st (zm (vs:=[.agg aG.toArray,.bool ((yD d ty f))]) (i:=0) (v:=.agg aG.toArray) rfl rfl (st (zm (vs:=[.agg aG.toArray,.bool ((yD d ty f))]) (i:=1) (v:=.bool ((yD d ty f))) rfl rfl (st (zq kR ?_)))))))
 intro w12 K aE
 have Y:=aC.new aE
 refine stn (zp (v:=.agg aG.toArray) (c':=aG.toArray) kT rfl rfl (Y.b0) (zX ⟨rfl,rfl,rfl,X.1.one,trivial⟩) yqc rfl ?_)
 intro w14 aF
 have Z:=Y.pt0 aF
 refine st (aS (.bool ((yD d ty f))) (zb (za (zn (za (R0 fun _=>st (mV (.bool ((yD d ty f))) (st (yB (a:=(yD d ty f)) rfl (st (aS (.bool (!(yD d ty f))) (zb ?_))))))))))))
 cases I: !(yD d ty f)
 have h:=I
 try simp only[zf]at I
 refine ze rfl (za ?_)
 refine WD4 ((fun TT aD=>WF [fun vals wq=>Sep G W (aD::TT) wq,fun vals wq=>(vals 1=(.bool ((decide (1≤op)&&decide (op≤5))):Value))∧Sep G W (aD::TT) wq]) ((RowE (α:=Mv) own 143 z ((zW d ty f).moves))::(Blk b2 (d.cells dd0 dd1).toArray 25)::Rs) (Blk K aG.toArray 106)) (AF [Vl 0 (Iv op),fun _=>True,Vl 2 (.bool (!(decide (1≤op)&&decide (op≤5)))),Vl 3 (.bool (!(decide (1≤op)&&decide (op≤5)))),Vl 4 (if(!(decide (1≤op)&&decide (op≤5)))=false then Iv op else undef),Vl 5 (if(!(decide (1≤op)&&decide (op≤5)))=false then Ix (sb (Iy 0 6 6)) (so (Iy 0 6 6)+op.toNat*1)else undef),Vl 6 (if(!(decide (1≤op)&&decide (op≤5)))=false then Iv ((kindsL.getD op.toNat 0))else undef),Vl 7 (if(!(decide (1≤op)&&decide (op≤5)))=false then Ix K 0 else undef),Vl 8 (if(!(decide (1≤op)&&decide (op≤5)))=false then Iv ((zW d ty f).kind)else undef),Vl 9 (if(!(decide (1≤op)&&decide (op≤5)))=false then .bool (!decide ((kindsL.getD op.toNat 0)=((zW d ty f).kind)))else undef),Vl 10 (.bool ((!(decide (1≤op)&&decide (op≤5)))||(!decide ((kindsL.getD op.toNat 0)=((zW d ty f).kind))))),Vl 11 (.bool ((!(decide (1≤op)&&decide (op≤5)))||(!decide ((kindsL.getD op.toNat 0)=((zW d ty f).kind)))))]) [[],[0],[0,1],[0,1,2],(rg 4),(rg 5),(rg 6),(rg 4),[0,1,2,3,7],(rg 9),(rg 10),(rg 11)] [1] [(0,0),(0,0),(1,1),(1,1),(1,1),(1,1),(1,1),(1,1),(1,1),(1,1),(1,1),(1,1)] Z ⟨fun _ _ _ _ _ _ _=>obl rfl (mV (Iv op) dR),?_,?_,fun _ _ _ _ _ _ ac=>obl rfl (yi (v:=.bool (!(decide (1≤op)&&decide (op≤5)))) (ac 2 dc) dR),?_,?_,?_,?_,?_,?_,fun _ _ _ _ _ _ L=>obl rfl (zt (b:= !(decide (1≤op)&&decide (op≤5))) (b':= !decide ((kindsL.getD op.toNat 0)=((zW d ty f).kind))) (L 3 dc) (fun hbp=>(Eq.trans (L 9 dc) (if_pos hbp))) dR),fun _ _ _ _ _ _ ad=>obl rfl (zY (v:=.bool ((!(decide (1≤op)&&decide (op≤5)))||(!decide ((kindsL.getD op.toNat 0)=((zW d ty f).kind))))) (ad 10 dc) dR),trivial⟩ ?_
 refine ob1 0 fun vals _ (aH:Sep _ _ _ _) aI=>(obl rfl ((zH (f:=99) (vals:=[Iv op,Iv 1,Iv 5]) (cap:=[]) rfl (yE ⟨(aI 0 dc),rfl,rfl,trivial⟩) uT (Xe (x:=op) (lo:=1) (hi:=5) om dc dc aH) ?_)))
 rintro _ w32 ⟨rfl,aJ⟩
 exact fun c e hv'=>⟨(zx e aJ),trivial⟩
 refine ob1 1 fun _ _ ae _=>?_
 obtain⟨A,hS142⟩:=ae
 exact obl rfl (yB (a:=(decide (1≤op)&&decide (op≤5))) A dR)
 refine fun _ _ _ _ _ _ af=>(yr rfl rfl (af 3 dc) (fun B=>?_) (fun B=>fun c e _=>⟨trivial,e.trans (if_neg B).symm⟩))
 have ag:=B
 try simp only[zf]at ag
 exact mV (Iv op) (fun c e _=>⟨rfl,e.trans (if_pos B).symm⟩)
 refine ob1 1 fun _ _ ah M=>?_
 obtain⟨A,hS165⟩:=ah
 refine yr rfl rfl (M 3 dc) (fun q=>?_) (fun q=>fun c e _=>⟨trivial,e.trans (if_neg q).symm⟩)
 have ai:=q
 try simp only[zf]at ai
 exact Va (b:=sb (Iy 0 6 6)) (o:=so (Iy 0 6 6)) (k:=1) (n:=6) (i:=op) (off:=op.toNat*1) sR Tryz.sizeOf3 rfl (Eq.trans (M 4 dc) (if_pos q)) om rfl (fun c e _=>⟨rfl,e.trans (if_pos q).symm⟩)
 refine ob1 1 fun _ _ aj N=>?_
 obtain⟨A,ak⟩:=aj
 refine yr rfl rfl (N 3 dc) (fun s=>?_) (fun s=>fun c e _=>⟨trivial,e.trans (if_neg s).symm⟩)
 have al:=s
 try simp only[zf]at al
 have O:op.toNat<kindsL.length:=(by first|omega|(rw[Ke];omega))
 obtain⟨aa,hxe181⟩:=hKN.intD O
 have ab:=ak.cells aa (hKN.foot (ne_of_lt O))
 exact lD (Iv ((kindsL.getD op.toNat 0))) tR (Eq.trans (N 5 dc) (if_pos s)) (ab.get (j:=0) rfl) (fun c e _=>⟨rfl,e.trans (if_pos s).symm⟩)
 refine fun _ _ _ _ _ _ am=>(yr rfl rfl (am 3 dc) (fun C=>?_) (fun C=>fun c e _=>⟨trivial,e.trans (if_neg C).symm⟩))
 have an:=C
 try simp only[zf]at an
 exact xg rfl (fun c e _=>⟨rfl,e.trans (if_pos C).symm⟩)
 refine ob1 1 fun _ _ ao P=>?_
 obtain⟨A,ap⟩:=ao
 refine yr rfl rfl (P 3 dc) (fun t=>?_) (fun t=>fun c e _=>⟨trivial,e.trans (if_neg t).symm⟩)
 have aq:=t
 try simp only[zf]at aq
 exact lD (Iv ((zW d ty f).kind)) tR (Eq.trans (P 7 dc) (if_pos t)) (zd (ap.b0) rfl) (fun c e _=>⟨rfl,e.trans (if_pos t).symm⟩)
 refine ob1 1 fun _ _ ar J=>?_
 obtain⟨A,hS210⟩:=ar
 refine yr rfl rfl (J 3 dc) (fun m=>?_) (fun m=>fun c e _=>⟨trivial,e.trans (if_neg m).symm⟩)
 have au:=m
 try simp only[zf]at au
 exact yn (k:=.i64) (a:=(kindsL.getD op.toNat 0)) (b:=(zW d ty f).kind) (Eq.trans (J 6 dc) (if_pos m)) (Eq.trans (J 8 dc) (if_pos m)) (fun c e _=>⟨rfl,e.trans (if_pos m).symm⟩)
 intro vals w231 av aw
 obtain⟨A,u⟩:=av
 have aK:=aw 11 dc
 refine zT (kv:=[(0,.agg (d.cells dd0 dd1).toArray),(1,Iv ty),(2,Iv f),(3,Iv op),(4,Iv arg),(5,Ix b2 0),(10,Iv 0),(14,.agg (d.cells dd0 dd1).toArray),(15,Iv ty),(16,Iv f),(17,.tuple #[.agg ((zW d ty f).cells z).toArray,.bool ((yD d ty f))]),(13,.tuple #[.agg ((zW d ty f).cells z).toArray,.bool ((yD d ty f))]),(18,.agg ((zW d ty f).cells z).toArray),(19,.bool ((yD d ty f))),(11,Ix K 0),(12,.bool ((yD d ty f))),(21,.bool ((yD d ty f))),(22,.bool false),(20,.bool false),(23,.bool ((!(decide (1≤op)&&decide (op≤5)))||(!decide ((kindsL.getD op.toNat 0)=((zW d ty f).kind)))))]) ⟨rfl,rfl,rfl,rfl,rfl,rfl,rfl,rfl,rfl,rfl,rfl,rfl,rfl,rfl,rfl,rfl,rfl,rfl,rfl,(by exact aK),trivial⟩ (fun ρw231=>(zb ?_))
 cases D:(!(decide (1≤op)&&decide (op≤5)))||(!decide ((kindsL.getD op.toNat 0)=((zW d ty f).kind)))
 have g:=D
 try simp only[zf]at D
 refine ze rfl (za (za (zA kr (st (mV (Iv op) (st (zR (k:=.i64) (a:=op) (b:=1) rfl rfl (st (mV (.bool (decide (op=1))) (stc (V:=Iv arg) rfl rfl (fun ax=>?_) ?_))))))))))
 have hl238:=tD ax
 exact mV (Iv arg) ⟨rfl,rfl⟩
 refine stc (V:=.bool (decide (arg=0))) rfl rfl (fun Q=>?_) ?_
 have hl240:=tD Q
 exact zR (k:=.i64) (a:=arg) (b:=0) (if_pos Q) rfl ⟨rfl,rfl⟩
 refine st (zy (b:=decide (op=1)) (b':=decide (arg=0)) rfl (fun hbp=>(if_pos hbp)) (st (aS (.bool ((decide (op=1))&&(decide (arg=0)))) (zb ?_))))
 cases E:(decide (op=1))&&(decide (arg=0))
 have l:=E
 try simp only[zf]at E
 refine ze rfl (zA kr (st (mV (Iv op) (st (zR (k:=.i64) (a:=op) (b:=5) rfl rfl (st (mV (.bool (decide (op=5))) (stc (V:=Iv arg) rfl rfl (fun ay=>?_) ?_))))))))
 have hl243:=tD ay
 exact mV (Iv arg) ⟨rfl,rfl⟩
 refine stc (V:=Ix K 3) rfl rfl (fun az=>?_) ?_
 have hl245:=tD az
 exact yF rfl ⟨rfl,rfl⟩
 refine stc (V:=z) rfl rfl (fun R=>?_) ?_
 have hl247:=tD R
 exact lD z rR (if_pos R) (zd (u.b0) rfl) ⟨rfl,rfl⟩
 refine stc (V:=Iw (((zW d ty f).moves).length)) rfl rfl (fun S=>?_) ?_
 have hl249:=tD S
 exact zJ (n:=((zW d ty f).moves).length) sT (if_pos S) X.1 ⟨rfl,rfl⟩
 refine stc (V:=Iv (((((zW d ty f).moves).length:Nat):Int)-1)) rfl rfl (fun T=>?_) ?_
 have hl251:=tD T
 have aA:InR (((((zW d ty f).moves).length:Nat):Int)-1):=by omega
 exact YU (r:=((((zW d ty f).moves).length:Nat):Int)-1) (k:=.i64) (a:=((((zW d ty f).moves).length:Nat):Int)) (b:=1) (if_pos T) rfl (zF aA) ⟨rfl,rfl⟩
 cases p:decide (op=5)
 have y:=p
 have p:=fD p
 refine stx rfl rfl (stx rfl rfl (st (yw (v:=.bool false) rfl rfl (st (aS (.bool false) (zb (ze rfl (zl (za (R0 fun _=>st (aS (Iv 0) (zb (zk (zG nT (show _=(Iv 0:Value)from rfl) ?_))))))))))))))
 refine⟨?_,(u.s3_)⟩
 unfold yV
 simp only[h,g,l,y,Bool.not_false,Bool.not_true,Bool.true_and,Bool.false_and,Bool.or_true,if_true,if_false,Bool.false_eq_true,↓reduceIte]
 have y:=p
 have p:=tD p
 refine sty rfl rfl (cL uT (Xe (x:=arg) (lo:=0) (hi:=((((zW d ty f).moves).length:Nat):Int)-1) harg dc om u) ?_)
 rintro _ w255 ⟨rfl,U⟩
 refine sty rfl rfl (yB (a:=(decide (0≤arg)&&decide (arg≤(((((zW d ty f).moves).length:Nat):Int)-1)))) rfl (st (yz (v:=.bool (!(decide (0≤arg)&&decide (arg≤(((((zW d ty f).moves).length:Nat):Int)-1))))) rfl rfl (st (aS (.bool (!(decide (0≤arg)&&decide (arg≤(((((zW d ty f).moves).length:Nat):Int)-1))))) (zb ?_))))))
 cases F: !(decide (0≤arg)&&decide (arg≤(((((zW d ty f).moves).length:Nat):Int)-1)))
 have H:=F
 try simp only[zf]at F
 refine ze rfl (zl (za (R0 fun _=>st (aS (Iv 0) (zb (zk (zG nT (show _=(Iv 0:Value)from rfl) ?_)))))))
 refine⟨?_,(U.s3_)⟩
 unfold yV
 simp only[h,g,l,y,H,Bool.not_false,Bool.not_true,Bool.true_and,Bool.false_and,Bool.or_true,if_true,if_false,Bool.false_eq_true,↓reduceIte]
 have H:=F
 try simp only[zf]at F
 refine zg rfl (za (R0 fun _=>st (aS (Iv 1) (zb (zk (zG nT (show _=(Iv 1:Value)from rfl) ?_))))))
 refine⟨?_,(U.s3_)⟩
 unfold yV
 simp only[h,g,l,y,H,Bool.not_false,Bool.not_true,Bool.true_and,Bool.false_and,Bool.or_true,if_true,if_false,Bool.false_eq_true,↓reduceIte]
 have l:=E
 try simp only[zf]at E
 refine zg rfl (zl (zg rfl (za (R0 fun _=>st (aS (Iv 1) (zb (zk (zG nT (show _=(Iv 1:Value)from rfl) ?_))))))))
 refine⟨?_,(u.s3_)⟩
 unfold yV
 simp only[h,g,l,Bool.not_false,Bool.not_true,Bool.true_and,Bool.false_and,Bool.or_true,if_true,if_false,Bool.false_eq_true,↓reduceIte]
 have g:=D
 try simp only[zf]at D
 refine zg rfl (za (R0 fun _=>st (aS (Iv 2) (zb (zk (zG nT (show _=(Iv 2:Value)from rfl) ?_))))))
 refine⟨?_,(u.s3_)⟩
 unfold yV
 simp only[h,g,Bool.not_false,Bool.not_true,Bool.true_and,Bool.false_and,Bool.or_true,if_true,if_false,Bool.false_eq_true,↓reduceIte]
 have h:=I
 try simp only[zf]at I
 refine zg rfl (za (R0 fun _=>st (aS (Iv 8) (zb (zk (zG nT (show _=(Iv 8:Value)from rfl) ?_))))))
 refine⟨?_,(Z.s3_)⟩
 unfold yV
 simp only[h,Bool.not_false,Bool.not_true,Bool.true_and,Bool.false_and,Bool.or_true,if_true,if_false,Bool.false_eq_true,↓reduceIte]
end
section
set_option maxRecDepth 100000
open Go.ChangeShapes Go.WideShapes Go.ChangeAt Go.RowKit
theorem opI:xv Tryz.prog 3 Int:=JC vT
theorem opB:xv Tryz.prog 4 Bool:=Kl Tryz.underlying4
theorem opId:xv Tryz.prog 41 (Int×Int):=QP Tryz.underlying41 (by kernel_rfl) rfl rfl rfl rfl (by kernel_rfl) (by kernel_rfl) opI opI
theorem zdi {α:Type}{l:List α}(h:l.length=4): ∃a0 a1 a2 a3,l=[a0,a1,a2,a3]:=by
 match l,h with
 |[a0,a1,a2,a3],_=>exact⟨a0,a1,a2,a3,rfl⟩
theorem op_Mv:xv Tryz.prog 143 Mv:=by
 intro H enc w fuel cs x h hx
 obtain⟨_,_,_,_,hl,_⟩:=DataW.trod_struct qT h
 obtain⟨c0,c1,c2,c3,rfl⟩:=zdi (hl.trans (by kernel_rfl))
 obtain⟨m0,e0,r0⟩:=yc (α:=Int) (i:=0) qT h hx rfl (by kernel_rfl) opI
 obtain rfl:c0=.int .i64 m0:=List.cons.inj e0 |>.1
 obtain⟨m1,e1,r1⟩:=yc (α:=Int) (i:=1) qT h hx rfl (by kernel_rfl) opI
 obtain rfl:c1=.int .i64 m1:=List.cons.inj e1 |>.1
 obtain⟨m2,e2,r2⟩:=yc (α:=Int) (i:=2) qT h hx rfl (by kernel_rfl) opI
 obtain rfl:c2=.int .i64 m2:=List.cons.inj e2 |>.1
 obtain⟨m3,e3,r3⟩:=yc (α:=Int) (i:=3) qT h hx rfl (by kernel_rfl) opI
 obtain rfl:c3=.int .i64 m3:=List.cons.inj e3 |>.1
 exact⟨⟨m0,m1,m2,m3⟩,rfl,⟨r0,r1,r2,r3⟩⟩
theorem zdx:xv Tryz.prog 104 (List Mv):=xM sT op_Mv (by kernel_rfl) (by kernel_rfl)
theorem zdG:xv Tryz.prog 106 Fld:=by
 intro H enc w fuel cs x h hx
 obtain⟨_,_,_,_,hl,_⟩:=DataW.trod_struct rT h
 obtain⟨c0,c1,c2,c3,rfl⟩:=zdi (hl.trans (by kernel_rfl))
 obtain⟨m0,e0,r0⟩:=yc (α:=Int) (i:=0) rT h hx rfl (by kernel_rfl) opI
 obtain rfl:c0=.int .i64 m0:=List.cons.inj e0 |>.1
 obtain⟨m1,e1,r1⟩:=yc (α:=Int) (i:=1) rT h hx rfl (by kernel_rfl) opI
 obtain rfl:c1=.int .i64 m1:=List.cons.inj e1 |>.1
 obtain⟨m2,e2⟩:=yc (α:=Bool) (i:=2) rT h hx rfl (by kernel_rfl) opB
 obtain rfl:c2=.bool m2:=List.cons.inj e2 |>.1
 obtain⟨l3,v3,e3,r3⟩:=yc (α:=List Mv) (i:=3) rT h hx rfl (by kernel_rfl) zdx
 obtain rfl:c3=v3:=List.cons.inj e3 |>.1
 exact⟨⟨m0,m1,m2,l3⟩,c3,rfl,r3,⟨r0,r1⟩⟩
theorem zcG:xv Tryz.prog 72 (List Fld):=xM mR zdG (by kernel_rfl) (by kernel_rfl)
theorem lst_1 {α:Type}{l:List α}(h:l.length=1): ∃a0,l=[a0]:=by
 match l,h with
 |[a0],_=>exact⟨a0,rfl⟩
theorem zdv:xv Tryz.prog 74 Typ:=by
 intro H enc w fuel cs x h hx
 obtain⟨_,_,_,_,hl,_⟩:=DataW.trod_struct uR h
 obtain⟨c0,rfl⟩:=lst_1 (hl.trans (by kernel_rfl))
 obtain⟨l0,v0,e0,r0⟩:=yc (α:=List Fld) (i:=0) uR h hx rfl (by kernel_rfl) zcG
 obtain rfl:c0=v0:=List.cons.inj e0 |>.1
 exact⟨⟨l0⟩,c0,rfl,r0,⟨⟩⟩
theorem lst_5 {α:Type}{l:List α}(h:l.length=5): ∃a0 a1 a2 a3 a4,l=[a0,a1,a2,a3,a4]:=by
 match l,h with
 |[a0,a1,a2,a3,a4],_=>exact⟨a0,a1,a2,a3,a4,rfl⟩
theorem zdK:xv Tryz.prog 112 Prj:=by
 intro H enc w fuel cs x h hx
 obtain⟨_,_,_,_,hl,_⟩:=DataW.trod_struct oT h
 obtain⟨c0,c1,c2,c3,c4,rfl⟩:=lst_5 (hl.trans (by kernel_rfl))
 obtain⟨m0,e0,r0⟩:=yc (α:=Int) (i:=0) oT h hx rfl (by kernel_rfl) opI
 obtain rfl:c0=.int .i64 m0:=List.cons.inj e0 |>.1
 obtain⟨m1,e1,r1⟩:=yc (α:=Int) (i:=1) oT h hx rfl (by kernel_rfl) opI
 obtain rfl:c1=.int .i64 m1:=List.cons.inj e1 |>.1
 obtain⟨m2,e2,r2⟩:=yc (α:=Int) (i:=2) oT h hx rfl (by kernel_rfl) opI
 obtain rfl:c2=.int .i64 m2:=List.cons.inj e2 |>.1
 obtain⟨m3,e3,r3⟩:=yc (α:=Int) (i:=3) oT h hx rfl (by kernel_rfl) opI
 obtain rfl:c3=.int .i64 m3:=List.cons.inj e3 |>.1
 obtain⟨m4,e4,r4⟩:=yc (α:=Int) (i:=4) oT h hx rfl (by kernel_rfl) opI
 obtain rfl:c4=.int .i64 m4:=List.cons.inj e4 |>.1
 exact⟨⟨m0,m1,m2,m3,m4⟩,rfl,⟨r0,r1,r2,r3,r4⟩⟩
theorem zcJ:xv Tryz.prog 22 (List Typ):=xM tT zdv (by kernel_rfl) (by kernel_rfl)
theorem zcN:xv Tryz.prog 23 (List Prj):=xM Tryz.underlying23 zdK (by kernel_rfl) (by kernel_rfl)
theorem lst_2 {α:Type}{l:List α}(h:l.length=2): ∃a0 a1,l=[a0,a1]:=by
 match l,h with
 |[a0,a1],_=>exact⟨a0,a1,rfl⟩
theorem zdq:xv Tryz.prog 25 Dcl:=by
 intro H enc w fuel cs x h hx
 obtain⟨_,_,_,_,hl,_⟩:=DataW.trod_struct wT h
 obtain⟨c0,c1,rfl⟩:=lst_2 (hl.trans (by kernel_rfl))
 obtain⟨l0,v0,e0,r0⟩:=yc (α:=List Typ) (i:=0) wT h hx rfl (by kernel_rfl) zcJ
 obtain rfl:c0=v0:=List.cons.inj e0 |>.1
 obtain⟨l1,v1,e1,r1⟩:=yc (α:=List Prj) (i:=1) wT h hx rfl (by kernel_rfl) zcN
 obtain rfl:c1=v1:=List.cons.inj e1 |>.1
 exact⟨⟨l0,l1⟩,c0,c1,rfl,r0,r1,⟨⟩⟩
theorem zdd:xv Tryz.prog 42 (List Int):=xM Tryz.underlying42 opI (by kernel_rfl) (by kernel_rfl)
theorem zdE {α:Type}{l:List α}(h:l.length=10): ∃a0 a1 a2 a3 a4 a5 a6 a7 a8 a9,l=[a0,a1,a2,a3,a4,a5,a6,a7,a8,a9]:=by
 match l,h with
 |[a0,a1,a2,a3,a4,a5,a6,a7,a8,a9],_=>exact⟨a0,a1,a2,a3,a4,a5,a6,a7,a8,a9,rfl⟩
theorem op_Ev:xv Tryz.prog 44 Ev:=by
 intro H enc w fuel cs x h hx
 obtain⟨_,_,_,_,hl,_⟩:=DataW.trod_struct lT h
 obtain⟨c0,c1,c2,c3,c4,c5,c6,c7,c8,c9,rfl⟩:=zdE (hl.trans (by kernel_rfl))
 obtain⟨⟨m0,m1⟩,e0,r0,r1⟩:=yc (α:=Int×Int) (i:=0) lT h hx rfl (by kernel_rfl) opId
 obtain rfl:c0=.int .i64 m0:=List.cons.inj e0 |>.1
 obtain rfl:c1=.int .i64 m1:=List.cons.inj (List.cons.inj e0 |>.2) |>.1
 obtain⟨m2,e2,r2⟩:=yc (α:=Int) (i:=1) lT h hx rfl (by kernel_rfl) opI
 obtain rfl:c2=.int .i64 m2:=List.cons.inj e2 |>.1
 obtain⟨l3,v3,e3,r3⟩:=yc (α:=List Int) (i:=2) lT h hx rfl (by kernel_rfl) zdd
 obtain rfl:c3=v3:=List.cons.inj e3 |>.1
 obtain⟨m4,e4,r4⟩:=yc (α:=Int) (i:=3) lT h hx rfl (by kernel_rfl) opI
 obtain rfl:c4=.int .i64 m4:=List.cons.inj e4 |>.1
 obtain⟨m5,e5,r5⟩:=yc (α:=Int) (i:=4) lT h hx rfl (by kernel_rfl) opI
 obtain rfl:c5=.int .i64 m5:=List.cons.inj e5 |>.1
 obtain⟨m6,e6,r6⟩:=yc (α:=Int) (i:=5) lT h hx rfl (by kernel_rfl) opI
 obtain rfl:c6=.int .i64 m6:=List.cons.inj e6 |>.1
 obtain⟨m7,e7,r7⟩:=yc (α:=Int) (i:=6) lT h hx rfl (by kernel_rfl) opI
 obtain rfl:c7=.int .i64 m7:=List.cons.inj e7 |>.1
 obtain⟨m8,e8,r8⟩:=yc (α:=Int) (i:=7) lT h hx rfl (by kernel_rfl) opI
 obtain rfl:c8=.int .i64 m8:=List.cons.inj e8 |>.1
 obtain⟨m9,e9,r9⟩:=yc (α:=Int) (i:=8) lT h hx rfl (by kernel_rfl) opI
 obtain rfl:c9=.int .i64 m9:=List.cons.inj e9 |>.1
 exact⟨⟨m0,m1,m2,l3,m4,m5,m6,m7,m8,m9⟩,c3,rfl,r3,⟨r0,r1,r2,r4,r5,r6,r7,r8,r9⟩⟩
theorem lst_7 {α:Type}{l:List α}(h:l.length=7): ∃a0 a1 a2 a3 a4 a5 a6,l=[a0,a1,a2,a3,a4,a5,a6]:=by
 match l,h with
 |[a0,a1,a2,a3,a4,a5,a6],_=>exact⟨a0,a1,a2,a3,a4,a5,a6,rfl⟩
theorem zdZ:xv Tryz.prog 49 Cmd:=by
 intro H enc w fuel cs x h hx
 obtain⟨_,_,_,_,hl,_⟩:=DataW.trod_struct mT h
 obtain⟨c0,c1,c2,c3,c4,c5,c6,rfl⟩:=lst_7 (hl.trans (by kernel_rfl))
 obtain⟨m0,e0,r0⟩:=yc (α:=Int) (i:=0) mT h hx rfl (by kernel_rfl) opI
 obtain rfl:c0=.int .i64 m0:=List.cons.inj e0 |>.1
 obtain⟨m1,e1,r1⟩:=yc (α:=Int) (i:=1) mT h hx rfl (by kernel_rfl) opI
 obtain rfl:c1=.int .i64 m1:=List.cons.inj e1 |>.1
 obtain⟨m2,e2,r2⟩:=yc (α:=Int) (i:=2) mT h hx rfl (by kernel_rfl) opI
 obtain rfl:c2=.int .i64 m2:=List.cons.inj e2 |>.1
 obtain⟨m3,e3,r3⟩:=yc (α:=Int) (i:=3) mT h hx rfl (by kernel_rfl) opI
 obtain rfl:c3=.int .i64 m3:=List.cons.inj e3 |>.1
 obtain⟨m4,e4,r4⟩:=yc (α:=Int) (i:=4) mT h hx rfl (by kernel_rfl) opI
 obtain rfl:c4=.int .i64 m4:=List.cons.inj e4 |>.1
 obtain⟨m5,e5,r5⟩:=yc (α:=Int) (i:=5) mT h hx rfl (by kernel_rfl) opI
 obtain rfl:c5=.int .i64 m5:=List.cons.inj e5 |>.1
 obtain⟨m6,e6,r6⟩:=yc (α:=Int) (i:=6) mT h hx rfl (by kernel_rfl) opI
 obtain rfl:c6=.int .i64 m6:=List.cons.inj e6 |>.1
 exact⟨⟨m0,m1,m2,m3,m4,m5,m6⟩,rfl,⟨r0,r1,r2,r3,r4,r5,r6⟩⟩
theorem Uk {H:Type}{enc:TypeId×Value→H}{W:World}{base:Nat}{v:Value}{d:DataW H}{ps:List MemPlace}(hval:Value.okWide Tryz.prog W .any base 25 v)(h:DataW.Trod enc Tryz.prog W 0 (fun _=>true) true 25 v d ps)(hx:Ye Tryz.prog 25 d): ∃(p:Dcl) (d1:Value) (d2:Value),v=.agg (p.cells d1 d2).toArray∧RdS W (xA W) d1 p.types∧RdS W (xA W) d2 p.projs∧p.Ok:=by
 obtain⟨cs,rfl,_⟩:=okWide_struct wT hval
 obtain⟨fuel,hf⟩:=h
 obtain⟨e,d1,d2,he,hd1,hd2,ho⟩:=zdq H enc W fuel _ _ hf hx
 refine⟨e,d1,d2,?_,hd1,hd2,ho⟩
 have:cs.toList=e.cells d1 d2:=he
 rw[←this]
theorem Wy {H:Type}{enc:TypeId×Value→H}{W:World}{base:Nat}{v:Value}{d:DataW H}{ps:List MemPlace}(hval:Value.okWide Tryz.prog W .any base 3 v)(h:DataW.Trod enc Tryz.prog W 0 (fun _=>true) true 3 v d ps)(hx:Ye Tryz.prog 3 d): ∃n:Int,v=.int .i64 n∧InR n:=by
 obtain⟨n,rfl⟩:=okWide_int vT hval
 obtain⟨fuel,hf⟩:=h
 obtain⟨m,he,hr⟩:=opI H enc W fuel _ _ hf hx
 obtain rfl:n=m:=by
  have:=List.cons.inj he |>.1
  cases this;rfl
 exact⟨n,rfl,hr⟩
theorem zdH:xv Tryz.prog 26 (List Ev):=xM vR op_Ev (by kernel_rfl) (by kernel_rfl)
theorem QS {H:Type}{enc:TypeId×Value→H}{W:World}{base:Nat}{v:Value}{d:DataW H}{ps:List MemPlace}(hval:Value.okWide Tryz.prog W .any base 26 v)(h:DataW.Trod enc Tryz.prog W 0 (fun _=>true) true 26 v d ps)(hx:Ye Tryz.prog 26 d): ∃l:List Ev,RdS W (xA W) v l:=by
 obtain⟨a,len,cap,rfl⟩:=okWide_slice vR hval
 obtain⟨fuel,hf⟩:=h
 obtain⟨l,v,he,hr⟩:=zdH H enc W fuel _ _ hf hx
 obtain rfl:=List.cons.inj he |>.1
 exact⟨l,hr⟩
theorem zct:xv Tryz.prog 27 (List Cmd):=xM wR zdZ (by kernel_rfl) (by kernel_rfl)
theorem UY {H:Type}{enc:TypeId×Value→H}{W:World}{base:Nat}{v:Value}{d:DataW H}{ps:List MemPlace}(hval:Value.okWide Tryz.prog W .any base 27 v)(h:DataW.Trod enc Tryz.prog W 0 (fun _=>true) true 27 v d ps)(hx:Ye Tryz.prog 27 d): ∃l:List Cmd,RdS W (xA W) v l:=by
 obtain⟨a,len,cap,rfl⟩:=okWide_slice wR hval
 obtain⟨fuel,hf⟩:=h
 obtain⟨l,v,he,hr⟩:=zct H enc W fuel _ _ hf hx
 obtain rfl:=List.cons.inj he |>.1
 exact⟨l,hr⟩
theorem Tryz.own:ownKnob Tryz.prog.godebug=none:=by kernel_rfl
theorem Tryz.laidOut:laidOutB Tryz.prog=true:=by kernel_rfl
theorem zab:Tryz.prog.globalNamed "quayside/schema.kinds" =some 0:=by kernel_rfl
theorem zdO:(Tryz.prog.globals[0]?).map (·.type)=some 156:=by kernel_rfl
theorem JH {W:World}(h:laidMetH Tryz.prog [("quayside/schema.kinds",Rows.laid_quayside_schema_kinds)] W):RdS W (xA W) (.slice (some ⟨0,0,none⟩) 6 6) kindsL:=by
 rw[MakeChecks.laidMetH_plain _ _ _ (by kernel_rfl)]at h
 exact zdc zab (Lib.tabIs_of_head (k:=.i64) (zs:=kindsL) zab zdO sR vT (by kernel_rfl) (by kernel_rfl) h) (by decide) (by decide)
theorem zaJ (os:Os)(args:Array Value):laidMetH Tryz.prog [("quayside/schema.kinds",Rows.laid_quayside_schema_kinds)] ((World.doorLaid Tryz.prog 14 os).forCall (fun _ _=>0) ⟨#[],args,[]⟩).memory:=
 laidMetH_of_parts3 (fuel:=8) (laidMet_of_run' 8 (by kernel_rfl) (by kernel_rfl)) (by kernel_rfl) (by kernel_rfl)
end
section
set_option maxRecDepth 8000
set_option maxHeartbeats 4000000
open Go.Proofs Go.RowKit
theorem zcm {t:Typ}{c:List Cel}{f op arg:Int}(h:yH t c f op arg=0):xu (xi t f) c (yy c f) op arg=true:=by
 unfold yH at h
 split at h
 ·assumption
 ·cases h
end
section
open Go.RowKit Go.MapKept
structure KLaw (P:Program) (kt:TypeId) {κ:Type} [DecidableEq κ] (enc:κ→Value):Prop where
 inj: ∀{a b:κ},enc a=enc b→a=b
 desc: ∃d,P.underlying kt=some d∧ ∀a b,Instr.sameNow d (enc a) (enc b)=none
 check: ∀(w:World) (e:Bool) (k:κ),(Instr.checkKey e 10000 kt (enc k)).run P w=.ok () w
 eql: ∀(w:World) (a b:κ),(Op.equal kt (enc a) (enc b)).run P w=.ok (decide (a=b)) w
 stays: ∀k,Instr.sameBits 10000 (enc k) (enc k)=true
def yI {κ β:Type}[DecidableEq κ](L:List (κ×β))(k:κ):Option β:=(L.find? fun p=>decide (p.1=k)).map (·.2)
def Ug {κ β:Type}[DecidableEq κ](L:List (κ×β))(k:κ)(x:β):List (κ×β):=match L.findIdx? fun p=>decide (p.1=k)with
 |some j=>L.set j (k,x)
 |none=>L++[(k,x)]
def Qs {κ β:Type}[DecidableEq κ](L:List (κ×β))(k:κ)(z:β):List (κ×β):=match L.findIdx? fun p=>decide (p.1=k)with
 |some _=>L
 |none=>L++[(k,z)]
section
variable {P:Program}{kt:TypeId}{κ:Type}[DecidableEq κ]{enc:κ→Value}
theorem KLaw.ask (K:KLaw P kt enc)(k:κ)(w:World): ∀(es:List MapEntry) (i:Nat),(∀e∈es,∃q,e.key=enc q)→
 ((Instr.findAsking kt (enc k) es i).run P w=.ok none w∧ ∀e∈es,e.key≠enc k)∨ ∃j e,(Instr.findAsking kt (enc k) es i).run P w=.ok (some (i+j,e.val)) w∧es[j]? =some e∧e.key=enc k
 |[],i,_=>.inl ⟨rfl,by simp⟩
 |e::es,i,h=>by
  obtain⟨q,hq⟩:=h e (.head _)
  by_cases hk:k=q
  ·subst hk
   refine .inr ⟨0,e,?_,rfl,hq⟩
   simp[Instr.findAsking,hq,K.eql,go_sem]
  ·rcases KLaw.ask K k w es (i+1) (fun x hx=>h x (.tail _ hx))with⟨h1,h2⟩|⟨j,e',h1,h2,h3⟩
   ·refine .inl ⟨?_,fun x hx=>?_⟩
    ·simp[Instr.findAsking,hq,K.eql,hk,h1,go_sem]
    ·rcases List.mem_cons.1 hx with rfl|hx
     ·rw[hq];exact fun e=>hk (K.inj e).symm
     ·exact h2 x hx
   ·refine .inr ⟨j+1,e',?_,by simpa using h2,h3⟩
    have e9:i+1+j=i+(j+1):=by omega
    rw[e9]at h1
    simp[Instr.findAsking,hq,K.eql,hk,h1,go_sem]
theorem KLaw.find (K:KLaw P kt enc)(k:κ)(w:World)(es:List MapEntry)(h: ∀e∈es,∃q,e.key=enc q):
 ((Instr.findKey kt (enc k) es).run P w=.ok none w∧ ∀e∈es,e.key≠enc k)∨ ∃j e,(Instr.findKey kt (enc k) es).run P w=.ok (some (j,e.val)) w∧es[j]? =some e∧e.key=enc k:=by
 obtain⟨d,hd,hs⟩:=K.desc
 match es,h with
 |[],h=>exact .inl ⟨by simp[Instr.findKey,run_underlying hd,Instr.findNow,go_sem],by simp⟩
 |e::es,h=>
  obtain⟨q,hq⟩:=h e (.head _)
  have hn:Instr.findNow d (enc k) (e::es) 0=none:=by simp[Instr.findNow,hq,hs]
  have hr: ∀r,(Instr.findAsking kt (enc k) (e::es) 0).run P w=.ok r w→(Instr.findKey kt (enc k) (e::es)).run P w=.ok r w:=by
   intro r hr
   simp[Instr.findKey,run_underlying hd,hn,go_sem]
   exact hr
  rcases K.ask k w (e::es) 0 h with⟨h1,h2⟩|⟨j,e',h1,h2,h3⟩
  ·exact .inl ⟨hr _ h1,h2⟩
  ·exact .inr ⟨j,e',hr _ (by rw[h1,Nat.zero_add]),h2,h3⟩
theorem KLaw.keeps (K:KLaw P kt enc)(k:κ)(w:World):(Instr.keyThatStays (enc k) (enc k)).run P w=.ok (enc k) w:=by
 simp[Instr.keyThatStays,K.stays]
def EntsV (enc:κ→Value)(es:List MapEntry)(L:List (κ×Value)):Prop:=es.map (fun e=>(e.key,e.val))=L.map (fun p=>(enc p.1,p.2))
theorem EntsV.len {es:List MapEntry}{L:List (κ×Value)}(h:EntsV enc es L):es.length=L.length:=by have:=congrArg List.length h;simpa using this
theorem EntsV.at_ {es:List MapEntry}{L:List (κ×Value)}(h:EntsV enc es L){j:Nat}{e:MapEntry}(he:es[j]? =some e): ∃p,L[j]? =some p∧e.key=enc p.1∧e.val=p.2:=by
 have h1:(es.map (fun e=>(e.key,e.val)))[j]? =(L.map (fun p=>(enc p.1,p.2)))[j]? :=by rw[show es.map _=L.map _ from h]
 rw[List.getElem?_map,List.getElem?_map,he]at h1
 cases hp:L[j]? with
 |none=>rw[hp]at h1;cases h1
 |some p=>rw[hp]at h1;simp only[Option.map_some,Option.some.injEq,Prod.mk.injEq]at h1;exact⟨p,rfl,h1.1,h1.2⟩
theorem EntsV.keys {es:List MapEntry}{L:List (κ×Value)}(h:EntsV enc es L): ∀e∈es,∃q,e.key=enc q:=by
 intro e he
 obtain⟨j,hj,rfl⟩:=List.getElem_of_mem he
 obtain⟨p,_,h1,_⟩:=h.at_ (List.getElem?_eq_getElem hj)
 exact⟨p.1,h1⟩
theorem EntsV.nodup {es:List MapEntry}{L:List (κ×Value)}(h:EntsV enc es L)(hp:(es.map (·.key)).Nodup):(L.map (·.1)).Nodup:=by
 have h1:(es.map (·.key))=(L.map (·.1)).map enc:=by
  have:=congrArg (List.map Prod.fst) h
  simpa[Function.comp_def]using this
 have h2:((L.map (·.1)).map enc).Nodup:=by rw[←h1];exact hp
 exact(List.pairwise_map.1 h2).imp (fun hne e=>hne (by rw[e]))
theorem EntsV.none {es:List MapEntry}{L:List (κ×Value)}(h:EntsV enc es L){k:κ}(hk: ∀e∈es,e.key≠enc k):(L.findIdx? fun p=>decide (p.1=k))=none∧yI L k=none:=by
 have key: ∀p∈L,¬p.1=k:=by
  intro p hp e
  obtain⟨j,hj,rfl⟩:=List.getElem_of_mem hp
  have hje:j<es.length:=by rw[h.len];exact hj
  obtain⟨q,h1,h2,_⟩:=h.at_ (List.getElem?_eq_getElem hje)
  rw[List.getElem?_eq_getElem hj]at h1
  cases h1
  exact hk _ (List.getElem_mem hje) (by rw[h2,e])
 refine⟨by rw[List.findIdx?_eq_none_iff];intro p hp;simpa using key p hp,?_⟩
 unfold yI
 rw[Option.map_eq_none_iff,List.find?_eq_none]
 intro p hp
 simpa using key p hp
theorem EntsV.some {es:List MapEntry}{L:List (κ×Value)}(h:EntsV enc es L)(hi: ∀{a b:κ},enc a=enc b→a=b)(hp:(es.map (·.key)).Nodup){k:κ}{j:Nat}{e:MapEntry}(he:es[j]? =some e)(hk:e.key=enc k):
 j<L.length∧(L.findIdx? fun p=>decide (p.1=k))=some j∧yI L k=some e.val:=by
 obtain⟨p,h1,h2,h3⟩:=h.at_ he
 have hjl:=(List.getElem?_eq_some_iff.1 h1).1
 have hpe:L[j]=p:=(List.getElem?_eq_some_iff.1 h1).2
 have hpk:p.1=k:=hi (by rw[←h2,hk])
 have hn:=h.nodup hp
 have first: ∀i (hij:i<j),¬(L[i]'(by omega)).1=k:=fun i hij=>by
  have:=List.pairwise_iff_getElem.1 (List.pairwise_map.1 hn) i j (by omega) hjl hij
  intro e;exact this (by rw[e,hpe,hpk])
 refine⟨hjl,?_,?_⟩
 ·rw[List.findIdx?_eq_some_iff_getElem]
  exact⟨hjl,by simp[hpe,hpk],fun i hi=>by simpa using first i hi⟩
 ·unfold yI
  have:(L.find? fun p=>decide (p.1=k))=Option.some p:=by
   rw[List.find?_eq_some_iff_getElem]
   exact⟨by simp[hpk],j,hjl,hpe,fun i hi=>by simpa using first i hi⟩
  rw[this,Option.map_some,h3]
def IsMap (enc:κ→Value)(w:World)(m:Nat)(L:List (κ×Value)):Prop:= ∃es clock,w.heap[m]? =some (.map es clock)∧Stamped es clock∧EntsV enc es.toList L∧clock=es.size
def IsMapE (enc:κ→Value)(w:World)(m:Nat)(L:List (κ×Value))(j:Nat)(s:Int):Prop:= ∃es clock,w.heap[m]? =some (.map es clock)∧Stamped es clock∧EntsV enc es.toList L∧clock=es.size∧ ∃e,es[j]? =some e∧(e.born:Int)=s
theorem IsMapE.is {w:World}{m j:Nat}{s:Int}{L:List (κ×Value)}(h:IsMapE enc w m L j s):IsMap enc w m L:=by obtain⟨es,c,h1,h2,h3,h4,_⟩:=h;exact⟨es,c,h1,h2,h3,h4⟩
theorem IsMap.lt {w:World}{m:Nat}{L:List (κ×Value)}(h:IsMap enc w m L):m<w.heap.size:=by obtain⟨es,c,hb,_⟩:=h;exact xj hb
theorem IsMap.nodup {w:World}{m:Nat}{L:List (κ×Value)}(h:IsMap enc w m L):(L.map (·.1)).Nodup:=by
 obtain⟨es,c,hb,hs,he,_⟩:=h
 exact he.nodup hs.2.2
end
section
variable {P:Program}{d:Option Tmp}{ty:TypeId}{pos:String}{af:Array Edge}{gd:Option (Nat×Bool)}{σ:Env}{w:World}{K:Value→World→Prop}{κ:Type}[DecidableEq κ]{enc:κ→Value}{G:Nat→Prop}{W:World}{As:List HP}{m:Nat}{L:List (κ×Value)}
theorem Ys {m:Nat}{es es':Array MapEntry}{c c':Nat}(hb:w.heap[m]? =some (.map es c)):Chg (fun i=>i=m) w {w with heap:=w.heap.setIfInBounds m (.map es' c')}:=by
 refine⟨rfl,rfl,rfl,by simp,fun i hi hne=>(heap_set hb).2 i hne,?_,Nat.le_refl _⟩
 rintro i ⟨c,T,hc⟩
 have hne:i≠m:=fun e=>by subst e;rw[hb]at hc;cases hc
 exact⟨c,T,by rw[(heap_set hb).2 i hne];exact hc⟩
theorem WI {es:Array MapEntry}(h:EntsV enc es.toList L)(k:κ)(v:Value)(n:Nat):EntsV enc (es.push {key:=enc k,val:=v,born:=n}).toList (L++[(k,v)]):=by
 unfold EntsV at*
 rw[Array.toList_push,List.map_append,List.map_append,h]
 rfl
theorem Xv {es:Array MapEntry}(h:EntsV enc es.toList L){k:κ}{v:Value}{j:Nat}{e:MapEntry}(he:es.toList[j]? =some e)(f:MapEntry→MapEntry)(hk:(f e).key=enc k)(hv:(f e).val=v):EntsV enc (es.modify j f).toList (L.set j (k,v)):=by
 unfold EntsV at*
 rw[Array.toList_modify,List.modify_eq_set,he]
 simp only[Option.map_some,Option.getD_some,List.map_set,h,hk,hv]
theorem QT {t kt et:TypeId}{x y:Operand}{k:κ}{z:Value}(hK:KLaw P kt enc)(hU:P.underlying t=some (.map kt et))(hZ: ∀w,(zeroValue et).run P w=.ok z w)
 (hx:ev σ x=.map (some m)) (hy:ev σ y=enc k) (hm:IsMap enc w m L) (h:K ((yI L k).getD z) w):opV P ⟨d,.lookup t x y false,ty,pos,af,gd⟩ σ w K:=by
 obtain⟨es,clock,hb,hs,he,_⟩:=hm
 rcases hK.find k w es.toList he.keys with⟨h1,h2⟩|⟨j,e,h1,h2,h3⟩
 ·rw[(he.none h2).2]at h
  refine yo (v:=z) (w':=w) ?_ h
  simp[execOp,hx,hy,Instr.lookup,run_underlying hU,MapKept.run_getObj_map hb,hK.check,h1,hZ,go_sem]
 ·rw[(he.some hK.inj hs.2.2 h2 h3).2.2]at h
  refine yo (v:=e.val) (w':=w) ?_ h
  simp[execOp,hx,hy,Instr.lookup,run_underlying hU,MapKept.run_getObj_map hb,hK.check,h1,go_sem]
theorem XF {t kt et:TypeId}{x y:Operand}{k:κ}{z:Value}(hK:KLaw P kt enc)(hU:P.underlying t=some (.map kt et))(hZ: ∀w,(zeroValue et).run P w=.ok z w)
 (hx:ev σ x=.map (some m)) (hy:ev σ y=enc k) (hm:IsMap enc w m L) (h:K (.tuple #[(yI L k).getD z,.bool (yI L k).isSome]) w):opV P ⟨d,.lookup t x y true,ty,pos,af,gd⟩ σ w K:=by
 obtain⟨es,clock,hb,hs,he,_⟩:=hm
 rcases hK.find k w es.toList he.keys with⟨h1,h2⟩|⟨j,e,h1,h2,h3⟩
 ·rw[(he.none h2).2]at h
  refine yo (v:=.tuple #[z,.bool false]) (w':=w) ?_ h
  simp[execOp,hx,hy,Instr.lookup,run_underlying hU,MapKept.run_getObj_map hb,hK.check,h1,hZ,go_sem]
 ·rw[(he.some hK.inj hs.2.2 h2 h3).2.2]at h
  refine yo (v:=.tuple #[e.val,.bool true]) (w':=w) ?_ h
  simp[execOp,hx,hy,Instr.lookup,run_underlying hU,MapKept.run_getObj_map hb,hK.check,h1,go_sem]
theorem WZ {t kt et:TypeId}{x y z:Operand}{k:κ}{v:Value}(hK:KLaw P kt enc)(hU:P.underlying t=some (.map kt et))(hx:ev σ x=.map (some m))(hy:ev σ y=enc k)(hz:ev σ z=v)(hm:IsMap enc w m L)
 (h: ∀w1,IsMap enc w1 m (Ug L k v)→Chg (fun i=>i=m) w w1→K undef w1):opV P ⟨d,.mapUpdate t x y z,ty,pos,af,gd⟩ σ w K:=by
 obtain⟨es,clock,hb,hs,he,hcl⟩:=hm
 rcases hK.find k w es.toList he.keys with⟨h1,h2⟩|⟨j,e,h1,h2,h3⟩
 ·refine YF (w':={w with heap:=w.heap.setIfInBounds m (.map (es.push {key:=enc k,val:=v,born:=clock}) (clock+1))}) ?_ (h _ ?_ (Ys hb))
  ·simp[execOp,hx,hy,hz,Instr.mapUpdate,run_underlying hU,MapKept.run_getObj_map hb,hK.check,h1,MapKept.run_setObj_map _ hb,go_sem]
  ·unfold Ug
   rw[(he.none h2).1]
   exact⟨_,_,(heap_set hb).1,stamped_push hs h2,WI he k v clock,by simp[hcl]⟩
 ·have hja:es[j]? =some e:=by simpa using h2
  obtain⟨hjl,hfi,_⟩:=he.some hK.inj hs.2.2 h2 h3
  refine YF (w':={w with heap:=w.heap.setIfInBounds m (.map (es.modify j fun e=>{e with key:=enc k,val:=v}) clock)}) ?_ (h _ ?_ (Ys hb))
  ·simp[execOp,hx,hy,hz,Instr.mapUpdate,run_underlying hU,MapKept.run_getObj_map hb,hK.check,h1,hja,h3,hK.keeps,MapKept.run_setObj_map _ hb,go_sem]
  ·unfold Ug
   rw[hfi]
   exact⟨_,_,(heap_set hb).1,stamped_modify hs _ _ (fun _ _=>rfl) (fun e' _ he'=>by rw[hja]at he';cases he';exact h3.symm),Xv he h2 _ rfl rfl,by simp[hcl]⟩
theorem Up {t kt et:TypeId}{x y:Operand}{k:κ}{z:Value}(hK:KLaw P kt enc)(hU:P.underlying t=some (.map kt et))(hZ: ∀w,(zeroValue et).run P w=.ok z w)(hx:ev σ x=.map (some m))(hy:ev σ y=enc k)(hm:IsMap enc w m L)
 (h: ∀w1 j s,IsMapE enc w1 m (Qs L k z) j s→(∀v,(Qs L k z).set j (k,v)=Ug L k v)→(∃p,(Qs L k z)[j]? =some p∧p.1=k)→Chg (fun i=>i=m) w w1→K (.tuple #[(yI L k).getD z,.int .i64 s]) w1):opV P ⟨d,.mapEntry t x y,ty,pos,af,gd⟩ σ w K:=by
 obtain⟨es,clock,hb,hs,he,hcl⟩:=hm
 rcases hK.find k w es.toList he.keys with⟨h1,h2⟩|⟨j,e,h1,h2,h3⟩
 ·have h0:=h {w with heap:=w.heap.setIfInBounds m (.map (es.push {key:=enc k,val:=z,born:=clock}) (clock+1))} es.size (clock:Int)
  unfold Qs Ug at h0
  rw[(he.none h2).1,(he.none h2).2]at h0
  refine yo (v:=.tuple #[z,.int .i64 (clock:Int)]) (w':={w with heap:=w.heap.setIfInBounds m (.map (es.push {key:=enc k,val:=z,born:=clock}) (clock+1))}) ?_ (h0 ⟨_,_,(heap_set hb).1,stamped_push hs h2,WI he k z clock,by simp[hcl],{key:=enc k,val:=z,born:=clock},by simp,rfl⟩ ?_ ?_ (Ys hb))
  ·simp[execOp,hx,hy,Instr.mapEntry,run_underlying hU,MapKept.run_getObj_map hb,hK.check,h1,hZ,MapKept.run_setObj_map _ hb,goInt,go_sem]
  ·intro v
   have hl:es.size=L.length:=by have:=he.len;simpa using this
   simp only[hl]
   rw[List.set_append_right _ _ (Nat.le_refl _),Nat.sub_self];rfl
  ·have hl:es.size=L.length:=by have:=he.len;simpa using this
   exact⟨(k,z),by rw[hl];simp,rfl⟩
 ·have hja:es[j]? =some e:=by simpa using h2
  obtain⟨hjl,hfi,hlk⟩:=he.some hK.inj hs.2.2 h2 h3
  have h0:=h {w with heap:=w.heap.setIfInBounds m (.map (es.modify j fun e=>{e with key:=enc k}) clock)} j (e.born:Int)
  unfold Qs Ug at h0
  rw[hfi,hlk]at h0
  have hes:EntsV enc (es.modify j fun e=>{e with key:=enc k}).toList L:=by
   have h9:=Xv he (k:=k) (v:=e.val) h2 (fun e=>{e with key:=enc k}) rfl rfl
   obtain⟨p,q1,q2,q3⟩:=he.at_ h2
   have:L.set j (k,e.val)=L:=by
    obtain⟨hj9,q4⟩:=List.getElem?_eq_some_iff.1 q1
    have hpk:p.1=k:=hK.inj (by rw[←q2,h3])
    rw[q3,show(k,p.2)=L[j] by rw[q4,←hpk]]
    exact List.set_getElem_self hj9
   rwa [this]at h9
  refine yo (v:=.tuple #[e.val,.int .i64 (e.born:Int)]) (w':={w with heap:=w.heap.setIfInBounds m (.map (es.modify j fun e=>{e with key:=enc k}) clock)}) ?_ (h0 ⟨_,_,(heap_set hb).1,stamped_modify hs _ _ (fun _ _=>rfl) (fun e' _ he'=>by rw[hja]at he';cases he';exact h3.symm),hes,by simp[hcl],{e with key:=enc k},by simp[Array.getElem?_modify,hja],rfl⟩ (fun v=>rfl) ((he.at_ h2).elim fun p hp=>⟨p,hp.1,hK.inj (by rw[←hp.2.1,h3])⟩) (Ys hb))
  simp[execOp,hx,hy,Instr.mapEntry,run_underlying hU,MapKept.run_getObj_map hb,hK.check,h1,hja,h3,hK.keeps,MapKept.run_setObj_map _ hb,goInt,go_sem]
theorem Wv {t:TypeId}{x y z:Operand}{j:Nat}{s:Int}{v:Value}{p:κ×Value}(hx:ev σ x=.map (some m))(hy:ev σ y=.int .i64 s)(hz:ev σ z=v)(hm:IsMapE enc w m L j s)(hp:L[j]? =some p)
 (h: ∀w1,IsMap enc w1 m (L.set j (p.1,v))→Chg (fun i=>i=m) w w1→K undef w1):opV P ⟨d,.entryStore t x y z,ty,pos,af,gd⟩ σ w K:=by
 obtain⟨es,clock,hb,hs,he,hcl,e,hja,hbn⟩:=hm
 have h2:es.toList[j]? =some e:=by simpa using hja
 have hjs:j<es.size:=(Array.getElem?_eq_some_iff.1 hja).1
 have hej:es[j]=e:=(Array.getElem?_eq_some_iff.1 hja).2
 have hfi:es.findIdx? (fun e=>(e.born:Int)== s)=some j:=by
  rw[Array.findIdx?_eq_some_iff_getElem]
  refine⟨hjs,by simp[hej,hbn],fun i hi=>?_⟩
  have:=List.pairwise_iff_getElem.1 (List.pairwise_map.1 hs.2.1) i j (by simp;omega) (by simpa using hjs) hi
  simp only[Array.getElem_toList]at this
  rw[hej]at this
  have h9: ¬((es[i].born:Int)=s):=fun e9=>this (by omega)
  simpa using h9
 obtain⟨q,q1,q2,q3⟩:=he.at_ h2
 rw[hp]at q1
 cases q1
 refine YF (w':={w with heap:=w.heap.setIfInBounds m (.map (es.modify j fun e=>{e with val:=v}) clock)}) ?_ (h _ ?_ (Ys hb))
 ·simp[execOp,hx,hy,hz,Instr.entryStore,MapKept.run_getObj_map hb,asInt,hfi,MapKept.run_setObj_map _ hb,go_sem]
 ·exact⟨_,_,(heap_set hb).1,stamped_modify hs _ _ (fun _ _=>rfl) (fun e' _ he'=>rfl),Xv he h2 _ q2 rfl,by simp[hcl]⟩
end
end
section
open Go.RowKit Go.MapKept
section
variable {κ β:Type}[DecidableEq κ]
theorem Xg {L:List (κ×β)}{k q:κ}{v:β}:yI (L++[(k,v)]) q=(yI L q).or (if k=q then some v else none):=by
 unfold yI
 rw[List.find?_append]
 cases h:L.find? fun p=>decide (p.1=q)with
 |some p=>simp
 |none=>by_cases e:k=q<;>simp[List.find?,e]
theorem Vc {L:List (κ×β)}{k:κ}(h:(L.findIdx? fun p=>decide (p.1=k))=none):yI L k=none:=by
 rw[List.findIdx?_eq_none_iff]at h
 unfold yI
 rw[Option.map_eq_none_iff,List.find?_eq_none]
 intro p hp
 simp[h p hp]
theorem JD {L:List (κ×β)}{k q:κ}{v:β}{j:Nat}{p:κ×β}(hj:L[j]? =some p)(hp:p.1=k)(hf: ∀i,i<j→ ∀r,L[i]? =some r→r.1≠k):yI (L.set j (k,v)) q=if k=q then some v else yI L q:=by
 induction L generalizing j with
 |nil=>simp at hj
 |cons a L ih=>
  cases j with
  |zero=>
   simp only[List.getElem?_cons_zero,Option.some.injEq]at hj
   subst hj
   unfold yI
   by_cases e:k=q
   ·subst e;simp
   ·simp[e,hp]
  |succ j=>
   have h1:=ih (j:=j) (by simpa using hj) (fun i hi r hr=>hf (i+1) (by omega) r (by simpa using hr))
   have h0:=hf 0 (by omega) a rfl
   unfold yI at h1⊢
   rw[List.set_cons_succ,List.find?_cons,List.find?_cons]
   by_cases e:a.1=q
   ·have: ¬k=q:=fun e2=>h0 (by rw[e,e2])
    simp[e,this]
   ·simp only[e,decide_false]
    exact h1
theorem WX {L:List (κ×β)}{k:κ}{j:Nat}(h:(L.findIdx? fun p=>decide (p.1=k))=some j):(∃p,L[j]? =some p∧p.1=k)∧ ∀i,i<j→ ∀r,L[i]? =some r→r.1≠k:=by
 rw[List.findIdx?_eq_some_iff_getElem]at h
 obtain⟨hj,h1,h2⟩:=h
 refine⟨⟨L[j],List.getElem?_eq_getElem hj,by simpa using h1⟩,fun i hi r hr=>?_⟩
 have:=h2 i hi
 obtain⟨hil,e⟩:=List.getElem?_eq_some_iff.1 hr
 rw[←e];simpa using this
theorem WK (L:List (κ×β))(k q:κ)(v:β):yI (Ug L k v) q=if k=q then some v else yI L q:=by
 unfold Ug
 split
 ·rename_i j hj
  obtain⟨⟨p,h1,h2⟩,h3⟩:=WX hj
  exact JD h1 h2 h3
 ·rename_i hj
  rw[Xg]
  by_cases e:k=q
  ·subst e;rw[Vc hj];simp
  ·simp[e]
theorem YN (L:List (κ×β))(k q:κ)(z:β)(h: ¬k=q):yI (Qs L k z) q=yI L q:=by
 unfold Qs
 split
 ·rfl
 ·rw[Xg];simp[h]
end
def Yi {κ α:Type}[DecidableEq κ](X:κ→Option α)(k:κ)(x:α):κ→Option α:=fun q=>if k=q then some x else X q
section
variable {κ α:Type}[DecidableEq κ]
def ValAt (E:Value→α→HP)(w:World)(F:Nat→Prop):Option Value→Option α→Prop
 |some v,some x=>(E v x).p w F
 |none,none=>True
 |_,_=>False
theorem ValAt.loc {E:Value→α→HP}{w w':World}{F F':Nat→Prop}: ∀{v:Option Value} {x:Option α},ValAt E w F v x→(∀b,F b→b<w.heap.size→w'.heap[b]? =w.heap[b]? ∧F' b)→ValAt E w' F' v x
 |some v,some x,h,hf=>(E v x).loc h hf
 |none,none,_,_=>trivial
 |some _,none,h,_=>h.elim
 |none,some _,h,_=>h.elim
theorem ValAt.isSome {E:Value→α→HP}{w:World}{F:Nat→Prop}: ∀{v:Option Value} {x:Option α},ValAt E w F v x→v.isSome=x.isSome
 |some _,some _,_=>rfl
 |none,none,_=>rfl
 |some _,none,h=>h.elim
 |none,some _,h=>h.elim
structure Spread (w:World) (m:Nat) (f:Nat→Prop) (g:κ→Nat→Prop):Prop where
 sub: ∀k b,g k b→f b∧b<w.heap.size∧b≠m
 apart: ∀k k',k≠k'→ ∀b,g k b→ ¬g k' b
theorem Spread.loc {w w':World}{m:Nat}{f f':Nat→Prop}{g:κ→Nat→Prop}(h:Spread w m f g)(hf: ∀b,f b→b<w.heap.size→w'.heap[b]? =w.heap[b]? ∧f' b):Spread w' m f' g:=
 ⟨fun k b hb=>⟨(hf b (h.sub k b hb).1 (h.sub k b hb).2.1).2,by
  obtain⟨h1,h2,_⟩:=h.sub k b hb
  have:=(hf b h1 h2).1
  rw[Array.getElem?_eq_getElem h2]at this
  exact(Array.getElem?_eq_some_iff.1 this).1,(h.sub k b hb).2.2⟩,h.apart⟩
theorem Spread.loc2 {w w':World}{m:Nat}{f:Nat→Prop}{g:κ→Nat→Prop}(h:Spread w m f g)(hz:w.heap.size≤w'.heap.size):Spread w' m f g:=⟨fun k b hb=>⟨(h.sub k b hb).1,Nat.lt_of_lt_of_le (h.sub k b hb).2.1 hz,(h.sub k b hb).2.2⟩,h.apart⟩
def MapO (enc:κ→Value)(E:Value→α→HP)(m:Nat)(X:κ→Option α):HP:=⟨fun w f=> ∃(R:List (κ×Value)) (g:κ→Nat→Prop),f m∧IsMap enc w m R∧(∀k,ValAt E w (g k) (yI R k) (X k))∧Spread w m f g,fun{w w' f f'} h hf=>by
 obtain⟨R,g,hm,⟨es,c,hb,r⟩,hv,hs⟩:=h
 exact⟨R,g,(hf m hm (xj hb)).2,⟨es,c,((hf m hm (xj hb)).1).trans hb,r⟩,fun k=>(hv k).loc (fun b hg hlt=>⟨(hf b (hs.sub k b hg).1 hlt).1,hg⟩),hs.loc hf⟩⟩
def Zs (enc:κ→Value)(E:Value→α→HP)(z:Value)(m:Nat)(X:κ→Option α)(k:κ)(v:Value):HP:=⟨fun w f=> ∃(R:List (κ×Value)) (g:κ→Nat→Prop),f m∧IsMap enc w m R∧(yI R k).getD z=v∧(yI R k).isSome=(X k).isSome∧(∀q,q≠k→ValAt E w (g q) (yI R q) (X q))∧Spread w m f g,fun{w w' f f'} h hf=>by
 obtain⟨R,g,hm,⟨es,c,hb,r⟩,h1,h2,hv,hs⟩:=h
 exact⟨R,g,(hf m hm (xj hb)).2,⟨es,c,((hf m hm (xj hb)).1).trans hb,r⟩,h1,h2,fun q hq=>(hv q hq).loc (fun b hg hlt=>⟨(hf b (hs.sub q b hg).1 hlt).1,hg⟩),hs.loc hf⟩⟩
def Vr (enc:κ→Value)(E:Value→α→HP)(m:Nat)(X:κ→Option α)(k:κ)(s:Int):HP:=⟨fun w f=> ∃(R:List (κ×Value)) (g:κ→Nat→Prop) (j:Nat),f m∧IsMapE enc w m R j s∧(∀v q,yI (R.set j (k,v)) q=if k=q then some v else yI R q)∧(∃p,R[j]? =some p∧p.1=k)∧(∀q,q≠k→ValAt E w (g q) (yI R q) (X q))∧Spread w m f g,fun{w w' f f'} h hf=>by
 obtain⟨R,g,j,hm,⟨es,c,hb,r⟩,h1,h2,hv,hs⟩:=h
 exact⟨R,g,j,(hf m hm (xj hb)).2,⟨es,c,((hf m hm (xj hb)).1).trans hb,r⟩,h1,h2,fun q hq=>(hv q hq).loc (fun b hg hlt=>⟨(hf b (hs.sub q b hg).1 hlt).1,hg⟩),hs.loc hf⟩⟩
def Xs (E:Value→α→HP)(v:Value):Option α→HP
 |some x=>E v x
 |none=>Emp
end
section
variable {κ α:Type}[DecidableEq κ]{enc:κ→Value}{E:Value→α→HP}{z:Value}{m:Nat}{X:κ→Option α}{k:κ}{v:Value}{G:Nat→Prop}{W w:World}{As:List HP}
theorem Sep.mapoNew {w':World}(h:Sep G W As w)(hn:New w w' w.heap.size (.map #[] 0)):Sep G W (MapO enc E w.heap.size (fun _:κ=>(none:Option α))::As) w':=
 h.push hn.ext (f:=fun i=>i=w.heap.size) ⟨[],fun _ _=>False,rfl,⟨#[],0,hn.at_,stamped_empty 0,rfl,rfl⟩,fun _=>trivial,⟨fun _ _ h=>h.elim,fun _ _ _ _ h=>h.elim⟩⟩ (fun i hi=>by omega)
theorem Sep.mapoTake (h:Sep G W (MapO enc E m X::As) w)(z:Value)(k:κ): ∃v,(X k=none→v=z)∧Sep G W (Zs enc E z m X k v::Xs E v (X k)::As) w:=by
 obtain⟨fs,q1,q2⟩:=h.parts
 obtain⟨⟨R,g,hm,hM,hv,hs⟩,hl⟩:=q1 0 _ rfl
 refine⟨(yI R k).getD z,fun hx=>?_,?_⟩
 ·have:=(hv k).isSome
  rw[hx]at this
  cases hR:yI R k with
  |none=>rfl
  |some u=>rw[hR]at this;cases this
 ·have h1:Sep G W (Star [Zs enc E z m X k ((yI R k).getD z),Xs E ((yI R k).getD z) (X k)]::As) w:=by
   refine⟨h.kept,fs,fun i C hC=>?_,fun i j hi hj=>q2 i j (by simpa using hi) (by simpa using hj)⟩
   cases i with
   |succ i=>exact q1 (i+1) C (by simpa using hC)
   |zero=>
    simp only[List.getElem?_cons_zero,Option.some.injEq]at hC
    subst hC
    refine⟨⟨fun i b=>if i=0 then fs 0 b∧ ¬g k b∧b<w.heap.size else g k b,fun i C hC=>?_,fun i j hi hj hne b hb=>?_⟩,hl⟩
    ·match i,hC with
     |0,hC=>
      simp only[List.getElem?_cons_zero,Option.some.injEq]at hC
      subst hC
      refine⟨⟨R,fun q b=>if q=k then False else g q b,⟨hm,fun hg=>(hs.sub k m hg).2.2 rfl,hM.lt⟩,hM,rfl,(hv k).isSome,fun q hq=>?_,⟨fun q b hb=>?_,fun q q' hne b hb hb'=>?_⟩⟩,fun b hb=>⟨hb.1,hb.2.2⟩⟩
      ·simp only[if_neg hq];exact hv q
      ·by_cases e:q=k
       ·rw[if_pos e]at hb;exact hb.elim
       ·rw[if_neg e]at hb
        have:=hs.sub q b hb
        exact⟨⟨this.1,fun h9=>hs.apart q k e b hb h9,this.2.1⟩,this.2.1,this.2.2⟩
      ·by_cases e:q=k
       ·rw[if_pos e]at hb;exact hb.elim
       ·by_cases e':q'=k
        ·rw[if_pos e']at hb';exact hb'.elim
        ·rw[if_neg e]at hb;rw[if_neg e']at hb';exact hs.apart q q' hne b hb hb'
     |1,hC=>
      simp only[List.getElem?_cons_succ,List.getElem?_cons_zero,Option.some.injEq]at hC
      subst hC
      refine⟨?_,fun b hb=>⟨(hs.sub k b hb).1,(hs.sub k b hb).2.1⟩⟩
      have:=hv k
      cases hR:yI R k with
      |none=>
       rw[hR]at this
       cases hX:X k with
       |none=>exact trivial
       |some x=>rw[hX]at this;exact this.elim
      |some u=>
       rw[hR]at this
       cases hX:X k with
       |none=>rw[hX]at this;exact this.elim
       |some x=>rw[hX]at this;exact this
     |i+2,hC=>simp at hC
    ·simp only[List.length_cons,List.length_nil]at hi hj
     match i,j,hb with
     |0,0,_=>exact absurd rfl hne
     |0,1,hb=>exact hb.2.1
     |1,0,hb=>exact fun h9=>h9.2.1 hb
     |1,1,_=>exact absurd rfl hne
     |i+2,_,_=>omega
     |0,j+2,_=>omega
     |1,j+2,_=>omega
  exact h1.openStar
theorem YR {f:Nat→Prop}{g:κ→Nat→Prop}{f0 f1:Nat→Prop}{w1:World}(hs:Spread w m f0 g)(h0: ∀b,f0 b→f b∧b<w.heap.size)(h1: ∀b,f1 b→f b∧b<w.heap.size)(hd: ∀b,f0 b→ ¬f1 b)(hm:f0 m)(hz:w.heap.size≤w1.heap.size):Spread w1 m f (fun q b=>if q=k then f1 b else g q b):=by
 refine⟨fun q b hb=>?_,fun q q' hne b hb hb'=>?_⟩
 ·by_cases e:q=k
  ·simp only[if_pos e]at hb
   exact⟨(h1 b hb).1,Nat.lt_of_lt_of_le (h1 b hb).2 hz,fun e2=>hd m hm (e2▸hb)⟩
  ·simp only[if_neg e]at hb
   have:=hs.sub q b hb
   exact⟨(h0 b this.1).1,Nat.lt_of_lt_of_le this.2.1 hz,this.2.2⟩
 ·by_cases e:q=k
  ·simp only[if_pos e]at hb
   have e': ¬q'=k:=fun e2=>hne (e.trans e2.symm)
   simp only[if_neg e']at hb'
   exact hd b (hs.sub q' b hb').1 hb
  ·simp only[if_neg e]at hb
   by_cases e':q'=k
   ·simp only[if_pos e']at hb'
    exact hd b (hs.sub q b hb).1 hb'
   ·simp only[if_neg e']at hb'
    exact hs.apart q q' hne b hb hb'
theorem Sep.mapoPut (h:Sep G W (Zs enc E z m X k v::Xs E v (X k)::As) w):Sep G W (MapO enc E m X::As) w:=by
 have hst:=h.closeStar (Bs:=[Zs enc E z m X k v,Xs E v (X k)])
 refine hst.impl (i:=0) rfl (fun f hA=>?_)
 obtain⟨gs,r1,r2⟩:=hA
 obtain⟨⟨R,g,hm,hM,hz,hi,hv,hs⟩,hf0⟩:=r1 0 _ rfl
 obtain⟨hN,hf1⟩:=r1 1 _ rfl
 have r2':=r2 0 1 (by simp) (by simp) (by simp)
 refine⟨R,fun q b=>if q=k then gs 1 b else g q b,(hf0 m hm).1,hM,fun q=>?_,YR hs hf0 hf1 r2' hm (Nat.le_refl _)⟩
 by_cases e:q=k
 ·subst e
  simp only[if_true]
  cases hR:yI R q with
  |none=>
   rw[hR]at hi
   cases hX:X q with
   |none=>exact trivial
   |some x=>rw[hX]at hi;cases hi
  |some u=>
   rw[hR]at hi hz
   cases hX:X q with
   |none=>rw[hX]at hi;cases hi
   |some x=>rw[hX]at hN;simp only[Option.getD_some]at hz;subst hz;exact hN
 ·simp only[if_neg e]
  exact hv q e
theorem Sep.mapo1 (h:Sep G W As w){i:Nat}(hi:As[i]? =some (Zs enc E z m X k v)): ∃R,IsMap enc w m R∧(yI R k).getD z=v∧(yI R k).isSome=(X k).isSome:=by
 obtain⟨f,⟨R,g,hm,hM,hz,hi,_⟩,_⟩:=h.get hi;exact⟨R,hM,hz,hi⟩
end
section
variable {P:Program}{d:Option Tmp}{ty:TypeId}{pos:String}{af:Array Edge}{gd:Option (Nat×Bool)}{σ:Env}{w:World}{K:Value→World→Prop}{κ α:Type}[DecidableEq κ]{enc:κ→Value}{E:Value→α→HP}{z:Value}{m:Nat}{X:κ→Option α}{k:κ}{v:Value}{G:Nat→Prop}{W:World}{As:List HP}
theorem QO {t kt et:TypeId}{x y:Operand}{i:Nat}(h:Sep G W As w)(hi:As[i]? =some (Zs enc E z m X k v))(hK:KLaw P kt enc)(hU:P.underlying t=some (.map kt et))(hZ: ∀w,(zeroValue et).run P w=.ok z w)
 (hx:ev σ x=.map (some m)) (hy:ev σ y=enc k) (hk:K v w):opV P ⟨d,.lookup t x y false,ty,pos,af,gd⟩ σ w K:=by
 obtain⟨R,hM,e,_⟩:=h.mapo1 hi
 exact QT hK hU hZ hx hy hM (by rw[e];exact hk)
theorem Yl {t kt et:TypeId}{x y:Operand}{i:Nat}(h:Sep G W As w)(hi:As[i]? =some (Zs enc E z m X k v))(hK:KLaw P kt enc)(hU:P.underlying t=some (.map kt et))(hZ: ∀w,(zeroValue et).run P w=.ok z w)
 (hx:ev σ x=.map (some m)) (hy:ev σ y=enc k) (hk:K (.tuple #[v,.bool (X k).isSome]) w):opV P ⟨d,.lookup t x y true,ty,pos,af,gd⟩ σ w K:=by
 obtain⟨R,hM,e,e2⟩:=h.mapo1 hi
 exact XF hK hU hZ hx hy hM (by rw[e,e2];exact hk)
theorem YJ {t kt et:TypeId}{x y u:Operand}{v':Value}{x':α}(h:Sep G W (Zs enc E z m X k v::E v' x'::As) w)(hK:KLaw P kt enc)(hU:P.underlying t=some (.map kt et))(hx:ev σ x=.map (some m))(hy:ev σ y=enc k)(hu:ev σ u=v')
 (hk: ∀w1,Sep G W (MapO enc E m (Yi X k x')::As) w1→K undef w1):opV P ⟨d,.mapUpdate t x y u,ty,pos,af,gd⟩ σ w K:=by
 have hst:=h.closeStar (Bs:=[Zs enc E z m X k v,E v' x'])
 obtain⟨ff,q1,q2⟩:=hst.parts
 obtain⟨⟨gs,r1,r2⟩,hl⟩:=q1 0 _ rfl
 obtain⟨⟨R,g,hm,hM,hz,hi,hv,hs⟩,hf0⟩:=r1 0 _ rfl
 obtain⟨hN,hf1⟩:=r1 1 _ rfl
 have r2':=r2 0 1 (by simp) (by simp) (by simp)
 refine WZ hK hU hx hy hu hM (fun w1 hM1 hc=>hk w1 ?_)
 have keep: ∀b,b≠m→b<w.heap.size→w1.heap[b]? =w.heap[b]? :=fun b hb hlt=>hc.block b hlt hb
 have key:(MapO enc E m (Yi X k x')).p w1 (ff 0):=by
  refine⟨Ug R k v',fun q b=>if q=k then gs 1 b else g q b,(hf0 m hm).1,hM1,fun q=>?_,YR hs hf0 hf1 r2' hm hc.size⟩
  rw[WK]
  unfold Yi
  by_cases e:q=k
  ·subst e
   simp only[if_true]
   exact(E v' x').loc hN (fun b hb hlt=>⟨keep b (fun e2=>r2' m hm (e2▸hb)) hlt,hb⟩)
  ·simp only[if_neg e,if_neg (Ne.symm e)]
   exact(hv q e).loc (fun b hb hlt=>⟨keep b (hs.sub q b hb).2.2 hlt,hb⟩)
 refine⟨hst.kept.chg hc (fun b hb=>by subst hb;exact(hl _ (hf0 _ hm).1).1),ff,fun i C hC=>?_,fun i j hi hj=>q2 i j (by simpa using hi) (by simpa using hj)⟩
 cases i with
 |zero=>
  simp only[List.getElem?_cons_zero,Option.some.injEq]at hC
  subst hC
  exact⟨key,fun b hb=>⟨(hl b hb).1,Nat.lt_of_lt_of_le (hl b hb).2 hc.size⟩⟩
 |succ i=>
  obtain⟨hp,hlp⟩:=q1 (i+1) C (by simpa using hC)
  have hne: ∀b,ff (i+1) b→b≠m:=fun b hb e2=>by
   subst e2
   exact q2 0 (i+1) (by simp) (by have:=(List.getElem?_eq_some_iff.1 hC).1;simpa using this) (by omega) _ (hf0 _ hm).1 hb
  exact⟨C.loc hp (fun b hb hlt=>⟨keep b (hne b hb) hlt,hb⟩),fun b hb=>⟨(hlp b hb).1,Nat.lt_of_lt_of_le (hlp b hb).2 hc.size⟩⟩
theorem Ue {t kt et:TypeId}{x y:Operand}(h:Sep G W (Zs enc E z m X k v::As) w)(hK:KLaw P kt enc)(hU:P.underlying t=some (.map kt et))(hZ: ∀w,(zeroValue et).run P w=.ok z w)(hx:ev σ x=.map (some m))(hy:ev σ y=enc k)
 (hk: ∀w1 s,Sep G W (Vr enc E m X k s::As) w1→K (.tuple #[v,.int .i64 s]) w1):opV P ⟨d,.mapEntry t x y,ty,pos,af,gd⟩ σ w K:=by
 obtain⟨ff,q1,q2⟩:=h.parts
 obtain⟨⟨R,g,hm,hM,hz,hi,hv,hs⟩,hl⟩:=q1 0 _ rfl
 refine Up hK hU hZ hx hy hM (fun w1 j s hM1 hset hp hc=>?_)
 rw[hz]
 refine hk w1 s ?_
 have keep: ∀b,b≠m→b<w.heap.size→w1.heap[b]? =w.heap[b]? :=fun b hb hlt=>hc.block b hlt hb
 have key:(Vr enc E m X k s).p w1 (ff 0):=by
  refine⟨Qs R k z,g,j,hm,hM1,fun u q=>?_,hp,fun q hq=>?_,hs.loc2 hc.size⟩
  ·rw[hset u,WK]
   by_cases e:k=q
   ·rw[if_pos e,if_pos e]
   ·rw[if_neg e,if_neg e,YN _ _ _ _ e]
  ·rw[YN _ _ _ _ (Ne.symm hq)]
   exact(hv q hq).loc (fun b hb hlt=>⟨keep b (hs.sub q b hb).2.2 hlt,hb⟩)
 refine⟨h.kept.chg hc (fun b hb=>by subst hb;exact(hl _ hm).1),ff,fun i C hC=>?_,fun i j hi hj=>q2 i j (by simpa using hi) (by simpa using hj)⟩
 cases i with
 |zero=>
  simp only[List.getElem?_cons_zero,Option.some.injEq]at hC
  subst hC
  exact⟨key,fun b hb=>⟨(hl b hb).1,Nat.lt_of_lt_of_le (hl b hb).2 hc.size⟩⟩
 |succ i=>
  obtain⟨hp,hlp⟩:=q1 (i+1) C (by simpa using hC)
  have hne: ∀b,ff (i+1) b→b≠m:=fun b hb e2=>by
   subst e2
   exact q2 0 (i+1) (by simp) (by have:=(List.getElem?_eq_some_iff.1 hC).1;simpa using this) (by omega) _ hm hb
  exact⟨C.loc hp (fun b hb hlt=>⟨keep b (hne b hb) hlt,hb⟩),fun b hb=>⟨(hlp b hb).1,Nat.lt_of_lt_of_le (hlp b hb).2 hc.size⟩⟩
theorem Wh {t:TypeId}{x y u:Operand}{s:Int}{v':Value}{x':α}(h:Sep G W (Vr enc E m X k s::E v' x'::As) w)(hx:ev σ x=.map (some m))(hy:ev σ y=.int .i64 s)(hu:ev σ u=v')
 (hk: ∀w1,Sep G W (MapO enc E m (Yi X k x')::As) w1→K undef w1):opV P ⟨d,.entryStore t x y u,ty,pos,af,gd⟩ σ w K:=by
 have hst:=h.closeStar (Bs:=[Vr enc E m X k s,E v' x'])
 obtain⟨ff,q1,q2⟩:=hst.parts
 obtain⟨⟨gs,r1,r2⟩,hl⟩:=q1 0 _ rfl
 obtain⟨⟨R,g,j,hm,hM,hset,⟨p,hp,hpk⟩,hv,hs⟩,hf0⟩:=r1 0 _ rfl
 obtain⟨hN,hf1⟩:=r1 1 _ rfl
 have r2':=r2 0 1 (by simp) (by simp) (by simp)
 refine Wv hx hy hu hM hp (fun w1 hM1 hc=>hk w1 ?_)
 rw[hpk]at hM1
 have keep: ∀b,b≠m→b<w.heap.size→w1.heap[b]? =w.heap[b]? :=fun b hb hlt=>hc.block b hlt hb
 have key:(MapO enc E m (Yi X k x')).p w1 (ff 0):=by
  refine⟨R.set j (k,v'),fun q b=>if q=k then gs 1 b else g q b,(hf0 m hm).1,hM1,fun q=>?_,YR hs hf0 hf1 r2' hm hc.size⟩
  rw[hset v' q]
  unfold Yi
  by_cases e:q=k
  ·subst e
   simp only[if_true]
   exact(E v' x').loc hN (fun b hb hlt=>⟨keep b (fun e2=>r2' m hm (e2▸hb)) hlt,hb⟩)
  ·simp only[if_neg e,if_neg (Ne.symm e)]
   exact(hv q e).loc (fun b hb hlt=>⟨keep b (hs.sub q b hb).2.2 hlt,hb⟩)
 refine⟨hst.kept.chg hc (fun b hb=>by subst hb;exact(hl _ (hf0 _ hm).1).1),ff,fun i C hC=>?_,fun i j hi hj=>q2 i j (by simpa using hi) (by simpa using hj)⟩
 cases i with
 |zero=>
  simp only[List.getElem?_cons_zero,Option.some.injEq]at hC
  subst hC
  exact⟨key,fun b hb=>⟨(hl b hb).1,Nat.lt_of_lt_of_le (hl b hb).2 hc.size⟩⟩
 |succ i=>
  obtain⟨hp,hlp⟩:=q1 (i+1) C (by simpa using hC)
  have hne: ∀b,ff (i+1) b→b≠m:=fun b hb e2=>by
   subst e2
   exact q2 0 (i+1) (by simp) (by have:=(List.getElem?_eq_some_iff.1 hC).1;simpa using this) (by omega) _ (hf0 _ hm).1 hb
  exact⟨C.loc hp (fun b hb hlt=>⟨keep b (hne b hb) hlt,hb⟩),fun b hb=>⟨(hlp b hb).1,Nat.lt_of_lt_of_le (hlp b hb).2 hc.size⟩⟩
end
end
section
theorem YA {α:Type}{P:List α→Prop}(h0:P [])(h1: ∀l x,P l→P (l++[x]))(l:List α):P l:=by
 rw[←List.reverse_reverse l]
 induction l.reverse with
 |nil=>exact h0
 |cons x l ih=>rw[List.reverse_cons];exact h1 _ _ ih
def yu (v:List Int)(o:Int):Int:=if o<0∨(v.length:Int)≤o then 0 else max (v.getD o.toNat 0) 0
def ZD (a b:Ev):Bool:=decide (a.seq≤yu b.deps a.origin)
def xI (a b:Ev):Bool:= !decide (a.origin=b.origin∧a.seq=b.seq)&& !ZD a b&& !ZD b a
def Yp (k oA aA oB aB:Int):Bool:=
 if k=2 then decide (oA=2)&&decide (oB=2)&& !decide (oA=oB∧aA=aB)
 else if k=4 then decide (oA=5)&&decide (oB=5)&& !decide (oA=oB∧aA=aB)
 else if k=3 then(decide (oA=3∧aA=aB)&&decide (oB=4∧aB=aA))||(decide (oA=4∧aA=aB)&&decide (oB=3∧aB=aA))
 else false
def xf (f:Fld)(x e:Ev):Bool:=(decide (f.policy=2)||(decide (f.policy=3)&&decide (e.arg<x.arg)))&&Yp f.kind x.op x.arg e.op e.arg&&xI x e
def onL (k:Int×Int)(x:Ent):Bool:= !x.void&&decide (x.ev.typ=k.1∧x.ev.agg=k.2)
def on3 (k:Int×Int×Int)(x:Ent):Bool:= !x.void&&decide (x.ev.typ=k.1∧x.ev.agg=k.2.1∧x.ev.field=k.2.2)
def xX (d:Dcl)(ty:Int):Typ:=d.types.getD ty.toNat default
def zah (t:Typ):List Cel:=List.replicate t.fields.length (⟨0,[]⟩:Cel)
def zO (d:Dcl)(k:Int×Int)(L:List Ent):List Cel:=L.foldl (fun c x=>if onL k x then doL (xX d k.1) c x.ev.field x.ev.op x.ev.arg else c) (zah (xX d k.1))
def yh (k:Int×Int)(L:List Ent):Nat:=(L.filter (onL k)).length
def yx (k:Int×Int×Int)(L:List Ent):List Ev:=(L.filter (on3 k)).map (·.ev)
def zU (d:Dcl)(L:List Ent)(e:Ev):Bool×Int×Int:=
 if ¬yV d e.typ e.field e.op e.arg=0 then(true,0,0)
 else match (yx (e.typ,e.agg,e.field) L).find? (fun x=>xf ((xX d e.typ).fields.getD e.field.toNat default) x e)with
  |some x=>(true,x.origin,x.seq)
  |none=>if ¬yH (xX d e.typ) (zO d (e.typ,e.agg) L) e.field e.op e.arg=0 then(true,0,0)else(false,0,0)
def yA (d:Dcl)(L:List Ent)(e:Ev):Ent:=⟨e,(zU d L e).1,(zU d L e).2.1,(zU d L e).2.2⟩
def zD (d:Dcl)(l:List Ev):List Ent:=l.foldl (fun L e=>L++[yA d L e]) []
def zw (d:Dcl)(L:List Ent):Int×Int→Option (Nat×List Cel):=fun k=>if yh k L=0 then none else some (yh k L,zO d k L)
def yK (L:List Ent):Int×Int×Int→Option (List Ev):=fun k=>if(yx k L).isEmpty then none else some (yx k L)
def Inv (d:Dcl)(L:List Ent):Prop:= ∀ty ag:Int,0≤ty→ty<d.types.length→Right (xX d ty) (zO d (ty,ag) L)
theorem Zp (d:Dcl)(l:List Ev)(e:Ev):zD d (l++[e])=zD d l++[yA d (zD d l) e]:=by unfold zD;rw[List.foldl_append];rfl
theorem xR (d:Dcl)(k:Int×Int)(L:List Ent)(x:Ent):zO d k (L++[x])=if onL k x then doL (xX d k.1) (zO d k L) x.ev.field x.ev.op x.ev.arg else zO d k L:=by unfold zO;rw[List.foldl_append];rfl
theorem Zm (k:Int×Int)(L:List Ent)(x:Ent):yh k (L++[x])=if onL k x then yh k L+1 else yh k L:=by
 unfold yh
 rw[List.filter_append,List.length_append,List.filter_cons]
 split<;>simp
theorem WG (k:Int×Int×Int)(L:List Ent)(x:Ent):yx k (L++[x])=if on3 k x then yx k L++[x.ev]else yx k L:=by
 unfold yx
 rw[List.filter_append,List.filter_cons]
 split<;>simp
theorem Xa (k:Int×Int)(L:List Ent):yh k L≤L.length:=List.length_filter_le _ _
theorem VP {d:Dcl}{k:Int×Int}: ∀{L:List Ent},yh k L=0→zO d k L=zah (xX d k.1):=by
 intro L
 induction L using YA with
 |h0=>intro _;rfl
 |h1 L x ih=>
  intro h
  rw[Zm]at h
  rw[xR]
  split
  ·rename_i hx;rw[if_pos hx]at h;omega
  ·rename_i hx;rw[if_neg hx]at h;exact ih h
theorem xT {d:Dcl}{L:List Ent}{x:Ent}(h:x.void=true):zw d (L++[x])=zw d L∧yK (L++[x])=yK L:=by
 constructor
 ·funext k
  have:onL k x=false:=by unfold onL;rw[h];rfl
  unfold zw
  rw[Zm,xR,this]
  rfl
 ·funext k
  have:on3 k x=false:=by unfold on3;rw[h];rfl
  unfold yK
  rw[WG,this]
  rfl
theorem Qt {d:Dcl}{L:List Ent}{x:Ent}(h:x.void=false):zw d (L++[x])=Yi (zw d L) (x.ev.typ,x.ev.agg) (yh (x.ev.typ,x.ev.agg) L+1,doL (xX d x.ev.typ) (zO d (x.ev.typ,x.ev.agg) L) x.ev.field x.ev.op x.ev.arg):=by
 funext k
 unfold zw Yi
 rw[Zm,xR]
 by_cases e:(x.ev.typ,x.ev.agg)=k
 ·subst e
  have:onL (x.ev.typ,x.ev.agg) x=true:=by unfold onL;rw[h];simp
  rw[this]
  simp
 ·have:onL k x=false:=by
   unfold onL
   rw[h]
   have: ¬(x.ev.typ=k.1∧x.ev.agg=k.2):=fun h9=>e (by obtain⟨a,b⟩:=k;obtain⟨rfl,rfl⟩:=h9;rfl)
   simp[this]
  rw[this]
  simp[e]
theorem Jm {L:List Ent}{x:Ent}(h:x.void=false):yK (L++[x])=Yi (yK L) (x.ev.typ,x.ev.agg,x.ev.field) (yx (x.ev.typ,x.ev.agg,x.ev.field) L++[x.ev]):=by
 funext k
 unfold yK Yi
 rw[WG]
 by_cases e:(x.ev.typ,x.ev.agg,x.ev.field)=k
 ·subst e
  have:on3 (x.ev.typ,x.ev.agg,x.ev.field) x=true:=by unfold on3;rw[h];simp
  rw[this]
  simp
 ·have:on3 k x=false:=by
   unfold on3
   rw[h]
   have: ¬(x.ev.typ=k.1∧x.ev.agg=k.2.1∧x.ev.field=k.2.2):=fun h9=>e (by obtain⟨a,b,c⟩:=k;obtain⟨rfl,rfl,rfl⟩:=h9;rfl)
   simp[this]
  rw[this]
  simp[e]
theorem Qh (t:Typ):Right t (zah t):=Kr
theorem Inv.nil (d:Dcl):Inv d []:=fun ty ag _ _=>Qh _
theorem Xy {d:Dcl}{L:List Ent}{e:Ev}(h:(zU d L e).1=false):yV d e.typ e.field e.op e.arg=0∧yH (xX d e.typ) (zO d (e.typ,e.agg) L) e.field e.op e.arg=0:=by
 unfold zU at h
 split at h
 ·cases h
 rename_i h1
 split at h
 ·cases h
 split at h
 ·cases h
 rename_i h2
 exact⟨Decidable.not_not.1 h1,Decidable.not_not.1 h2⟩
theorem Inv.snoc {d:Dcl}{L:List Ent}{e:Ev}(hd:DclOk d)(h:Inv d L):Inv d (L++[yA d L e]):=by
 intro ty ag h0 h1
 rw[xR]
 split
 ·rename_i hx
  unfold onL at hx
  simp only[Bool.and_eq_true,Bool.not_eq_true',decide_eq_true_eq]at hx
  obtain⟨hv,ht,ha⟩:=hx
  obtain⟨hf,hm⟩:=Xy (d:=d) (L:=L) (e:=e) hv
  obtain⟨f1,f2,hft⟩:=Yb hf
  have ht':e.typ=ty:=ht
  have ha':e.agg=ag:=ha
  subst ht' ha'
  exact zaW hft (hd.typ _ (by omega)) (h e.typ e.agg h0 h1) (zcm hm)
 ·exact h ty ag h0 h1
theorem Inv.run {d:Dcl}(hd:DclOk d)(l:List Ev):Inv d (zD d l):=by
 induction l using YA with
 |h0=>exact Inv.nil d
 |h1 l e ih=>rw[Zp];exact ih.snoc hd
end
section
open Go.RowKit
instance {α:Type} [Rep α]:Rep (Bool×α) where
 k:=Rep.k α
 rd w F cs x:=Rep.rd w F cs x.2
 bytes:=Rep.bytes α
 bpos:=Rep.bpos
 kpos:=Rep.kpos
 len h:=Rep.len h
 one h:=Rep.one h
 mono h hF:=Rep.mono h hF
def mix {α:Type}[Rep α](G:Nat→Prop)(W:World):Src (Bool×α):=
 ⟨fun cs x=>if x.1 then(own (α:=α)).el cs x.2 else(shr (α:=α) G W).el cs x.2,fun{w f cs x} h=>by
  split at h
  ·exact(own (α:=α)).len h
  ·exact(shr (α:=α) G W).len h,fun{w f cs x} h=>by
  split at h
  ·exact(own (α:=α)).one h
  ·exact(shr (α:=α) G W).one h⟩
def Zu {α:Type}(k:Nat)(l:List α):List (Bool×α):=(l.take k).map (Prod.mk true)++(l.drop k).map (Prod.mk false)
theorem xV {α:Type}(k:Nat)(l:List α):(Zu k l).length=l.length:=by unfold Zu;simp;omega
theorem Qf {α:Type}{k i:Nat}{l:List α}(hk:k≤i)(hi:i<l.length):(Zu k l)[i]? =some (false,l[i]):=by
 unfold Zu
 rw[List.getElem?_append_right (by simp;omega)]
 simp only[List.length_map,List.length_take,List.getElem?_map,List.getElem?_drop]
 rw[show k+(i-min k l.length)=i by omega,List.getElem?_eq_getElem hi];rfl
theorem JS {α:Type}{k:Nat}{l:List α}(hk:k<l.length):(Zu k l).set k (true,l[k])=Zu (k+1) l:=by
 unfold Zu
 rw[List.take_succ_eq_append_getElem hk,List.map_append,List.append_assoc,List.set_append_right _ _ (by simp only[List.length_map,List.length_take];omega),List.drop_eq_getElem_cons hk]
 simp only[List.length_map,List.length_take,List.map_cons,List.map_nil,List.singleton_append]
 rw[show k-min k l.length=0 by omega,List.set_cons_zero]
section
variable {α:Type}[Rep α]{G:Nat→Prop}{W w:World}{As:List HP}{T:TypeId}{v:Value}{l:List α}
theorem EP.mapIn {β:Type}{q:List Value→α→Prop}{q':List Value→β→Prop}(g:α→β)(h: ∀cs x,q cs x→q' cs (g x)): ∀{css:List (List Value)} {l:List α},EP q css l→EP q' css (l.map g)
 |[],[],_=>trivial
 |_::_,_::_,hh=>⟨h _ _ hh.1,EP.mapIn g h hh.2⟩
 |[],_::_,hh=>hh.elim
 |_::_,[],hh=>hh.elim
theorem EP.mapOut {β:Type}{q:List Value→α→Prop}{q':List Value→β→Prop}(g:α→β)(h: ∀cs x,q' cs (g x)→q cs x): ∀{css:List (List Value)} {l:List α},EP q' css (l.map g)→EP q css l
 |[],[],_=>trivial
 |_::_,_::_,hh=>⟨h _ _ hh.1,EP.mapOut g h hh.2⟩
 |[],_::_,hh=>hh.elim
 |_::_,[],hh=>hh.elim
theorem Sep.toMix (h:Sep G W (RowE (shr G W) T v l::As) w):Sep G W (RowE (mix (α:=α) G W) T v (Zu 0 l)::As) w:=by
 refine h.impl (i:=0) rfl (fun f hA=>?_)
 obtain⟨css,hE,hown,hrow,hsm⟩:=hA
 have e:Zu 0 l=l.map (Prod.mk false):=by unfold Zu;simp
 rw[e]
 exact⟨css,EP.mapIn (Prod.mk false) (fun cs x hx=>hx) hE,by rw[List.length_map];exact hown,hrow,by rw[List.length_map];exact hsm⟩
theorem Sep.ofMix {n:Nat}(h:Sep G W (RowE (mix (α:=α) G W) T v (Zu n l)::As) w)(hn:l.length≤n):Sep G W (RowE (own (α:=α)) T v l::As) w:=by
 refine h.impl (i:=0) rfl (fun f hA=>?_)
 have e:Zu n l=l.map (Prod.mk true):=by unfold Zu;rw[List.take_of_length_le hn,List.drop_of_length_le hn];simp
 rw[e]at hA
 obtain⟨css,hE,hown,hrow,hsm⟩:=hA
 exact⟨css,EP.mapOut (Prod.mk true) (fun cs x hx=>hx) hE,by rw[List.length_map]at hown;exact hown,hrow,by rw[List.length_map]at hsm;exact hsm⟩
theorem Sep.mixAt {i k j:Nat}(h:Sep G W As w)(hi:As[i]? =some (RowE (mix (α:=α) G W) T v (Zu k l)))(hk:k≤j)(hj:j<l.length): ∃cs,CellsAt w (sb v) (so v+j*Rep.k α) cs∧Rep.rd W G cs l[j]:=by
 obtain⟨cs,f,h1,h2⟩:=h.rowAt hi (j:=j) (by rw[xV];exact hj)
 have e:(Zu k l)[j]'(by rw[xV];exact hj)=(false,l[j]):=by
  have:=Qf hk hj
  rw[List.getElem?_eq_getElem (by rw[xV];exact hj)]at this
  exact Option.some.inj this
 rw[e]at h2
 exact⟨cs,h1,h2⟩
end
section
variable {α:Type}[Rep α]{P:Program}{d:Option Tmp}{ty:TypeId}{pos:String}{af:Array Edge}{gd:Option (Nat×Bool)}{σ:Env}{w:World}{K:Value→World→Prop}{G:Nat→Prop}{W:World}{As:List HP}{N:HP}{T:TypeId}{v:Value}{l:List α}
theorem Xq {t:TypeId}{j o:Nat}{x y:Operand}{u:Value}{us:List Value}(h:Sep G W (RowE (mix (α:=α) G W) T v (Zu j l)::N::As) w)(hS: ∀w,(sizeOf t).run P w=.ok us.length w)(hj:j<l.length)
 (hx:ev σ x=.pointer (some ⟨sb v,so v+j*Rep.k α+o,none⟩)) (hy:ev σ y=u) (hu:u.cells.toList=us) (ho:o+us.length≤Rep.k α) (h1: ∀u∈us,u.oneCell'=true)
 (hq: ∀w f cs0,Rep.rd W G cs0 l[j]→N.p w f→((own (α:=α)).el (cs0.take o++us++cs0.drop (o+us.length)) l[j]).p w f)
 (hK: ∀w',Sep G W (RowE (mix (α:=α) G W) T v (Zu (j+1) l)::As) w'→K undef w'):opV P ⟨d,.store t x y,ty,pos,af,gd⟩ σ w K:=by
 have e:(Zu j l)[j]'(by rw[xV];exact hj)=(false,l[j]):=by
  have:=Qf (Nat.le_refl j) hj
  rw[List.getElem?_eq_getElem (by rw[xV];exact hj)]at this
  exact Option.some.inj this
 refine yP (α:=Bool×α) (j:=j) (o:=o) (u:=u) (us:=us) (x1:=(true,l[j])) h hS (by rw[xV];exact hj) hx hy hu ho h1 (fun w f cs0 hel hN=>?_) (fun w' h'=>hK w' (by rw[JS hj]at h';exact h'))
 rw[e]at hel
 exact hq w f cs0 hel hN
end
end
section
section
variable {P:Program}{n:Nat}{Q:Zv}{σ:Env}{w:World}{ops:List Oper}{pre:List (List Nat)}
def xd:List Nat→(Nat→Bool)→Nat
 |[],_=>0
 |s::r,d=>(if d s=true then 1 else 0)+2*xd r d
theorem Qx: ∀(ss:List Nat) (d:Nat→Bool),xd ss d<2^ss.length
 |[],_=>Nat.one_pos
 |s::r,d=>by
  have:=Qx r d
  simp only[xd,List.length_cons,Nat.pow_succ]
  split<;>omega
theorem VJ: ∀(ss:List Nat) (d:Nat→Bool) (p s:Nat),ss[p]? =some s→(xd ss d).testBit p=d s
 |[],_,_,_,h=>by simp at h
 |x::r,d,0,s,h=>by
  simp only[List.getElem?_cons_zero,Option.some.injEq]at h
  subst h
  rw[Nat.testBit_zero,xd]
  cases h:d x<;>simp<;>omega
 |x::r,d,p+1,s,h=>by
  have:=VJ r d p s (by simpa using h)
  rw[Nat.testBit_succ,xd,show((if d x=true then 1 else 0)+2*xd r d)/2=xd r d by split<;>omega]
  exact this
theorem Vw {ss:List Nat}{d:Nat→Bool}{i:Nat}(h:i∉ss):xd ss (fun j=>d j||j== i)=xd ss d:=by
 induction ss with
 |nil=>rfl
 |cons s r ih=>
  have hs: ¬s=i:=fun e=>h (e▸List.mem_cons_self)
  simp only[xd]
  rw[ih (fun hm=>h (List.mem_cons_of_mem _ hm))]
  simp[hs]
theorem Js {ss:List Nat}{d:Nat→Bool}{i:Nat}(hnd:ss.Nodup)(h:i∈ss)(hd:d i=false):xd ss (fun j=>d j||j== i)=xd ss d+2^ss.idxOf i:=by
 induction ss with
 |nil=>cases h
 |cons s r ih=>
  obtain⟨h1,h2⟩:=List.nodup_cons.1 hnd
  by_cases e:s=i
  ·subst e
   simp only[xd,List.idxOf_cons_self]
   rw[Vw h1]
   simp[hd]
   omega
  ·have hm:i∈r:=by
    rcases List.mem_cons.1 h with e2|hm
    ·exact absurd e2.symm e
    ·exact hm
   simp only[xd]
   rw[ih h2 hm,show(s::r).idxOf i=r.idxOf i+1 by rw[List.idxOf_cons,show(s== i)=false from beq_eq_false_iff_ne.2 e];rfl,Nat.pow_succ]
   simp[e]
   omega
theorem VM: ∀{ss:List Nat} {d:Nat→Bool},(∀s∈ss,d s=true)→xd ss d=2^ss.length-1
 |[],_,_=>rfl
 |s::r,d,h=>by
  have:=VM (ss:=r) (d:=d) (fun q hq=>h q (List.mem_cons_of_mem _ hq))
  have h2:0<2^r.length:=Nat.two_pow_pos _
  simp only[xd,List.length_cons,Nat.pow_succ,h s List.mem_cons_self,if_true,this]
  omega
theorem WJ: ∀{ss:List Nat} {d:Nat→Bool},(∀s∈ss,d s=false)→xd ss d=0
 |[],_,_=>rfl
 |s::r,d,h=>by
  have:=WJ (ss:=r) (d:=d) (fun q hq=>h q (List.mem_cons_of_mem _ hq))
  simp[xd,h s List.mem_cons_self,this]
def zbr (pre:List (List Nat))(ss:List Nat)(m i:Nat):Bool:=(List.range ss.length).all fun p=>match ss.getD p 0 with
 |s=>(!(pre.getD i []).contains s||m.testBit p)&&(!(Nat.beq s i||(pre.getD s []).contains i)|| !m.testBit p)&&(!m.testBit p||(List.range ss.length).all fun r=> !(pre.getD s []).contains (ss.getD r 0)||m.testBit r)
def maskOk (pre:List (List Nat))(ss:List Nat)(sees:List (List Nat)):Bool:=(List.range sees.length).all fun i=>(List.range (2^ss.length)).all fun m=> !zbr pre ss m i||(sees.getD i []).contains m
theorem maskOk.mem {ss:List Nat}{sees:List (List Nat)}(h:maskOk pre ss sees=true){i:Nat}(hi:i<sees.length){done:Nat→Bool}(hc:closed pre done)(hd:done i=false)(hp: ∀j∈pre.getD i [],done j=true):xd ss done∈sees.getD i []:=by
 simp only[maskOk,List.all_eq_true,List.mem_range]at h
 have h1:=h i hi (xd ss done) (Qx _ _)
 have hcons:zbr pre ss (xd ss done) i=true:=by
  simp only[zbr,List.all_eq_true,List.mem_range]
  intro p hp'
  have hb: ∀r,r<ss.length→(xd ss done).testBit r=done (ss.getD r 0):=fun r hr=>VJ ss done r _ (by rw[List.getD_eq_getElem?_getD,List.getElem?_eq_getElem hr];rfl)
  simp only[Bool.and_eq_true,Bool.or_eq_true,Bool.not_eq_true',List.all_eq_true,List.mem_range]
  rw[hb p hp']
  refine⟨⟨?_,?_⟩,?_⟩
  ·cases hk:(pre.getD i []).contains (ss.getD p 0)with
   |false=>exact .inl rfl
   |true=>exact .inr (hp _ (List.contains_iff_mem.1 hk))
  ·cases hk:(Nat.beq (ss.getD p 0) i||(pre.getD (ss.getD p 0) []).contains i)with
   |false=>exact .inl rfl
   |true=>
    right
    rcases Bool.or_eq_true _ _▸hk with h2|h2
    ·rw[Nat.eq_of_beq_eq_true h2];exact hd
    ·cases hds:done (ss.getD p 0)with
     |false=>rfl
     |true=>have:=hc _ hds i (List.contains_iff_mem.1 h2);rw[hd]at this;cases this
  ·cases hds:done (ss.getD p 0)with
   |false=>exact .inl rfl
   |true=>
    right
    intro r hr
    rw[hb r hr]
    cases hk:(pre.getD (ss.getD p 0) []).contains (ss.getD r 0)with
    |false=>exact .inl rfl
    |true=>exact .inr (hc _ hds _ (List.contains_iff_mem.1 hk))
 rw[hcons]at h1
 simpa using h1
def UG (P:Program)(ops:List Oper)(pre:List (List Nat))(ss:List Nat)(sees:List (List Nat))(W:Nat→(Nat→Value)→World→Prop)(A:Nat→(Nat→Value)→Prop)(σ:Env):Nat→List Oper→Prop
 |_,[]=>True
 |i,o::rest=>(∀k vals w,k∈sees.getD i []→W k vals w→(∀j,j∈pre.getD i []→A j vals)→
  if Region.wanted o (yl ops.toArray (XS ops (pre.getD i []) σ vals))then opV P o (XS ops (pre.getD i []) σ vals) w (fun v w'=> ∀vals',vals' i=v→(∀j,j≠i→vals' j=vals j)→(if ss.contains i then W (k+2^ss.idxOf i) vals' w' else w'=w)∧A i vals')
  else ∀vals',vals' i=undef→(∀j,j≠i→vals' j=vals j)→(if ss.contains i then W (k+2^ss.idxOf i) vals' w else True)∧A i vals')∧
  UG P ops pre ss sees W A σ (i+1) rest
theorem zaL {ss:List Nat}{sees:List (List Nat)}{W:Nat→(Nat→Value)→World→Prop}{A:Nat→(Nat→Value)→Prop}{i0:Nat}: ∀{l:List Oper},UG P ops pre ss sees W A σ i0 l→ ∀i o,l[i]? =some o→ ∀k vals w,k∈sees.getD (i0+i) []→W k vals w→(∀j,j∈pre.getD (i0+i) []→A j vals)→
 if Region.wanted o (yl ops.toArray (XS ops (pre.getD (i0+i) []) σ vals))then opV P o (XS ops (pre.getD (i0+i) []) σ vals) w (fun v w'=> ∀vals',vals' (i0+i)=v→(∀j,j≠i0+i→vals' j=vals j)→(if ss.contains (i0+i)then W (k+2^ss.idxOf (i0+i)) vals' w' else w'=w)∧A (i0+i) vals')
 else ∀vals',vals' (i0+i)=undef→(∀j,j≠i0+i→vals' j=vals j)→(if ss.contains (i0+i)then W (k+2^ss.idxOf (i0+i)) vals' w else True)∧A (i0+i) vals':=by
 intro l
 induction l generalizing i0 with
 |nil=>intro _ i o h;simp at h
 |cons x l ih=>
  intro h i o ho
  obtain⟨h1,h2⟩:=h
  cases i with
  |zero=>simp only[List.getElem?_cons_zero,Option.some.injEq]at ho;subst ho;exact h1
  |succ i=>
   have:=ih h2 i o (by simpa using ho)
   rw[show i0+1+i=i0+(i+1) by omega]at this
   exact this
theorem zdz {ss:List Nat}{sees:List (List Nat)}{W:Nat→(Nat→Value)→World→Prop}{A:Nat→(Nat→Value)→Prop}(hf:Fit ops pre ops.length)(hd:xp n ops=true)(hkl:sees.length=ops.length)(hk:maskOk pre ss sees=true)(hsl: ∀s∈ss,s<ops.length)(hnd:ss.Nodup)
 (hloc: ∀k vals vals' w,(∀s∈ss,vals' s=vals s)→W k vals w→W k vals' w)
 (hlocA: ∀i vals vals',(∀j,j=i∨j∈pre.getD i []→vals' j=vals j)→A i vals→A i vals') (hob:UG P ops pre ss sees W A σ 0 ops)
 (hfin: ∀vals w',W (2^ss.length-1) vals w'→(∀j,j<ops.length→A j vals)→Q .normal (behind ops vals σ ops.length) w'):
 ∀(fuel:Nat) (listed:Array Bool) (a:Act) (vals:Nat→Value) (w:World),listed.size=ops.length→closed pre (dn listed)→(∀j,dn listed j=true→j<ops.length)→
 ops.length≤cnt (dn listed) ops.length+fuel→Sim n (mixed ops (dn listed) vals σ) a→W (xd ss (dn listed)) vals w→(∀j,dn listed j=true→A j vals)→
 wpAny P .any ops.toArray (fun e a' w'=> ∃σ'',Sim n σ'' a'∧Q e σ'' w') fuel listed a w:=by
 have hend: ∀(listed:Array Bool) (a:Act) (vals:Nat→Value) (w:World),(∀j,j<ops.length→dn listed j=true)→(∀j,dn listed j=true→j<ops.length)→Sim n (mixed ops (dn listed) vals σ) a→W (xd ss (dn listed)) vals w→(∀j,dn listed j=true→A j vals)→
  ∃σ'',Sim n σ'' a∧Q .normal σ'' w:=by
  intro listed a vals w hall hlt hsim hW hA
  have hdn:dn listed=fun j=>decide (j<ops.length):=by
   funext j
   rw[Bool.eq_iff_iff,decide_eq_true_eq]
   exact⟨hlt j,hall j⟩
  have hst:xd ss (dn listed)=2^ss.length-1:=VM fun s hs=>hall s (hsl s hs)
  rw[hdn,←ZX hf ops.length (Nat.le_refl _)]at hsim
  exact⟨_,hsim,hfin vals w (hst▸hW) fun j hj=>hA j (hall j hj)⟩
 intro fuel
 induction fuel with
 |zero=>
  intro listed a vals w hs hc hlt hfu hsim hW hA
  have hall:=Wf (done:=dn listed) (m:=ops.length) (by omega)
  refine⟨?_,hend listed a vals w hall hlt hsim hW hA⟩
  cases hr:Region.ready .any ops.toArray listed with
  |nil=>rfl
  |cons i r=>
   have hi:i∈Region.ready .any ops.toArray listed:=by rw[hr];exact List.mem_cons_self
   obtain⟨h1,o,ho,_⟩:=(YC hs).1 hi
   have:=hall i (List.getElem?_eq_some_iff.1 ho).1
   rw[h1]at this;cases this
 |succ fuel ih=>
  intro listed a vals w hs hc hlt hfu hsim hW hA
  refine⟨fun hr=>hend listed a vals w (Vh hf hs hr) hlt hsim hW hA,fun i hi=>?_⟩
  obtain⟨o,ho,hni,hpre⟩:=VG hf hs hc hi
  have hilen:=(List.getElem?_eq_some_iff.1 ho).1
  have hdst: ∀d,o.dst=some d→d<n:=by
   intro d hd'
   simp only[xp,List.all_eq_true]at hd
   have:=hd o (List.mem_of_getElem? ho)
   rw[hd']at this
   simpa[Nat.blt_eq]using this
  have hv:=Wt (σ:=σ) (vals:=vals) hf ho hc hni hpre
  have hbd:=maskOk.mem hk (i:=i) (by omega) hc hni hpre
  have hO:=zaL hob i o ho (xd ss (dn listed)) vals w
  simp only[Nat.zero_add]at hO
  have hO':=hO hbd hW (fun j hj=>hA j (hpre j hj))
  have hset:=zbp hs ho
  have hnext: ∀v a' w',(∀vals',vals' i=v→(∀j,j≠i→vals' j=vals j)→(if ss.contains i then W (xd ss (dn listed)+2^ss.idxOf i) vals' w' else W (xd ss (dn listed)) vals w')∧A i vals')→Sim n (ZR (mixed ops (dn listed) vals σ) o.dst v) a'→
   wpAny P .any ops.toArray (fun e a' w'=> ∃σ'',Sim n σ'' a'∧Q e σ'' w') fuel (listed.setIfInBounds i true) a' w':=by
   intro v a' w' hn hs'
   rw[WQ hf ho hni v]at hs'
   obtain⟨hWn,hAn⟩:=hn (fun j=>if j=i then v else vals j) (if_pos rfl) (fun j hj=>if_neg hj)
   refine ih _ a' (fun j=>if j=i then v else vals j) w' (by simpa using hs) ?_ ?_ ?_ ?_ ?_ ?_
   ·intro j hj j' hj'
    rw[hset]at hj⊢
    simp only[Bool.or_eq_true,beq_iff_eq]at hj⊢
    rcases hj with hj|rfl
    ·exact .inl (hc j hj j' hj')
    ·exact .inl (hpre j' hj')
   ·intro j hj
    rw[hset]at hj
    simp only[Bool.or_eq_true,beq_iff_eq]at hj
    rcases hj with hj|rfl
    ·exact hlt j hj
    ·exact hilen
   ·rw[hset,Uh hni,if_pos hilen];omega
   ·rw[hset];exact hs'
   ·rw[hset]
    by_cases hm:i∈ss
    ·rw[if_pos (List.contains_iff_mem.2 hm)]at hWn
     rw[Js hnd hm hni]
     exact hWn
    ·rw[if_neg (fun h=>hm (List.contains_iff_mem.1 h))]at hWn
     rw[Vw hm]
     exact hloc _ _ _ _ (fun s hs=>if_neg (fun e:s=i=>hm (e▸hs))) hWn
   ·intro j hj
    rw[hset]at hj
    simp only[Bool.or_eq_true,beq_iff_eq]at hj
    by_cases hji:j=i
    ·subst hji;exact hAn
    ·rcases hj with hj|hj
     ·refine hlocA j vals _ (fun q hq=>if_neg (fun e:q=i=>?_)) (hA j hj)
      subst e
      rcases hq with hq|hq
      ·exact hji hq.symm
      ·have:=hc j hj q hq;rw[hni]at this;cases this
     ·exact(hji hj).elim
  unfold wpOp
  simp only[List.getElem?_toArray,ho]
  rw[hsim.yielded,YX (σ:=XS ops (pre.getD i []) σ vals) hv]
  split
  ·rename_i hw
   rw[if_pos hw]at hO'
   refine .inl (Kb hsim (K:=fun σ'' w'=> ∃v,(∀vals',vals' i=v→(∀j,j≠i→vals' j=vals j)→(if ss.contains i then W (xd ss (dn listed)+2^ss.idxOf i) vals' w' else W (xd ss (dn listed)) vals w')∧A i vals')∧σ''=ZR (mixed ops (dn listed) vals σ) o.dst v) ?_ hdst ?_)
   ·rintro a' σ'' w' hs' ⟨v,h1,rfl⟩
    exact hnext v a' w' h1 hs'
   ·unfold opP
    rw[VN (hf.sel i o ho) hv]
    refine UH (fun v w' h=>⟨v,fun vals' h1 h2=>?_,rfl⟩) hO'
    obtain⟨h3,h4⟩:=h vals' h1 h2
    refine⟨?_,h4⟩
    split
    ·rename_i hm;rw[if_pos hm]at h3;exact h3
    ·rename_i hm;rw[if_neg hm]at h3;subst h3;exact hW
  ·rename_i hw
   rw[if_neg hw]at hO'
   refine hnext undef _ w (fun vals' h1 h2=>?_) (hsim.put hdst undef)
   obtain⟨h3,h4⟩:=hO' vals' h1 h2
   refine⟨?_,h4⟩
   split
   ·rename_i hm;rw[if_pos hm]at h3;exact h3
   ·exact hW
theorem zbV {id:Nat}(W:Nat→(Nat→Value)→World→Prop)(A:Nat→(Nat→Value)→Prop)(pre:List (List Nat))(ss:List Nat)(sees:List (List Nat))(hm:P.follows .mixedOrders=true)(hd:xp n ops=true)(hok:drawOk ops pre ops.length=true)
 (hkl:sees.length=ops.length) (hk:maskOk pre ss sees=true) (hsl:(ss.all fun s=>Nat.blt s ops.length)=true) (hnd:ss.Nodup)
 (hW: ∀w0:World,w0.heap=w.heap→w0.os=w.os→w0.tape=w.tape→w0.output=w.output∧w.drawn≤w0.drawn→ ∀vals,W 0 vals w0)
 (hloc: ∀k vals vals' w,(∀s∈ss,vals' s=vals s)→W k vals w→W k vals' w)
 (hlocA: ∀i vals vals',(∀j,j=i∨j∈pre.getD i []→vals' j=vals j)→A i vals→A i vals')
 (hob:UG P ops pre ss sees W A σ 0 ops)
 (hfin: ∀vals w',W (2^ss.length-1) vals w'→(∀j,j<ops.length→A j vals)→WPs P ops.toArray (Q .normal) [] (behind ops vals σ ops.length) w'):
 WP P n (.region id ops.toArray true) Q σ w:=by
 intro a hs
 have hf:=drawOk.fit hok
 have hz:dn (Array.replicate ops.toArray.size false)=fun _=>false:=by
  funext i
  simp[dn,Array.getElem?_replicate]
  split<;>rfl
 refine wp_region_any hm ?_
 refine zdz (ss:=ss) (vals:=fun _=>undef) hf hd hkl hk (fun s hs=>by
  have:=(List.all_eq_true.1 hsl) s hs;simpa[Nat.blt_eq]using this) hnd hloc hlocA hob hfin _ _ a _ (by simp) ?_ ?_ ?_ ?_ ?_ ?_
 ·intro i hi;rw[hz]at hi;cases hi
 ·intro i hi;rw[hz]at hi;cases hi
 ·simp
 ·have:mixed ops (dn (Array.replicate ops.toArray.size false)) (fun _=>undef) σ=σ:=by
   funext t
   exact xN fun j _=>by rw[hz]
  rw[this];exact hs
 ·have:xd ss (dn (Array.replicate ops.toArray.size false))=0:=WJ fun s _=>by rw[hz]
  rw[this];exact hW {w with drawn:=w.drawn+1} rfl rfl rfl ⟨rfl,Nat.le_succ _⟩ _
 ·intro i hi;rw[hz]at hi;cases hi
end
theorem WD6 {P:Program}{n:Nat}{Q:Zv}{σ:Env}{w W0:World}{G0:Nat→Prop}{As:List HP}{ops:List Oper}{id:Nat}(W:Nat→(Nat→Value)→World→Prop)(A:Nat→(Nat→Value)→Prop)(pre:List (List Nat))(ss:List Nat)(sees:List (List Nat))(hS:Sep G0 W0 As w)
 (hob:UG P ops pre ss sees W A σ 0 ops)
 (hfin: ∀vals w',W (2^ss.length-1) vals w'→(∀j,j<ops.length→A j vals)→WPs P ops.toArray (Q .normal) [] (behind ops vals σ ops.length) w')
 (hlocA: ∀i vals vals',(∀j,j=i∨j∈pre.getD i []→vals' j=vals j)→A i vals→A i vals':=by exact yX (by repeat first|exact trivial|refine⟨dA,?_⟩|refine⟨dT,?_⟩))
 (hm:P.follows .mixedOrders=true:=by kernel_rfl) (hd:xp n ops=true:=by kernel_rfl) (hok:drawOk ops pre ops.length=true:=by kernel_rfl) (hkl:sees.length=ops.length:=by rfl) (hk:maskOk pre ss sees=true:=by kernel_rfl) (hsl:(ss.all fun s=>Nat.blt s ops.length)=true:=by kernel_rfl) (hnd:ss.Nodup:=by decide)
 (h0: ∀vals w,Sep G0 W0 As w→W 0 vals w:=by exact fun _ _ h=>h)
 (hloc: ∀k vals vals' w,(∀s∈ss,vals' s=vals s)→W k vals w→W k vals' w:=by
  intro k vals u w H h
  try simp only[List.mem_cons,List.not_mem_nil,forall_eq_or_imp,or_false,forall_eq]at H
  rcases k with _|_|_|_|_|_|_|_|_|_|_|_|_|_|_|_|_|_|_|_|_|_|_|_|_|_|_|_|_|_|_|_|_|_
  all_goals first|exact h|exact trivial|(simp only[WF,List.getElem?_cons_zero,List.getElem?_cons_succ,H]at h⊢;exact h)):
 WP P n (.region id ops.toArray true) Q σ w:=zbV W A pre ss sees hm hd hok hkl hk hsl hnd (fun _ h1 h2 h3 h4 _=>h0 _ _ (hS.same h1 h2 h3 h4)) hloc hlocA hob hfin
end
section
set_option maxRecDepth 8000
set_option maxHeartbeats 4000000
open Go.Proofs Go.RowKit
theorem Vx (a b c d:Int):(decide (a=c∧b=d))=(a== c&&b== d):=by
 by_cases h1:a=c<;>by_cases h2:b=d<;>simp[h1,h2]
theorem ck3 (w:World)(e:Bool)(n:Nat)(a:Int):(Instr.checkKey e (n+1) 3 (.int .i64 a)).run Tryz.prog w=.ok () w:=MapKept.run_checkKey vT (show MapKept.IsKey (.int .i64) (.int .i64 a)from rfl) e n
def xh (k:Int×Int):Value:=.agg #[.int .i64 k.1,.int .i64 k.2]
def xZ (k:Int×Int×Int):Value:=.agg #[.int .i64 k.1,.int .i64 k.2.1,.int .i64 k.2.2]
theorem K2:KLaw Tryz.prog 125 xh where
 inj:=by
  rintro⟨a,b⟩ ⟨c,d⟩ h
  simp only[xh,Value.agg.injEq,Array.mk.injEq,List.cons.injEq,Value.int.injEq,true_and,and_true]at h
  rw[h.1,h.2]
 desc:=⟨_,Tryz.underlying125,fun _ _=>rfl⟩
 check:=by
  intro w e k
  show(Instr.checkKey e 10000 125 (.agg #[.int .i64 k.1,.int .i64 k.2])).run Tryz.prog w=.ok () w
  rw[show(10000:Nat)=9998+1+1 from rfl,Instr.checkKey]
  simp[go_sem,ck3]
 eql:=by
  rintro w ⟨a,b⟩ ⟨c,d⟩
  rw[show decide ((a,b)=(c,d))=(a== c&&b== d) by rw[←Vx];simp]
  unfold Op.equal Op.maxDepth xh
  simp[go_sem]
  by_cases h1:a=c<;>by_cases h2:b=d<;>simp[h1,h2]
 stays:=by intro k;simp[Instr.sameBits,xh]
theorem K3:KLaw Tryz.prog 165 xZ where
 inj:=by
  rintro⟨a,b,c⟩ ⟨d,e,f⟩ h
  simp only[xZ,Value.agg.injEq,Array.mk.injEq,List.cons.injEq,Value.int.injEq,true_and,and_true]at h
  rw[h.1,h.2.1,h.2.2]
 desc:=⟨_,Tryz.underlying165,fun _ _=>rfl⟩
 check:=by
  intro w e k
  show(Instr.checkKey e 10000 165 (.agg #[.int .i64 k.1,.int .i64 k.2.1,.int .i64 k.2.2])).run Tryz.prog w=.ok () w
  rw[show(10000:Nat)=9997+1+1+1 from rfl,Instr.checkKey]
  simp[go_sem,ck3]
  rw[Instr.checkKey]
  simp[go_sem,ck3]
 eql:=by
  rintro w ⟨a,b,c⟩ ⟨d,e,f⟩
  rw[show decide ((a,b,c)=(d,e,f))=(a== d&&b== e&&c== f) by by_cases h1:a=d<;>by_cases h2:b=e<;>by_cases h3:c=f<;>simp[h1,h2,h3]]
  unfold Op.equal Op.maxDepth xZ
  simp[go_sem]
  by_cases h1:a=d<;>by_cases h2:b=e<;>by_cases h3:c=f<;>simp[h1,h2,h3]
 stays:=by intro k;simp[Instr.sameBits,xZ]
def E1 (v:Value)(x:Nat×List Cel):HP:=⟨fun w f=> ∃vc,v=.agg #[.int .i64 ((x.1:Nat):Int),vc]∧(RowE (α:=Cel) own 140 vc x.2).p w f,fun h hf=>by
 obtain⟨vc,h1,h2⟩:=h
 exact⟨vc,h1,HP.loc _ h2 hf⟩⟩
def E2 (v:Value)(l:List Ev):HP:=RowE (α:=Ev) own 44 v l
def Qr:Value:=.agg #[.int .i64 0,.slice none 0 0]
def ViewO (b:Nat)(d:Dcl)(L M:List Ent):HP:=Ex1 fun vt=>Ex1 fun vp=>Ex1 fun ve=>Ex1 fun m1=>Ex1 fun m2=>Star [Blk b #[vt,vp,ve,.map (some m1),.map (some m2)] 101,RowE (α:=Typ) own 74 vt d.types,RowE (α:=Prj) own 112 vp d.projs,RowE (α:=Ent) own 96 ve L,MapO xh E1 m1 (zw d M),MapO xZ E2 m2 (yK M)]
section
variable {G:Nat→Prop}{W w:World}{As:List HP}{b:Nat}{d:Dcl}{L M:List Ent}
theorem ViewO.open (h:Sep G W (ViewO b d L M::As) w): ∃vt vp ve m1 m2,Sep G W (Blk b #[vt,vp,ve,.map (some m1),.map (some m2)] 101::RowE (α:=Typ) own 74 vt d.types::RowE (α:=Prj) own 112 vp d.projs::RowE (α:=Ent) own 96 ve L::MapO xh E1 m1 (zw d M)::MapO xZ E2 m2 (yK M)::As) w:=by
 obtain⟨vt,h⟩:=h.openEx
 obtain⟨vp,h⟩:=h.openEx
 obtain⟨ve,h⟩:=h.openEx
 obtain⟨m1,h⟩:=h.openEx
 obtain⟨m2,h⟩:=h.openEx
 exact⟨vt,vp,ve,m1,m2,h.openStar⟩
theorem ViewO.close {vt vp ve:Value}{m1 m2:Nat}(h:Sep G W (Blk b #[vt,vp,ve,.map (some m1),.map (some m2)] 101::RowE (α:=Typ) own 74 vt d.types::RowE (α:=Prj) own 112 vp d.projs::RowE (α:=Ent) own 96 ve L::MapO xh E1 m1 (zw d M)::MapO xZ E2 m2 (yK M)::As) w):Sep G W (ViewO b d L M::As) w:=by
 have h:=Sep.closeStar (Bs:=[Blk b #[vt,vp,ve,.map (some m1),.map (some m2)] 101,RowE (α:=Typ) own 74 vt d.types,RowE (α:=Prj) own 112 vp d.projs,RowE (α:=Ent) own 96 ve L,MapO xh E1 m1 (zw d M),MapO xZ E2 m2 (yK M)]) h
 exact Sep.closeEx (A:=fun vt=>Ex1 fun vp=>Ex1 fun ve=>Ex1 fun m1=>Ex1 fun m2=>Star [Blk b #[vt,vp,ve,.map (some m1),.map (some m2)] 101,RowE (α:=Typ) own 74 vt d.types,RowE (α:=Prj) own 112 vp d.projs,RowE (α:=Ent) own 96 ve L,MapO xh E1 m1 (zw d M),MapO xZ E2 m2 (yK M)]) vt (Sep.closeEx (A:=fun vp=>Ex1 fun ve=>Ex1 fun m1=>Ex1 fun m2=>Star [Blk b #[vt,vp,ve,.map (some m1),.map (some m2)] 101,RowE (α:=Typ) own 74 vt d.types,RowE (α:=Prj) own 112 vp d.projs,RowE (α:=Ent) own 96 ve L,MapO xh E1 m1 (zw d M),MapO xZ E2 m2 (yK M)]) vp (Sep.closeEx (A:=fun ve=>Ex1 fun m1=>Ex1 fun m2=>Star [Blk b #[vt,vp,ve,.map (some m1),.map (some m2)] 101,RowE (α:=Typ) own 74 vt d.types,RowE (α:=Prj) own 112 vp d.projs,RowE (α:=Ent) own 96 ve L,MapO xh E1 m1 (zw d M),MapO xZ E2 m2 (yK M)]) ve (Sep.closeEx (A:=fun m1=>Ex1 fun m2=>Star [Blk b #[vt,vp,ve,.map (some m1),.map (some m2)] 101,RowE (α:=Typ) own 74 vt d.types,RowE (α:=Prj) own 112 vp d.projs,RowE (α:=Ent) own 96 ve L,MapO xh E1 m1 (zw d M),MapO xZ E2 m2 (yK M)]) m1 (Sep.closeEx (A:=fun m2=>Star [Blk b #[vt,vp,ve,.map (some m1),.map (some m2)] 101,RowE (α:=Typ) own 74 vt d.types,RowE (α:=Prj) own 112 vp d.projs,RowE (α:=Ent) own 96 ve L,MapO xh E1 m1 (zw d M),MapO xZ E2 m2 (yK M)]) m2 h))))
theorem zaU {v:Value}{k:Int×Int×Int}(h:Sep G W (Xs E2 v (yK M k)::As) w)(hv:yK M k=none→v=.slice none 0 0):Sep G W (RowE (α:=Ev) own 44 v (yx k M)::As) w:=by
 refine h.impl (i:=0) rfl (fun f hA=>?_)
 unfold yK at hA hv
 split at hA
 ·rename_i he
  rw[if_pos he]at hv
  rw[hv rfl,List.isEmpty_iff.1 he]
  exact RowE.nil _ _ _ _
 ·exact hA
theorem Vn {v:Value}{k:Int×Int×Int}(h:Sep G W (RowE (α:=Ev) own 44 v (yx k M)::As) w):Sep G W (Xs E2 v (yK M k)::As) w:=by
 refine h.impl (i:=0) rfl (fun f hA=>?_)
 unfold yK
 split
 ·exact trivial
 ·exact hA
def stL (d:Dcl)(k:Int×Int)(M:List Ent):List Cel:=if yh k M=0 then[]else zO d k M
theorem VI {v:Value}{k:Int×Int}(h:Sep G W (Xs E1 v (zw d M k)::As) w)(hv:zw d M k=none→v=Qr): ∃vc,v=.agg #[.int .i64 ((yh k M:Nat):Int),vc]∧Sep G W (RowE (α:=Cel) own 140 vc (stL d k M)::As) w:=by
 unfold zw at h hv
 unfold stL
 by_cases he:yh k M=0
 ·rw[if_pos he]at hv h
  rw[if_pos he]
  refine⟨.slice none 0 0,by rw[hv rfl,he];rfl,h.impl (i:=0) rfl (fun f _=>RowE.nil _ _ _ _)⟩
 ·rw[if_neg he]at h
  rw[if_neg he]
  obtain⟨f,⟨vc,h1,h2⟩,_⟩:=h.get (i:=0) rfl
  refine⟨vc,h1,h.impl (i:=0) rfl (fun f hA=>?_)⟩
  obtain⟨vc',h3,h4⟩:=hA
  rw[h1]at h3
  simp only[Value.agg.injEq,Array.mk.injEq,List.cons.injEq,and_true,true_and]at h3
  rw[h3]
  exact h4
theorem Ka {vc:Value}{k:Int×Int}(h:Sep G W (RowE (α:=Cel) own 140 vc (stL d k M)::As) w):Sep G W (Xs E1 (.agg #[.int .i64 ((yh k M:Nat):Int),vc]) (zw d M k)::As) w:=by
 refine h.impl (i:=0) rfl (fun f hA=>?_)
 unfold zw
 unfold stL at hA
 by_cases he:yh k M=0
 ·rw[if_pos he];exact trivial
 ·rw[if_neg he]at hA⊢;exact⟨vc,rfl,hA⟩
theorem Jr {vc:Value}{n:Nat}{c:List Cel}(h:Sep G W (RowE (α:=Cel) own 140 vc c::As) w):Sep G W (E1 (.agg #[.int .i64 ((n:Nat):Int),vc]) (n,c)::As) w:=h.impl (i:=0) rfl (fun f hA=>⟨vc,rfl,hA⟩)
end
end
end Go.Proofs.YtbcdijeggfoabaaGreatDoor
