import Derived.Test.YtbcdijeggfoabaaGreatDoorZ10
set_option maxRecDepth 8000
set_option maxHeartbeats 4000000
set_option linter.unusedSimpArgs false
set_option linter.unusedVariables false
set_option linter.unusedSectionVars false
set_option linter.deprecated false
open Go.Proofs.Tryz renaming isAgg3→kT,sizeOf44→lT,sizeOf41→mT,sizeOf74→nT,isAgg41→oT,isAgg44→pT,sizeOf3→qT,underlying42→rT,sizeOf77→sT,sizeOf96→tT,isAgg26→uT,underlying26→vT,isAgg56→wT,isAgg22→kR,underlying22→lR,underlying56→mR,isAgg42→nR,isAgg74→oR,sizeOf106→pR,results27→qR,isAgg77→rR,zeroValue44→sR,results97→tR,zeroValue96→uR,call56→vR,results72→wR,zeroValue77→kY,results46→lY,isAgg106→mY,call47→nY,isAgg4→oY,isAgg75→pY,zeroValue41→qY,isAgg72→rY,underlying72→sY,call48→tY,isAgg96→uY,results51→vY,results71→wY
namespace Go.Proofs.YtbcdijeggfoabaaGreatDoor
variable {G:Nat→Prop}{W w:World}{Rs:List HP}
section
open Go.Proofs Go.RowKit
def Ran (d:Dcl)(L:List Ent):Prop:= ∃l,L=zq d l
theorem Ran.inv {d:Dcl}{L:List Ent}(hd:DclOk d)(h:Ran d L):Inv d L:=by
 obtain⟨l,rfl⟩:=h
 exact Inv.run hd l
theorem Ran.zero {d:Dcl}{L:List Ent}{ty no:Int}(h:Ran d L)(ht:ty<0∨(d.types.length:Int)≤ty):yn (ty,no) L=0:=by
 obtain⟨l,rfl⟩:=h
 by_cases hv:yn (ty,no) (zq d l)=0
 ·exact hv
 ·have:=zcX l hv
  omega
theorem Ran.done {d:Dcl}{L:List Ent}{ty no:Int}(hd:DclOk d)(h:Ran d L){i:Nat}(hi:i<L.length)(hon:onL (ty,no) (L.getD i default)=true):YU (xR d ty) (zM d (ty,no) (L.take i)) (L.getD i default).ev.field (L.getD i default).ev.op (L.getD i default).ev.arg∧((zM d (ty,no) (L.take i)).getD (L.getD i default).ev.field.toNat default).set.length≤1000:=by
 obtain⟨l,rfl⟩:=h
 rw[xH]at hi
 have hat:=Jx (d:=d) hi
 have hev:=zdE (d:=d) hi
 unfold onL at hon
 simp only[Bool.and_eq_true,Bool.not_eq_true',decide_eq_true_eq]at hon
 obtain⟨hv,h1,h2⟩:=hon
 subst h1 h2
 rw[hat]at hv
 obtain⟨hf,hm⟩:=XX (d:=d) (L:=(zq d l).take i) (e:=l.getD i default) hv
 obtain⟨f1,f2,hft⟩:=ZM hf
 rw[hev]
 have hR:Right (xR d (l.getD i default).typ) (zM d ((l.getD i default).typ,(l.getD i default).agg) ((zq d l).take i)):=by rw[←zan];exact Inv.run hd _ _ _ f1 f2
 exact⟨hft.ask (hd.typ _ (by omega)) hR,Ky hR hft.lo hft.hi⟩
theorem zde {d:Dcl}{k:Int×Int}{L:List Ent}{j:Nat}(hj:j<L.length)(h:onL k (L.getD j default)=true):zM d k (L.take (j+1))=doL (xR d k.1) (zM d k (L.take j)) (L.getD j default).ev.field (L.getD j default).ev.op (L.getD j default).ev.arg:=by
 have e:L.take (j+1)=L.take j++[L.getD j default]:=by rw[List.take_add_one,List.getElem?_eq_getElem hj,List.getD_eq_getElem?_getD,List.getElem?_eq_getElem hj];rfl
 rw[e,xX,if_pos h]
theorem zdx {d:Dcl}{k:Int×Int}{L:List Ent}{j:Nat}(hj:j<L.length)(h:onL k (L.getD j default)=false):zM d k (L.take (j+1))=zM d k (L.take j):=by
 have e:L.take (j+1)=L.take j++[L.getD j default]:=by rw[List.take_add_one,List.getElem?_eq_getElem hj,List.getD_eq_getElem?_getD,List.getElem?_eq_getElem hj];rfl
 rw[e,xX,h];rfl
theorem Yh {d:Dcl}{k:Int×Int}{L:List Ent}(h:yn k L=0):yR d k L=⟨0,[]⟩∧(zt d L k).isSome=false∧stL d k L=[]:=by
 have h1:stL d k L=[]:=if_pos h
 refine⟨?_,?_,h1⟩
 ·unfold yR;rw[h1,h];rfl
 ·unfold zt;rw[if_pos h];rfl
theorem WT {d:Dcl}{k:Int×Int}{L:List Ent}(h: ¬yn k L=0):(zt d L k).isSome=true∧stL d k L=zM d k L:=by
 refine⟨?_,if_neg h⟩
 unfold zt;rw[if_neg h];rfl
theorem Vn {b:Nat}{d:Dcl}{L:List Ent}(hb:(RefV b d L).p W G){ty:Int}(hty:InR ty){no:Int}(hno:InR no)(hS0:Sep G W Rs w)(hd:DclOk d)(hrl:Ran d L)(hml:L.length≤1000000):Ret Tryz.prog 46 [.pointer (some ⟨b,0,none⟩),.int .i64 (ty),.int .i64 (no)] w (fun r w'=> ∃(v:Value),r=(.tuple #[.agg ((yR d (ty,no) L).cells v).toArray,.bool ((zt d L (ty,no)).isSome)]:Value)∧Sep G W ((RowE (α:=Cel) own 140 v (stL d (ty,no) L))::Rs) w'):=by
 refine zm Tryz.func46 rfl rfl ?_
 obtain⟨g,vp2,h,K,M,bw,y⟩:=RefV.sh hb
 let bz:=zV W (sb g) (so g+ty.toNat*1+0)
 let bA:=(d.types.getD ty.toNat default).cells bz
 have hsm8:d.types.length*24≤140737488355328:=M.small
 have hsm9:d.projs.length*40≤140737488355328:=bw.small
 have hsm10:L.length*120≤140737488355328:=y.small
 refine za (R0 fun _=>st (zv kY ?_))
 intro w13 z aV
 have u:=hS0.new aV
 refine st (aS (.bool false) (zb (za (za (zy kr (st (mV (Iv ty) (st (zI rfl rfl (st (mV (.bool (decide (ty<0))) (stc (V:=Iv ty) rfl rfl (fun aW=>?_) ?_))))))))))))
 have hl16:=fD aW
 exact mV (Iv ty) rflB
 refine stc (V:=Ix b 0) rfl rfl (fun aX=>?_) ?_
 have hl18:=fD aX
 exact mV (Ix b 0) rflB
 refine stc (V:=Ix b 0) rfl rfl (fun ac=>?_) ?_
 have hl20:=fD ac
 exact zx (ifpC ac) rflB
 refine stc (V:=Ix b 0) rfl rfl (fun ad=>?_) ?_
 have hl22:=fD ad
 exact YA (ifpC ad) rflB
 refine stc (V:=Ix b 0) rfl rfl (fun ae=>?_) ?_
 have hl24:=fD ae
 exact yJ (ifpC ae) rflB
 refine stc (V:=g) rfl rfl (fun af=>?_) ?_
 have hl26:=fD af
 exact lD g kR (ifpC af) (zd (u.gblk K) rfl) rflB
 refine stc (V:=Iw d.types.length) rfl rfl (fun ag=>?_) ?_
 have hl28:=fD ag
 exact zS lR (ifpC ag) M.sl rflB
 refine stc (V:=.bool (decide (((d.types.length:Nat):Int)≤ty))) rfl rfl (fun P=>?_) ?_
 have hl30:=fD P
 exact xh (ifpC P) (ifpC P) rflB
 refine st (zz rfl (fun hbp=>(ifpC hbp)) (zb ?_))
 cases Q:(decide (ty<0))||(decide (((d.types.length:Nat):Int)≤ty))
 have hc31r:=Q
 try simp only[zh]at Q
 refine zf rfl (zp (za (R0 fun _=>st (mV (Ix b 0) (st (zx rfl (st (YA rfl (st (yJ rfl (st (lD g kR rfl (zd (u.gblk K) rfl) (st (mV (Iv ty) ?_))))))))))))))
 have hi32:ty.toNat<d.types.length:=bo
 refine st (zA lR nT rfl M.sl rfl ⟨by omega,by omega⟩ ?_)
 have ah:ty.toNat<d.types.length:=bo
 obtain⟨ax,m,N⟩:=M.typD ah
 have hsm35:((d.types.getD ty.toNat default).fields).length*48≤140737488355328:=m.small
 have ay:=u.cells ax (M.foot (ne_of_lt ah))
 refine st (ze oR nT rfl rfl ay (st (zv Tryz.zeroValue74 ?_)))
 intro w39 ai aY
 have aj:=u.new aY
 refine stn (zr (v:=.agg bA.toArray) nT rfl rfl (aj.b0) (zZ ⟨m.sl.one,zj⟩) yqc rfl ?_)
 intro w41 aZ
 have ak:=aj.pt0 aZ
 refine zb (za (R0 fun _=>st (ze oR nT rfl rfl (zi (ak.b0)) (st (cL nY (Xv m N ak) ?_)))))
 rintro F w45 ⟨_,rfl,al⟩
 have R:=al.r0
 have hr47s:_*32≤_:=R.2
 refine st (zQ (parts':=[(1,F)]) (v:=.agg #[Iv 0,F]) rfl (by obtain⟨_,_,ba,_⟩:=R.1;rw[show F=Value.slice _ _ _ from ba];simp[Instr.build,Instr.fill,go_sem,Zd]) (st (zv kY ?_)))
 intro w51 am bb
 have an:=al.new bb
 refine stn (zr (v:=.agg #[Iv 0,F]) sT rfl rfl (an.b0) (zZ ⟨rfl,R.1.one,zj⟩) yqc rfl ?_)
 intro w53 bc
 refine zb (za (za (R0 fun _=>st (aS (Iv 0) (zb (zu (yf (fun mq σ wq=> ∃(k:Nat) (vs:Value) (ρ:Env),mq=L.length-k∧σ=yo ρ [(0,Ix b 0),(1,Iv ty),(2,Iv no),(6,Ix z 0),(7,.bool false),(8,Ix ai 0),(9,Ix am 0),(10,Iw k)]∧(k≤L.length)∧Sep G W ((Blk am #[Iw (yn (ty,no) (L.take k)),vs] 77)::(RowE (α:=Cel) own 140 vs (zM d (ty,no) (L.take k)))::(Blk ai ((d.types.getD ty.toNat default).cells (zV W (sb g) (so g+ty.toNat*1+0))).toArray 74)::(Blk z #[Iv 0,(Iz)] 77)::Rs) wq) ⟨0,F,_,rfl,sSf,zY _,(an.pt0 bc)⟩ ?_)))))))
 rintro m57 σ58 w56 ⟨k,vs,ρl1,rfl,rfl,hkk,e⟩
 let p:=zV W (sb h) (so h+k*13+3)
 have bd:=e.r1
 have hr60s:_*32≤_:=bd.2
 have ao:=ZJ (ty,no) (L.take k)
 rw[List.length_take]at ao
 refine za (za (R0 fun _=>st (mV (Iw k) (st (mV (Ix b 0) (st (zx (b:=b) (o:=0) rfl (st (ZL rfl (st (lD h wT rfl (zd (e.gblk K) rfl) (st (zS (n:=L.length) mR rfl y.sl (st (zI (k:=.i64) (a:=((k:Nat):Int)) (b:=((L.length:Nat):Int)) rfl rfl (zb ?_))))))))))))))))
 cases A:decide (((k:Nat):Int)<((L.length:Nat):Int))
 have hc61r:=A
 have A:=fD A
 have hkn:L.take k=L:=List.take_of_length_le om
 try simp+zetaDelta only at e
 rw[hkn]at e ao
 refine zf rfl (yh (zX (za (za (R0 fun _=>st (Zr rfl (st (lD (Iw (yn (ty,no) L)) kT rfl (zd (e.b0) rfl) (st (zR rfl rfl (zb ?_)))))))))))
 cases B:decide (((yn (ty,no) L:Nat):Int)=0)
 have B:=fD B
 have l: ¬yn (ty,no) L=0:=by omega
 refine zf rfl (zp (za (R0 fun _=>st (ze rR sT rfl rfl (zi (e.b0)) ?_))))
 have ap:=e.r1
 refine stn (zr (v:=.agg #[Iw (yn (ty,no) L),vs]) sT rfl rfl (e.b3) (zZ ⟨rfl,ap.1.one,zj⟩) yqc rfl ?_)
 intro w63 be
 have aq:=e.pt3 be
 refine st (aS (.bool true) (zb (zo (xY lY rR sT rfl rfl (zi (aq.b3)) (show _=(.bool true:Value)from rfl) ?_))))
 have S:=aq.s4_b
 try simp+zetaDelta only at S
 rw[←(WT l).2]at S
 refine⟨vs,?_,S⟩
 rw[(WT l).1];unfold yR;rw[(WT l).2];rfl
 have B:=tD B
 have l:yn (ty,no) L=0:=by omega
 refine zg rfl (za (yy (by kernel_rfl) (fun _=>(st (zQ (parts':=[]) (v:=.agg #[Iv 0,(Iz)]) rfl (by simp+zetaDelta [Instr.build,Instr.fill,go_sem,Zd]) (stn (zr (v:=.agg #[Iv 0,(Iz)]) sT rfl rfl (e.b3) (zZ ⟨rfl,rfl,zj⟩) yqc rfl ?_)))))))
 intro bx bf
 have ar:=e.pt3 bf
 refine st (aS (.bool false) (zb (zo (xY lY rR sT rfl rfl (zi (ar.b3)) (show _=(.bool false:Value)from rfl) ?_))))
 have bg:Sep G W ((RowE (α:=Cel) own 140 Iz (stL d (ty,no) L))::(Blk am #[Iw (yn (ty,no) L),vs] 77)::(RowE own 140 vs (zM d (ty,no) L))::(Blk ai bA.toArray 74)::(Blk z #[Iv 0,(Iz)] 77)::Rs) bx:=(by rw[(Yh l).2.2];exact ar.rowNil own 140)
 refine⟨(Iz),?_,(bg.s5_a)⟩
 rw[(Yh l).1,(Yh l).2.1];rfl
 have A:=tD A
 refine zg rfl (zp (za (zu (za (R0 fun _=>st (mV (Ix b 0) (st (zx rfl (st (ZL rfl (st (lD h wT rfl (zd (e.gblk K) rfl) (st (mV (Iw k) ?_))))))))))))))
 have bh:k<L.length:=bo
 refine st (zn (k:=13) mR tT rfl y.sl rfl bh (st (YP rfl ?_)))
 have T:k<L.length:=bo
 obtain⟨X,H,C⟩:=y.entD T
 have az:=e.cells X (y.foot (ne_of_lt T))
 refine st (ze (cs:=[Iv ((L.getD k default).ev.origin),Iv ((L.getD k default).ev.seq),Iv ((L.getD k default).ev.lam),p,Iv ((L.getD k default).ev.typ),Iv ((L.getD k default).ev.agg),Iv ((L.getD k default).ev.field),Iv ((L.getD k default).ev.op),Iv ((L.getD k default).ev.arg),Iv ((L.getD k default).ev.key)]) pT lT rfl rfl (CellsAt.sub az 0 (cs2:=[Iv ((L.getD k default).ev.origin),Iv ((L.getD k default).ev.seq),Iv ((L.getD k default).ev.lam),p,Iv ((L.getD k default).ev.typ),Iv ((L.getD k default).ev.agg),Iv ((L.getD k default).ev.field),Iv ((L.getD k default).ev.op),Iv ((L.getD k default).ev.arg),Iv ((L.getD k default).ev.key)]) rfl) (st (zv sR ?_)))
 intro w80 aU bi
 have au:=e.new bi
 refine stn (zr (v:=.agg (((L.getD k default).ev).cells p).toArray) lT rfl rfl (au.b0) (zZ ⟨rfl,rfl,rfl,H.sl.one,rfl,rfl,rfl,rfl,rfl,rfl,zj⟩) yqc rfl ?_)
 intro w82 bj
 have f:=au.pt0 bj
 refine zb (za (zy kr (st (mV (Ix b 0) (st (zx rfl (st (ZL rfl (st (lD h wT rfl (zd (f.gblk K) rfl) (st (mV (Iw k) ?_))))))))))))
 have bk:k<L.length:=bo
 refine st (zn (k:=13) mR tT rfl y.sl rfl bk (st (WM rfl ?_)))
 have aA:=f.cells X (y.foot (ne_of_lt T))
 refine st (lD (.bool ((L.getD k default).void)) oY rfl (aA.get (j:=10) rfl) (st (yw rfl (st (mV (.bool (!((L.getD k default).void))) (stc (V:=Ix aU 4) rfl rfl (fun bl=>?_) ?_))))))
 have bm:=bl
 try simp only[zh]at bm
 exact xL rfl rflB
 refine stc (V:=Iv (((L.getD k default).ev).typ)) rfl rfl (fun av=>?_) ?_
 have bn:=av
 try simp only[zh]at bn
 exact lD (Iv (((L.getD k default).ev).typ)) kT (ifpC av) (zd (f.b0) rfl) rflB
 refine stc (V:=Iv ty) rfl rfl (fun bp=>?_) ?_
 have bq:=bp
 try simp only[zh]at bq
 exact mV (Iv ty) rflB
 refine stc (V:=.bool (decide ((((L.getD k default).ev).typ)=ty))) rfl rfl (fun U=>?_) ?_
 have br:=U
 try simp only[zh]at br
 exact zR (ifpC U) (ifpC U) rflB
 refine st (zF rfl (fun hbp=>(ifpC hbp)) (st (mV (.bool ((!((L.getD k default).void))&&(decide ((((L.getD k default).ev).typ)=ty)))) (stc (V:=Ix aU 5) rfl rfl (fun bs=>?_) ?_))))
 have bt:=bs
 try simp only[zh]at bt
 exact Ye rfl rflB
 refine stc (V:=Iv (((L.getD k default).ev).agg)) rfl rfl (fun aw=>?_) ?_
 have bu:=aw
 try simp only[zh]at bu
 exact lD (Iv (((L.getD k default).ev).agg)) kT (ifpC aw) (zd (f.b0) rfl) rflB
 refine stc (V:=Iv no) rfl rfl (fun aB=>?_) ?_
 have aC:=aB
 try simp only[zh]at aC
 exact mV (Iv no) rflB
 refine stc (V:=.bool (decide ((((L.getD k default).ev).agg)=no))) rfl rfl (fun I=>?_) ?_
 have aD:=I
 try simp only[zh]at aD
 exact zR (ifpC I) (ifpC I) rflB
 refine st (zF rfl (fun hbp=>(ifpC hbp)) (zb ?_))
 cases x:((!((L.getD k default).void))&&(decide ((((L.getD k default).ev).typ)=ty)))&&(decide ((((L.getD k default).ev).agg)=no))
 have D:=x
 try simp only[zh]at x
 have honfalse:=onL_raw.trans D
 refine zf rfl (zp (R0 fun _=>st (mV (Iw k) ?_)))
 have aE:InR ((k+1:Nat):Int):=bo
 refine st (zU (r:=((k+1:Nat):Int)) rfl rfl (by rw[show(((k:Nat):Int)+1:Int)=((k+1:Nat):Int)from bo];exact zJ aE) (st (aS (Iw (k+1)) (zb ?_))))
 have q:=f.s5_bcde
 have aF:=ver_f om honfalse
 try simp+zetaDelta only at q
 rw[←aF]at q
 have aG:zM d (ty,no) (L.take (k+1))=(zM d (ty,no) (L.take k)):=zdx om honfalse
 try simp+zetaDelta only at q
 rw[←aG]at q
 exact⟨_,by omega,k+1,vs,_,rfl,sSf,by omega,q⟩
 have D:=x
 try simp only[zh]at x
 have hontrue:=onL_raw.trans D
 have hdn:=Ran.done hd hrl om hontrue
 refine zg rfl (za (R0 fun _=>st (ze oR nT rfl rfl (zi (f.b3)) (st (xu rfl (st (lD vs pY rfl (zd (f.b1) rfl) (st (xN rfl (st (lD (Iv (((L.getD k default).ev).field)) kT rfl (zd (f.b0) rfl) (st (xP rfl (st (lD (Iv (((L.getD k default).ev).op)) kT rfl (zd (f.b0) rfl) (st (Zc rfl (st (lD (Iv (((L.getD k default).ev).arg)) kT rfl (zd (f.b0) rfl) ?_)))))))))))))))))))
 obtain⟨G110,aH,aI,aJ,aK⟩:=(f.mv2).lend
 have O:=RowE.rd aH
 refine st (cL Tryz.call84 (zch (zk m aI) N O C.ev.field C.ev.op C.ev.arg aJ (hdn.1) (hdn.2)) ?_)
 rintro E w118 ⟨_,rfl,Y⟩
 have Z:=Y.r0
 have aa:=aK _ _ Y
 refine st (xu rfl (stn (yr (v:=E) Tryz.sizeOf75 rfl rfl (aa.b3) Z.1.one rfl rfl ?_)))
 intro w122 aL
 have J:=aa.pt3 aL
 refine zb (R0 fun _=>st (Zr rfl (st (lD (Iw (yn (ty,no) (L.take k))) kT rfl (zd (J.b3) rfl) ?_))))
 have aM:InR ((yn (ty,no) (L.take k)+1:Nat):Int):=bo
 refine st (zU (r:=((yn (ty,no) (L.take k)+1:Nat):Int)) rfl rfl (by rw[show(((yn (ty,no) (L.take k):Nat):Int)+1:Int)=((yn (ty,no) (L.take k)+1:Nat):Int)from bo];exact zJ aM) (st (Zr rfl (stn (yr (v:=Iw (yn (ty,no) (L.take k)+1)) qT rfl rfl (J.b3) rfl rfl rfl ?_)))))
 intro w126 aN
 refine zb (R0 fun _=>st (mV (Iw k) ?_))
 have aO:InR ((k+1:Nat):Int):=bo
 refine st (zU (r:=((k+1:Nat):Int)) rfl rfl (by rw[show(((k:Nat):Int)+1:Int)=((k+1:Nat):Int)from bo];exact zJ aO) (st (aS (Iw (k+1)) (zb ?_))))
 have s:=(J.pt3 aN).s6_dbef
 have aP:=ver_t om hontrue
 try simp+zetaDelta only at s
 rw[←aP]at s
 have aQ:zM d (ty,no) (L.take (k+1))=(doL (d.types.getD ty.toNat default) (zM d (ty,no) (L.take k)) (((L.getD k default).ev).field) (((L.getD k default).ev).op) (((L.getD k default).ev).arg)):=zde om hontrue
 try simp+zetaDelta only at s
 rw[←aQ]at s
 exact⟨_,by omega,k+1,E,_,rfl,sSf,by omega,s⟩
 try simp only[zh]at Q
 have l:yn (ty,no) L=0:=hrl.zero om
 refine zg rfl (za (yy (by kernel_rfl) (fun _=>(st (zQ (parts':=[]) (v:=.agg #[Iv 0,(Iz)]) rfl (by simp+zetaDelta [Instr.build,Instr.fill,go_sem,Zd]) (stn (zr (v:=.agg #[Iv 0,(Iz)]) sT rfl rfl (u.b0) (zZ ⟨rfl,rfl,zj⟩) yqc rfl ?_)))))))
 intro bv aR
 have ab:=u.pt0 aR
 refine st (aS (.bool false) (zb (zo (xY lY rR sT rfl rfl (zi (ab.b0)) (show _=(.bool false:Value)from rfl) ?_))))
 have aT:Sep G W ((RowE (α:=Cel) own 140 Iz (stL d (ty,no) L))::(Blk z #[Iv 0,(Iz)] 77)::Rs) bv:=(by rw[(Yh l).2.2];exact ab.rowNil own 140)
 refine⟨(Iz),?_,(aT.s2_a)⟩
 rw[(Yh l).1,(Yh l).2.1];rfl
theorem rj_raw {d:Dcl}{e:Ev}{y:Ent}:rJ d e y=(((((!y.void)&&decide (y.ev.typ=e.typ))&&decide (y.ev.agg=e.agg))&&decide (y.ev.field=e.field))&&xt ((xR d e.typ).fields.getD e.field.toNat default) y.ev e):=by
 unfold rJ on3
 cases y.void<;>simp[Bool.decide_and,Bool.and_assoc]
theorem Uh {d:Dcl}{e:Ev}{L:List Ent}:(yG (e.typ,e.agg,e.field) L).find? (fun x=>xt ((xR d e.typ).fields.getD e.field.toNat default) x e)=(L.find? (rJ d e)).map (·.ev):=by
 unfold yG
 rw[YC]
 rfl
theorem zee {d:Dcl}{e:Ev}{L:List Ent}{k:Nat}(h:xb d e.typ e.field e.op e.arg=0)(hk:k<L.length)(h0: ∀i,i<k→rJ d e (L.getD i default)=false)(h1:rJ d e (L.getD k default)=true):ye d L e=(true,(L.getD k default).ev.origin,(L.getD k default).ev.seq):=by
 unfold ye
 rw[if_neg (by simpa using h),Uh,QQ hk h1 h0]
 rfl
theorem zcu {d:Dcl}{e:Ev}{L:List Ent}(h:xb d e.typ e.field e.op e.arg=0)(h0: ∀i,i<L.length→rJ d e (L.getD i default)=false):ye d L e=(!decide (yN (xR d e.typ) (zM d (e.typ,e.agg) L) e.field e.op e.arg=0),0,0):=by
 unfold ye
 rw[if_neg (by simpa using h),Uh,zcw h0]
 show(if ¬_=0 then _ else _)=_
 by_cases hm:yN (xR d e.typ) (zM d (e.typ,e.agg) L) e.field e.op e.arg=0
 ·rw[if_neg (by simpa using hm),decide_eq_true hm];rfl
 ·rw[if_pos hm,decide_eq_false hm];rfl
set_option maxHeartbeats 8000000 in
theorem JU {b:Nat}{d:Dcl}{L:List Ent}(hb:(RefV b d L).p W G){e:Ev}{de0:Value}(hde0:RdS W G de0 e.deps)(oe:e.Ok)(hS0:Sep G W Rs w)(hd:DclOk d)(hrl:Ran d L)(hml:L.length≤1000000):Ret Tryz.prog 97 [.pointer (some ⟨b,0,none⟩),.agg (e.cells de0).toArray] w (fun r w'=>r=(.tuple #[.bool ((ye d L e).1),.agg #[.int .i64 ((ye d L e).2.1),.int .i64 ((ye d L e).2.2)]]:Value)∧(InR (ye d L e).2.1∧InR (ye d L e).2.2)∧Sep G W Rs w'):=by
 have hde0s:_*8≤_:=hde0.small
 refine zm Tryz.func97 rfl rfl ?_
 obtain⟨g,bu,s,X,u,gi,am⟩:=RefV.sh hb
 let gI:=Ix (sb g) (so g+e.typ.toNat*1)
 let ck:=zV W (sb g) (so g+e.typ.toNat*1+0)
 let gK:=(d.types.getD e.typ.toNat default).cells ck
 let p:=zV W (sb (zV W (sb g) (so g+e.typ.toNat*1+0))) (so (zV W (sb g) (so g+e.typ.toNat*1+0))+e.field.toNat*4+3)
 let ci:=(((d.types.getD e.typ.toNat default).fields).getD e.field.toNat default).cells p
 have hsm8:d.types.length*24≤140737488355328:=u.small
 have hsm9:d.projs.length*40≤140737488355328:=gi.small
 have hsm10:L.length*120≤140737488355328:=am.small
 refine za (R0 fun _=>st (zT rfl ?_))
 intro w13 m gm
 let gH:=Blk m (e.cells de0).toArray 44
 refine st (aS (.bool false) (st (zv qY ?_)))
 intro w17 B gn
 let gJ:=Blk B #[Iv 0,Iv 0] 41
 refine zb (za (za ?_))
 refine WD4 ((fun TT C=>WF [fun vals A=>Sep G W (C::TT) A,fun vals A=>(vals 12=(Iv (xb d e.typ e.field e.op e.arg):Value))∧Sep G W (C::TT) A]) (gH::Rs) gJ) (AF [Vl 0 (Ix b 0),Vl 1 (Ix b 0),Vl 2 (Ix b 0),Vl 3 (.agg (d.cells g bu).toArray),Vl 4 (Ix m 4),Vl 5 (Iv (e.typ)),Vl 6 (Ix m 6),Vl 7 (Iv (e.field)),Vl 8 (Ix m 7),Vl 9 (Iv (e.op)),Vl 10 (Ix m 8),Vl 11 (Iv (e.arg)),fun _=>True,Vl 13 (.bool (!decide ((xb d e.typ e.field e.op e.arg)=0)))]) [[],[0],[0,1],[0,1,2],[],[4],[],[6],[],[8],[],[10],(rg 12),(rg 13)] [12] [(0,0),(0,0),(0,0),(0,0),(0,0),(0,0),(0,0),(0,0),(0,0),(0,0),(0,0),(0,0),(0,0),(1,1)] ((hS0.new gm).new gn) ⟨fun _ _ _ _ _ _ _=>obl rfl (mV (Ix b 0) dR),fun _ _ _ _ _ _ eE=>obl rfl (zx (eE 0 dc) dR),fun _ _ _ _ _ _ eF=>obl rfl (YA (eF 1 dc) dR),?_,fun _ _ _ _ _ _ _=>obl rfl (xL rfl dR),ob1 0 fun _ _ (eG:Sep _ _ _ _) eH=>obl rfl (lD (Iv (e.typ)) kT (eH 4 dc) (zd (eG.b1) rfl) dR),fun _ _ _ _ _ _ _=>obl rfl (xN rfl dR),ob1 0 fun _ _ (eI:Sep _ _ _ _) eJ=>obl rfl (lD (Iv (e.field)) kT (eJ 6 dc) (zd (eI.b1) rfl) dR),fun _ _ _ _ _ _ _=>obl rfl (xP rfl dR),ob1 0 fun _ _ (eK:Sep _ _ _ _) eL=>obl rfl (lD (Iv (e.op)) kT (eL 8 dc) (zd (eK.b1) rfl) dR),fun _ _ _ _ _ _ _=>obl rfl (Zc rfl dR),ob1 0 fun _ _ (eM:Sep _ _ _ _) eN=>obl rfl (lD (Iv (e.arg)) kT (eN 10 dc) (zd (eM.b1) rfl) dR),?_,?_,zj⟩ ?_
 refine ob1 0 fun _ _ (eO:Sep _ _ _ _) eP=>(obl rfl ?_)
 have ok154:Dcl.Ok d:=⟨⟩
 exact ze Tryz.isAgg25 Tryz.sizeOf25 rfl (eP 2 dc) (CellsAt.sub (zi (eO.gblk X)) 0 rfl) dR
 refine ob1 0 fun vals _ (eQ:Sep _ _ _ _) Y=>(obl rfl ((zO (vals:=[.agg (d.cells g bu).toArray,Iv (e.typ),Iv (e.field),Iv (e.op),Iv (e.arg)]) rfl (yK ⟨(Y 3 dc),(Y 5 dc),(Y 7 dc),(Y 9 dc),(Y 11 dc),zj⟩) Tryz.call83 (VX u gi (⟨⟩:Dcl.Ok d) oe.typ oe.field oe.op oe.arg eQ) ?_)))
 rintro _ w116 ⟨rfl,eR⟩
 exact fun E N I=>⟨(zG N eR),zj⟩
 refine ob1 1 fun _ _ eS _=>?_
 obtain⟨bv,hS217⟩:=eS
 exact obl rfl (yj bv rfl dR)
 intro vals w218 eT eU
 obtain⟨bv,aD⟩:=eT
 have go:=eU 13 dc
 refine yd (kv:=[(0,Ix b 0),(1,.agg (e.cells de0).toArray),(3,Ix m 0),(4,.bool false),(5,Ix B 0),(25,.bool (!decide ((xb d e.typ e.field e.op e.arg)=0)))]) ⟨rfl,rfl,rfl,rfl,rfl,(by exact go),zj⟩ (fun ρw218=>(zb ?_))
 cases F: !decide ((xb d e.typ e.field e.op e.arg)=0)
 have hc223r:=F
 have F:=zB F
 have hfo:=ZM F
 have hfz:=F
 have gj:=hfo.1;have gk:=hfo.2.1;have hft:=hfo.2.2
 have hfl:=hft.lo;have hfh:=hft.hi
 refine zf rfl (zp (za ?_))
 refine WD4 ((fun TT C=>WF [fun vals A=>Sep G W (C::TT) A,fun vals A=> ∃q,(vals 14=(Ix q 0:Value))∧Sep G W ((Blk q #[Iv 0,Iv 0,.bool false,(Iz)] 106)::C::TT) A,fun vals A=> ∃q,(vals 14=(Ix q 0:Value))∧Sep G W ((Blk q ci.toArray 106)::C::TT) A]) (gH::Rs) gJ) (AF [Vl 0 (Ix b 0),Vl 1 (Ix b 0),Vl 2 (Ix b 0),Vl 3 (Ix b 0),Vl 4 g,Vl 5 (Ix m 4),Vl 6 (Iv (e.typ)),Vl 7 gI,Vl 8 gI,Vl 9 ck,Vl 10 (Ix m 6),Vl 11 (Iv (e.field)),Vl 12 (Ix (sb ck) (so ck+e.field.toNat*4)),Vl 13 (.agg ci.toArray),fun _=>True,fun _=>True]) [[],[0],[0,1],[0,1,2],(rg 4),[],[5],(rg 7),(rg 8),(rg 9),[],[10],(rg 12),(rg 13),[],(rg 15)] [14,15] [(0,1),(0,1),(0,1),(0,1),(0,1),(0,1),(0,1),(0,1),(0,1),(0,1),(0,1),(0,1),(0,1),(0,1),(0,0),(1,1)] aD ⟨fun _ _ _ _ _ _ _=>obl rfl (mV (Ix b 0) dR),fun _ _ _ _ _ _ eV=>obl rfl (zx (eV 0 dc) dR),fun _ _ _ _ _ _ eW=>obl rfl (YA (eW 1 dc) dR),fun _ _ _ _ _ _ eX=>obl rfl (yJ (eX 2 dc) dR),?_,fun _ _ _ _ _ _ _=>obl rfl (xL rfl dR),?_,?_,fun _ _ _ _ _ _ eY=>obl rfl (xi (eY 7 dc) dR),?_,fun _ _ _ _ _ _ _=>obl rfl (xN rfl dR),?_,?_,?_,?_,?_,zj⟩ ?_
 refine fun aE _ _ gp gq bw bx=>?_
 have hkk:=xz gp gq
 rcases hkk with rfl|rfl
 have eZ:=bw
 exact obl rfl (lD g kR (bx 3 dc) (zd (eZ.gblk X) rfl) dR)
 obtain⟨q,D,fa⟩:=bw
 exact obl rfl (lD g kR (bx 3 dc) (zd (fa.gblk X) rfl) dR)
 refine fun aF _ _ gr gs bz bA=>?_
 have hkk:=xz gr gs
 rcases hkk with rfl|rfl
 have fb:=bz
 exact obl rfl (lD (Iv (e.typ)) kT (bA 5 dc) (zd (fb.b1) rfl) dR)
 obtain⟨q,D,fc⟩:=bz
 exact obl rfl (lD (Iv (e.typ)) kT (bA 5 dc) (zd (fc.b2) rfl) dR)
 refine fun aG _ _ gt gu bB ah=>?_
 have hkk:=xz gt gu
 rcases hkk with rfl|rfl
 have hS436:Sep _ _ _ _:=bB
 refine obl rfl ?_
 have hi439:e.typ.toNat<d.types.length:=bo
 exact zA lR nT (ah 4 dc) u.sl (ah 6 dc) ⟨by omega,by omega⟩ dR
 obtain⟨q,D,hS440⟩:=bB
 refine obl rfl ?_
 have hi443:e.typ.toNat<d.types.length:=bo
 exact zA lR nT (ah 4 dc) u.sl (ah 6 dc) ⟨by omega,by omega⟩ dR
 refine fun aH _ _ gv gw bC bD=>?_
 have hkk:=xz gv gw
 rcases hkk with rfl|rfl
 have fd:=bC
 refine obl rfl ?_
 have bE:e.typ.toNat<d.types.length:=bo
 obtain⟨cx,bm,hoke459⟩:=u.typD bE
 have hsm461:((d.types.getD e.typ.toNat default).fields).length*48≤140737488355328:=bm.small
 have cy:=fd.cells cx (u.foot (ne_of_lt bE))
 exact lD ck rY (bD 8 dc) (cy.get (j:=0) rfl) dR
 obtain⟨q,D,fe⟩:=bC
 refine obl rfl ?_
 have bF:e.typ.toNat<d.types.length:=bo
 obtain⟨cz,bn,hoke465⟩:=u.typD bF
 have hsm467:((d.types.getD e.typ.toNat default).fields).length*48≤140737488355328:=bn.small
 have cC:=fe.cells cz (u.foot (ne_of_lt bF))
 exact lD ck rY (bD 8 dc) (cC.get (j:=0) rfl) dR
 refine fun aI _ _ gx gy bG bH=>?_
 have hkk:=xz gx gy
 rcases hkk with rfl|rfl
 have ff:=bG
 exact obl rfl (lD (Iv (e.field)) kT (bH 10 dc) (zd (ff.b1) rfl) dR)
 obtain⟨q,D,fg⟩:=bG
 exact obl rfl (lD (Iv (e.field)) kT (bH 10 dc) (zd (fg.b2) rfl) dR)
 refine fun aJ _ _ gz gA bI ai=>?_
 have hkk:=xz gz gA
 rcases hkk with rfl|rfl
 have fh:=bI
 refine obl rfl ?_
 have bJ:e.typ.toNat<d.types.length:=bo
 obtain⟨cD,an,hoke494⟩:=u.typD bJ
 have hsm496:((d.types.getD e.typ.toNat default).fields).length*48≤140737488355328:=an.small
 have hcw497:=fh.cells cD (u.foot (ne_of_lt bJ))
 have hi498:e.field.toNat<((d.types.getD e.typ.toNat default).fields).length:=bo
 exact zA (k:=4) (i:=e.field) sY pR (ai 9 dc) an.sl (ai 11 dc) ⟨by omega,by omega⟩ dR
 obtain⟨q,D,fj⟩:=bI
 refine obl rfl ?_
 have bK:e.typ.toNat<d.types.length:=bo
 obtain⟨cE,ao,hoke502⟩:=u.typD bK
 have hsm504:((d.types.getD e.typ.toNat default).fields).length*48≤140737488355328:=ao.small
 have hcw505:=fj.cells cE (u.foot (ne_of_lt bK))
 have hi506:e.field.toNat<((d.types.getD e.typ.toNat default).fields).length:=bo
 exact zA (k:=4) (i:=e.field) sY pR (ai 9 dc) ao.sl (ai 11 dc) ⟨by omega,by omega⟩ dR
 refine fun aK _ _ gB gC bL bM=>?_
 have hkk:=xz gB gC
 rcases hkk with rfl|rfl
 have bN:=bL
 refine obl rfl ?_
 have bO:e.typ.toNat<d.types.length:=bo
 obtain⟨cF,R,hoke516⟩:=u.typD bO
 have hsm518:((d.types.getD e.typ.toNat default).fields).length*48≤140737488355328:=R.small
 have hcw519:=bN.cells cF (u.foot (ne_of_lt bO))
 have bP:e.field.toNat<((d.types.getD e.typ.toNat default).fields).length:=bo
 obtain⟨cG,bp,hoke515⟩:=R.fldD bP
 have hsm521:((((d.types.getD e.typ.toNat default).fields).getD e.field.toNat default).moves).length*32≤140737488355328:=bp.small
 have cH:=bN.cells cG (R.foot (ne_of_lt bP))
 exact ze mY pR rfl (bM 12 dc) cH dR
 obtain⟨q,D,bQ⟩:=bL
 refine obl rfl ?_
 have bR:e.typ.toNat<d.types.length:=bo
 obtain⟨cI,S,hoke526⟩:=u.typD bR
 have hsm528:((d.types.getD e.typ.toNat default).fields).length*48≤140737488355328:=S.small
 have hcw529:=bQ.cells cI (u.foot (ne_of_lt bR))
 have bS:e.field.toNat<((d.types.getD e.typ.toNat default).fields).length:=bo
 obtain⟨cJ,bq,hoke525⟩:=S.fldD bS
 have hsm531:((((d.types.getD e.typ.toNat default).fields).getD e.field.toNat default).moves).length*32≤140737488355328:=bq.small
 have cK:=bQ.cells cJ (S.foot (ne_of_lt bS))
 exact ze mY pR rfl (bM 12 dc) cK dR
 refine ob1 0 fun _ _ (fk:Sep _ _ _ _) _=>(obl rfl ((zv Tryz.zeroValue106 ?_)))
 intro w355 q fl
 exact fun E N I=>⟨(exiA q (zG N (fk.new fl))),zj⟩
 refine ob1 1 fun _ _ fm fn=>?_
 obtain⟨q,D,aj⟩:=fm
 refine obl rfl ?_
 have bT:e.typ.toNat<d.types.length:=bo
 obtain⟨cM,T,hoke369⟩:=u.typD bT
 have hsm371:((d.types.getD e.typ.toNat default).fields).length*48≤140737488355328:=T.small
 have hcw372:=aj.cells cM (u.foot (ne_of_lt bT))
 have bU:e.field.toNat<((d.types.getD e.typ.toNat default).fields).length:=bo
 obtain⟨cN,ap,hoke368⟩:=T.fldD bU
 have hsm374:((((d.types.getD e.typ.toNat default).fields).getD e.field.toNat default).moves).length*32≤140737488355328:=ap.small
 have hcw375:=aj.cells cN (T.foot (ne_of_lt bU))
 refine(zr (v:=.agg ci.toArray) pR D (fn 13 dc) (aj.b0) (zZ ⟨rfl,rfl,rfl,ap.sl.one,zj⟩) yqc rfl ?_)
 intro w366 fo
 exact fun E N I=>⟨(exiA q (zG ((I 14 dc).trans D) (aj.pt0 fo))),zj⟩
 intro vals w533 fp hA535
 obtain⟨q,D,fq⟩:=fp
 let gL:=Blk q ci.toArray 106
 refine yd (kv:=[(0,Ix b 0),(1,.agg (e.cells de0).toArray),(3,Ix m 0),(4,.bool false),(5,Ix B 0),(25,.bool false),(6,Ix q 0)]) ⟨rfl,rfl,rfl,rfl,rfl,rfl,(by exact D),zj⟩ (fun ρw533=>(zb (za (za (R0 fun _=>st (aS (Iv 0) (zb (zu ?_))))))))
 refine yf (fun mq σ A=> ∃k ρ,mq=L.length-k∧σ=yo ρ [(0,Ix b 0),(3,Ix m 0),(4,.bool false),(5,Ix B 0),(6,Ix q 0),(7,Iw k)]∧(k≤L.length)∧(∀i,i<k→rJ d e (L.getD i default)=false)∧Sep G W ((Blk q ((((d.types.getD e.typ.toNat default).fields).getD e.field.toNat default).cells (zV W (sb (zV W (sb g) (so g+e.typ.toNat*1+0))) (so (zV W (sb g) (so g+e.typ.toNat*1+0))+e.field.toNat*4+3))).toArray 106)::(Blk B #[Iv 0,Iv 0] 41)::(Blk m (e.cells de0).toArray 44)::Rs) A) ⟨0,_,rfl,sSf,zY _,(fun i h=>absurd h (yO i)),fq⟩ ?_
 rintro m538 σ539 w537 ⟨k,ρl1,rfl,rfl,hkk,hno,J⟩
 let gF:=zV W (sb s) (so s+k*13+3)
 let gG:=((L.getD k default).ev).cells gF
 refine za (za (R0 fun _=>st (mV (Iw k) (st (mV (Ix b 0) (st (zx rfl (st (ZL rfl (st (lD s wT rfl (zd (J.gblk X) rfl) (st (zS mR rfl am.sl (st (zI rfl rfl (zb ?_))))))))))))))))
 cases Z:decide (((k:Nat):Int)<((L.length:Nat):Int))
 have hc541r:=Z
 have Z:=fD Z
 have hT:=zcu hfz (fun i hi=>hno i om)
 refine zf rfl (yh (zX (za (R0 fun _=>st (mV (Ix b 0) (st (xL rfl (st (lD (Iv (e.typ)) kT rfl (zd (J.b2) rfl) (st (Ye rfl (st (lD (Iv (e.agg)) kT rfl (zd (J.b2) rfl) (st (cL Tryz.call46 (Vn hb oe.typ oe.agg J hd hrl hml) ?_)))))))))))))))
 rintro _ w543 ⟨l,rfl,bV⟩
 let cj:=(yR d (e.typ,e.agg) L).cells l
 have bW:=bV.r0
 have hr545s:_*32≤_:=bW.2
 refine st (mV (.tuple #[.agg cj.toArray,.bool ((zt d L (e.typ,e.agg)).isSome)]) (st (zl rfl rfl (st (zl rfl rfl (st (zv kY ?_)))))))
 intro w548 K fr
 have bX:=bV.new fr
 refine stn (zr (v:=.agg cj.toArray) sT rfl rfl (bX.b0) (zZ ⟨rfl,bW.1.one,zj⟩) yqc rfl ?_)
 intro w550 fs
 have aL:=bX.pt0 fs
 refine st (aS (.bool ((zt d L (e.typ,e.agg)).isSome)) (zb (za (R0 fun _=>st (xu rfl (st (lD l pY rfl (zd (aL.b0) rfl) (st (aS l (zb (za (za (R0 fun _=>st (mV (.bool ((zt d L (e.typ,e.agg)).isSome)) (st (yw rfl (zb ?_)))))))))))))))))
 cases H: !((zt d L (e.typ,e.agg)).isSome)
 have aq:=H
 try simp only[zh]at H
 have ar:(zt d L (e.typ,e.agg)).isSome=true:=by simpa using aq
 replace H:=ar
 refine zf rfl (zp (za ?_))
 have aM:=aL.mv1
 rw[show(stL d (e.typ,e.agg) L)=(zM d (e.typ,e.agg) L)from ifnC (Qt H)]at aM
 have ft:=aM.r0
 have hr555s:_*32≤_:=ft.2
 refine WD4 ((fun TT C=>WF [fun vals A=>Sep G W (C::TT) A,fun vals A=>(vals 16=(Iv ((yN (d.types.getD e.typ.toNat default) (zM d (e.typ,e.agg) L) e.field e.op e.arg)):Value))∧Sep G W (C::TT) A,fun vals A=>(vals 16=(Iv ((yN (d.types.getD e.typ.toNat default) (zM d (e.typ,e.agg) L) e.field e.op e.arg)):Value))∧Sep G W (C::TT) A]) ((Blk K cj.toArray 77)::gL::gJ::gH::Rs) (RowE own 140 l (zM d (e.typ,e.agg) L))) (AF [Vl 0 (Ix b 0),Vl 1 (Ix b 0),Vl 2 (Ix b 0),Vl 3 (Ix b 0),Vl 4 g,Vl 5 (Ix m 4),Vl 6 (Iv (e.typ)),Vl 7 gI,Vl 8 (.agg gK.toArray),Vl 9 l,Vl 10 (Ix m 6),Vl 11 (Iv (e.field)),Vl 12 (Ix m 7),Vl 13 (Iv (e.op)),Vl 14 (Ix m 8),Vl 15 (Iv (e.arg)),fun _=>True,Vl 17 (.bool (!decide ((yN (d.types.getD e.typ.toNat default) (zM d (e.typ,e.agg) L) e.field e.op e.arg)=0))),Vl 18 (.agg #[Iv 0,Iv 0]),Vl 19 (.bool (!decide ((yN (d.types.getD e.typ.toNat default) (zM d (e.typ,e.agg) L) e.field e.op e.arg)=0))),fun _=>True]) [[],[0],[0,1],[0,1,2],(rg 4),[],[5],(rg 7),(rg 8),[],[],[10],[],[12],[],[14],(rg 16),(rg 17),[],(rg 18),(rg 20)] [16,20] [(0,0),(0,0),(0,0),(0,0),(0,0),(0,0),(0,0),(0,0),(0,0),(0,0),(0,0),(0,0),(0,0),(0,0),(0,0),(0,0),(0,0),(1,1),(0,1),(1,1),(1,1)] aM ⟨fun _ _ _ _ _ _ _=>obl rfl (mV (Ix b 0) dR),fun _ _ _ _ _ _ fu=>obl rfl (zx (fu 0 (by decide)) dR),fun _ _ _ _ _ _ fv=>obl rfl (YA (fv 1 (by decide)) dR),fun _ _ _ _ _ _ fw=>obl rfl (yJ (fw 2 (by decide)) dR),ob1 0 fun _ _ (fx:Sep _ _ _ _) fy=>obl rfl (lD g kR (fy 3 (by decide)) (zd (fx.gblk X) rfl) dR),fun _ _ _ _ _ _ _=>obl rfl (xL rfl dR),ob1 0 fun _ _ (fz:Sep _ _ _ _) fA=>obl rfl (lD (Iv (e.typ)) kT (fA 5 (by decide)) (zd (fz.b4) rfl) dR),?_,?_,fun _ _ _ _ _ _ _=>obl rfl (mV l dR),fun _ _ _ _ _ _ _=>obl rfl (xN rfl dR),ob1 0 fun _ _ (fB:Sep _ _ _ _) fC=>obl rfl (lD (Iv (e.field)) kT (fC 10 (by decide)) (zd (fB.b4) rfl) dR),fun _ _ _ _ _ _ _=>obl rfl (xP rfl dR),ob1 0 fun _ _ (fE:Sep _ _ _ _) fF=>obl rfl (lD (Iv (e.op)) kT (fF 12 (by decide)) (zd (fE.b4) rfl) dR),fun _ _ _ _ _ _ _=>obl rfl (Zc rfl dR),ob1 0 fun _ _ (fG:Sep _ _ _ _) fH=>obl rfl (lD (Iv (e.arg)) kT (fH 14 (by decide)) (zd (fG.b4) rfl) dR),?_,?_,fun _ _ _ _ _ _ _=>obl rfl (zQ (parts':=[]) (v:=.agg #[Iv 0,Iv 0]) rfl (by simp+zetaDelta [Instr.build,Instr.fill,go_sem,Zd]) dR),fun _ _ _ _ _ _ fI=>obl rfl (ya (fI 17 (by decide)) dR),?_,zj⟩ ?_
 refine ob1 0 fun _ _ _ bY=>(obl rfl ?_)
 have hi791:e.typ.toNat<d.types.length:=bo
 exact zA lR nT (bY 4 dc) u.sl (bY 6 dc) ⟨by omega,by omega⟩ dR
 refine ob1 0 fun _ _ (fJ:Sep _ _ _ _) fK=>(obl rfl ?_)
 have bZ:e.typ.toNat<d.types.length:=bo
 obtain⟨cO,br,hoke800⟩:=u.typD bZ
 have hsm802:((d.types.getD e.typ.toNat default).fields).length*48≤140737488355328:=br.small
 have cP:=fJ.cells cO (u.foot (ne_of_lt bZ))
 exact ze oR nT rfl (fK 7 dc) cP dR
 refine ob1 0 fun vals _ (ca:Sep _ _ _ _) aa=>(obl rfl ?_)
 have cb:e.typ.toNat<d.types.length:=bo
 obtain⟨cQ,au,cl⟩:=u.typD cb
 have hsm689:((d.types.getD e.typ.toNat default).fields).length*48≤140737488355328:=au.small
 have hcw690:=ca.cells cQ (u.foot (ne_of_lt cb))
 obtain⟨G691,fL,fM,fN,fO⟩:=ca.lend
 have aN:=RowE.rd fL
 have hrd697s:_*32≤_:=aN.small
 refine(zO (vals:=[.agg ((d.types.getD e.typ.toNat default).cells (zV W (sb g) (so g+e.typ.toNat*1+0))).toArray,l,Iv (e.field),Iv (e.op),Iv (e.arg)]) rfl (yK ⟨(aa 8 dc),(aa 9 dc),(aa 11 dc),(aa 13 dc),(aa 15 dc),zj⟩) tY (WU (zk au fM) cl aN oe.field oe.op oe.arg fN ((hft.ask (hd.typ _ om) (hrl.inv hd e.typ e.agg gj gk)))) ?_)
 rintro _ w698 ⟨rfl,fP⟩
 have fQ:=fO _ _ fP
 exact fun E N I=>⟨(zG N fQ),zj⟩
 refine ob1 1 fun _ _ fR _=>?_
 obtain⟨ak,hS858⟩:=fR
 exact obl rfl (yj ak rfl dR)
 refine ob1 1 fun _ _ fS fT=>?_
 obtain⟨ak,cc⟩:=fS
 refine obl rfl ((zr (v:=.agg #[Iv 0,Iv 0]) mT rfl (fT 18 dc) (cc.b3) (zZ ⟨rfl,rfl,zj⟩) yqc rfl ?_))
 intro w730 fU
 exact fun E N I=>⟨(zG ((I 16 dc).trans ak) (cc.pt3 fU)),zj⟩
 intro vals gD fV fW
 obtain⟨ak,cd⟩:=fV
 have gE:=fW 19 dc
 refine yd (kv:=[(0,Ix b 0),(3,Ix m 0),(4,.bool (!decide ((yN (d.types.getD e.typ.toNat default) (zM d (e.typ,e.agg) L) e.field e.op e.arg)=0))),(5,Ix B 0),(6,Ix q 0),(7,Iw k),(41,Iw k),(42,Ix b 0),(43,Ix b 0),(44,Ix b 2),(45,s),(46,Iw L.length),(47,.bool false),(97,Ix b 0),(98,Ix m 4),(99,Iv (e.typ)),(100,Ix m 5),(101,Iv (e.agg)),(102,.tuple #[.agg cj.toArray,.bool ((zt d L (e.typ,e.agg)).isSome)]),(96,.tuple #[.agg cj.toArray,.bool ((zt d L (e.typ,e.agg)).isSome)]),(103,.agg cj.toArray),(104,.bool ((zt d L (e.typ,e.agg)).isSome)),(9,Ix K 0),(10,.bool ((zt d L (e.typ,e.agg)).isSome)),(105,Ix K 1),(106,l),(11,l),(107,.bool ((zt d L (e.typ,e.agg)).isSome)),(108,.bool false)]) ⟨rfl,rfl,(by exact gE),rfl,rfl,rfl,rfl,rfl,rfl,rfl,rfl,rfl,rfl,rfl,rfl,rfl,rfl,rfl,rfl,rfl,rfl,rfl,rfl,rfl,rfl,rfl,rfl,rfl,rfl,zj⟩ (fun ρw872=>?_)
 refine zb (zo (YT tR oT mT rfl rfl (zi (cd.b3)) (show _=(.bool (!decide ((yN (d.types.getD e.typ.toNat default) (zM d (e.typ,e.agg) L) e.field e.op e.arg)=0)):Value)from rfl) ?_))
 have fX:Sep G W Rs gD:=cd.sel 5 [] (yL _ _) rfl rfl
 rw[hT]
 refine⟨rfl,?_,fX⟩
 exact⟨(by decide:InR 0),(by decide:InR 0)⟩
 have aq:=H
 try simp only[zh]at H
 have ar:(zt d L (e.typ,e.agg)).isSome=false:=by simpa using aq
 replace H:=ar
 refine zg rfl ?_
 refine WD4 ((fun TT C=>WF [fun vals A=>Sep G W (C::TT) A,fun vals A=> ∃z,(vals 9=z)∧Sep G W ((RowE own 140 z (List.replicate (d.types.getD e.typ.toNat default).fields.length (⟨0,[]⟩:Cel)))::C::TT) A]) ((RowE own 140 l (stL d (e.typ,e.agg) L))::gL::gJ::gH::Rs) (Blk K cj.toArray 77)) (AF [Vl 0 (Ix b 0),Vl 1 (Ix b 0),Vl 2 (Ix b 0),Vl 3 (Ix b 0),Vl 4 g,Vl 5 (Ix m 4),Vl 6 (Iv (e.typ)),Vl 7 gI,Vl 8 (.agg gK.toArray),fun _=>True,fun vals=> ∀(z:Value),vals 9=z→vals 10=z]) [[],[0],[0,1],[0,1,2],(rg 4),[],[5],(rg 7),(rg 8),(rg 9),(rg 10)] [9] [(0,0),(0,0),(0,0),(0,0),(0,0),(0,0),(0,0),(0,0),(0,0),(0,0),(1,1)] aL ⟨fun _ _ _ _ _ _ _=>obl rfl (mV (Ix b 0) dR),fun _ _ _ _ _ _ fY=>obl rfl (zx (fY 0 dc) dR),fun _ _ _ _ _ _ fZ=>obl rfl (YA (fZ 1 dc) dR),fun _ _ _ _ _ _ ga=>obl rfl (yJ (ga 2 dc) dR),ob1 0 fun _ _ (cR:Sep _ _ _ _) cS=>obl rfl (lD g kR (cS 3 dc) (zd (cR.gblk X) rfl) dR),fun _ _ _ _ _ _ _=>obl rfl (xL rfl dR),ob1 0 fun _ _ (cT:Sep _ _ _ _) cU=>obl rfl (lD (Iv (e.typ)) kT (cU 5 dc) (zd (cT.b4) rfl) dR),?_,?_,?_,?_,zj⟩ ?_ (hlocA:=xd ⟨dA,dA,dA,dA,dA,dA,dA,dA,dA,dT,fun vals E N h=>fun z ce=>(N 10 (.inl rfl)).trans (h z ((N 9 (.inr dc)).symm.trans ce)),zj⟩)
 refine ob1 0 fun _ _ _ aO=>(obl rfl ?_)
 have hi1031:e.typ.toNat<d.types.length:=bo
 exact zA lR nT (aO 4 dc) u.sl (aO 6 dc) ⟨by omega,by omega⟩ dR
 refine ob1 0 fun _ _ (cV:Sep _ _ _ _) cW=>(obl rfl ?_)
 have aP:e.typ.toNat<d.types.length:=bo
 obtain⟨cm,aQ,hoke1040⟩:=u.typD aP
 have hsm1042:((d.types.getD e.typ.toNat default).fields).length*48≤140737488355328:=aQ.small
 have cn:=cV.cells cm (u.foot (ne_of_lt aP))
 exact ze oR nT rfl (cW 7 dc) cn dR
 refine ob1 0 fun vals _ (cf:Sep _ _ _ _) gc=>(obl rfl ?_)
 have cg:e.typ.toNat<d.types.length:=bo
 obtain⟨cX,av,co⟩:=u.typD cg
 have hsm959:((d.types.getD e.typ.toNat default).fields).length*48≤140737488355328:=av.small
 have hcw960:=cf.cells cX (u.foot (ne_of_lt cg))
 refine(zO (vals:=[.agg gK.toArray]) rfl (yK ⟨(gc 8 dc),zj⟩) nY (Xv av co cf) ?_)
 rintro z w962 ⟨_,rfl,ch⟩
 have gd:=ch.r0
 have hr964s:_*32≤_:=gd.2
 exact fun E N I=>⟨(exiA z (zG N ch)),zj⟩
 refine ob1 1 fun _ _ cY _=>?_
 obtain⟨z,al,hS1050⟩:=cY
 refine obl rfl (ya al (fun E N I=>⟨rfl,?_⟩))
 intro v961q ce
 rw[I 9 (by decide)]at ce;cases al.symm.trans ce
 exact N
 intro vals w1051 cZ da
 obtain⟨z,al,aw⟩:=cZ
 have ge:=da 10 dc z al
 refine yd (kv:=[(0,Ix b 0),(3,Ix m 0),(4,.bool false),(5,Ix B 0),(6,Ix q 0),(7,Iw k),(41,Iw k),(42,Ix b 0),(43,Ix b 0),(44,Ix b 2),(45,s),(46,Iw L.length),(47,.bool false),(97,Ix b 0),(98,Ix m 4),(99,Iv (e.typ)),(100,Ix m 5),(101,Iv (e.agg)),(102,.tuple #[.agg cj.toArray,.bool ((zt d L (e.typ,e.agg)).isSome)]),(96,.tuple #[.agg cj.toArray,.bool ((zt d L (e.typ,e.agg)).isSome)]),(103,.agg cj.toArray),(104,.bool ((zt d L (e.typ,e.agg)).isSome)),(9,Ix K 0),(10,.bool ((zt d L (e.typ,e.agg)).isSome)),(105,Ix K 1),(106,l),(11,z),(107,.bool ((zt d L (e.typ,e.agg)).isSome)),(108,.bool true)]) ⟨rfl,rfl,rfl,rfl,rfl,rfl,rfl,rfl,rfl,rfl,rfl,rfl,rfl,rfl,rfl,rfl,rfl,rfl,rfl,rfl,rfl,rfl,rfl,rfl,rfl,rfl,(by exact ge),rfl,rfl,zj⟩ (fun ρw1051=>?_)
 refine zb (za ?_)
 rw[show(List.replicate (d.types.getD e.typ.toNat default).fields.length (⟨0,[]⟩:Cel))=(zM d (e.typ,e.agg) L)from(WH (QC H)).symm]at aw
 have db:=aw.r0
 have hr1056s:_*32≤_:=db.2
 refine WD4 ((fun TT C=>WF [fun vals A=>Sep G W (C::TT) A,fun vals A=>(vals 16=(Iv ((yN (d.types.getD e.typ.toNat default) (zM d (e.typ,e.agg) L) e.field e.op e.arg)):Value))∧Sep G W (C::TT) A,fun vals A=>(vals 16=(Iv ((yN (d.types.getD e.typ.toNat default) (zM d (e.typ,e.agg) L) e.field e.op e.arg)):Value))∧Sep G W (C::TT) A]) ((Blk K cj.toArray 77)::(RowE own 140 l (stL d (e.typ,e.agg) L))::gL::gJ::gH::Rs) (RowE own 140 z (zM d (e.typ,e.agg) L))) (AF [Vl 0 (Ix b 0),Vl 1 (Ix b 0),Vl 2 (Ix b 0),Vl 3 (Ix b 0),Vl 4 g,Vl 5 (Ix m 4),Vl 6 (Iv (e.typ)),Vl 7 gI,Vl 8 (.agg gK.toArray),Vl 9 z,Vl 10 (Ix m 6),Vl 11 (Iv (e.field)),Vl 12 (Ix m 7),Vl 13 (Iv (e.op)),Vl 14 (Ix m 8),Vl 15 (Iv (e.arg)),fun _=>True,Vl 17 (.bool (!decide ((yN (d.types.getD e.typ.toNat default) (zM d (e.typ,e.agg) L) e.field e.op e.arg)=0))),Vl 18 (.agg #[Iv 0,Iv 0]),Vl 19 (.bool (!decide ((yN (d.types.getD e.typ.toNat default) (zM d (e.typ,e.agg) L) e.field e.op e.arg)=0))),fun _=>True]) [[],[0],[0,1],[0,1,2],(rg 4),[],[5],(rg 7),(rg 8),[],[],[10],[],[12],[],[14],(rg 16),(rg 17),[],(rg 18),(rg 20)] [16,20] [(0,0),(0,0),(0,0),(0,0),(0,0),(0,0),(0,0),(0,0),(0,0),(0,0),(0,0),(0,0),(0,0),(0,0),(0,0),(0,0),(0,0),(1,1),(0,1),(1,1),(1,1)] aw ⟨fun _ _ _ _ _ _ _=>obl rfl (mV (Ix b 0) dR),fun _ _ _ _ _ _ dd=>obl rfl (zx (dd 0 (by decide)) dR),fun _ _ _ _ _ _ de=>obl rfl (YA (de 1 (by decide)) dR),fun _ _ _ _ _ _ df=>obl rfl (yJ (df 2 (by decide)) dR),ob1 0 fun _ _ (dg:Sep _ _ _ _) dh=>obl rfl (lD g kR (dh 3 (by decide)) (zd (dg.gblk X) rfl) dR),fun _ _ _ _ _ _ _=>obl rfl (xL rfl dR),ob1 0 fun _ _ (di:Sep _ _ _ _) dj=>obl rfl (lD (Iv (e.typ)) kT (dj 5 (by decide)) (zd (di.b5) rfl) dR),?_,?_,fun _ _ _ _ _ _ _=>obl rfl (mV z dR),fun _ _ _ _ _ _ _=>obl rfl (xN rfl dR),ob1 0 fun _ _ (dk:Sep _ _ _ _) dl=>obl rfl (lD (Iv (e.field)) kT (dl 10 (by decide)) (zd (dk.b5) rfl) dR),fun _ _ _ _ _ _ _=>obl rfl (xP rfl dR),ob1 0 fun _ _ (dm:Sep _ _ _ _) dp=>obl rfl (lD (Iv (e.op)) kT (dp 12 (by decide)) (zd (dm.b5) rfl) dR),fun _ _ _ _ _ _ _=>obl rfl (Zc rfl dR),ob1 0 fun _ _ (dq:Sep _ _ _ _) dr=>obl rfl (lD (Iv (e.arg)) kT (dr 14 (by decide)) (zd (dq.b5) rfl) dR),?_,?_,fun _ _ _ _ _ _ _=>obl rfl (zQ (parts':=[]) (v:=.agg #[Iv 0,Iv 0]) rfl (by simp+zetaDelta [Instr.build,Instr.fill,go_sem,Zd]) dR),fun _ _ _ _ _ _ ds=>obl rfl (ya (ds 17 (by decide)) dR),?_,zj⟩ ?_
 refine ob1 0 fun _ _ _ aR=>(obl rfl ?_)
 have hi1292:e.typ.toNat<d.types.length:=bo
 exact zA lR nT (aR 4 dc) u.sl (aR 6 dc) ⟨by omega,by omega⟩ dR
 refine ob1 0 fun _ _ (dt:Sep _ _ _ _) du=>(obl rfl ?_)
 have aT:e.typ.toNat<d.types.length:=bo
 obtain⟨cp,aU,hoke1301⟩:=u.typD aT
 have hsm1303:((d.types.getD e.typ.toNat default).fields).length*48≤140737488355328:=aU.small
 have cq:=dt.cells cp (u.foot (ne_of_lt aT))
 exact ze oR nT rfl (du 7 dc) cq dR
 refine ob1 0 fun vals _ (aV:Sep _ _ _ _) O=>(obl rfl ?_)
 have aW:e.typ.toNat<d.types.length:=bo
 obtain⟨cr,af,bs⟩:=u.typD aW
 have hsm1190:((d.types.getD e.typ.toNat default).fields).length*48≤140737488355328:=af.small
 have hcw1191:=aV.cells cr (u.foot (ne_of_lt aW))
 obtain⟨G1192,dv,dw,dx,dy⟩:=aV.lend
 have aB:=RowE.rd dv
 have hrd1198s:_*32≤_:=aB.small
 refine(zO (vals:=[.agg ((d.types.getD e.typ.toNat default).cells (zV W (sb g) (so g+e.typ.toNat*1+0))).toArray,z,Iv (e.field),Iv (e.op),Iv (e.arg)]) rfl (yK ⟨(O 8 dc),(O 9 dc),(O 11 dc),(O 13 dc),(O 15 dc),zj⟩) tY (WU (zk af dw) bs aB oe.field oe.op oe.arg dx ((hft.ask (hd.typ _ om) (hrl.inv hd e.typ e.agg gj gk)))) ?_)
 rintro _ w1199 ⟨rfl,dz⟩
 have dB:=dy _ _ dz
 exact fun E N I=>⟨(zG N dB),zj⟩
 refine ob1 1 fun _ _ dC _=>?_
 obtain⟨ab,hS1359⟩:=dC
 exact obl rfl (yj ab rfl dR)
 refine ob1 1 fun _ _ dD dE=>?_
 obtain⟨ab,aX⟩:=dD
 refine obl rfl ((zr (v:=.agg #[Iv 0,Iv 0]) mT rfl (dE 18 dc) (aX.b4) (zZ ⟨rfl,rfl,zj⟩) yqc rfl ?_))
 intro w1231 dG
 exact fun E N I=>⟨(zG ((I 16 dc).trans ab) (aX.pt4 dG)),zj⟩
 intro vals gf dH dI
 obtain⟨ab,aY⟩:=dH
 have gg:=dI 19 dc
 refine yd (kv:=[(0,Ix b 0),(3,Ix m 0),(4,.bool (!decide ((yN (d.types.getD e.typ.toNat default) (zM d (e.typ,e.agg) L) e.field e.op e.arg)=0))),(5,Ix B 0),(6,Ix q 0),(7,Iw k),(41,Iw k),(42,Ix b 0),(43,Ix b 0),(44,Ix b 2),(45,s),(46,Iw L.length),(47,.bool false),(97,Ix b 0),(98,Ix m 4),(99,Iv (e.typ)),(100,Ix m 5),(101,Iv (e.agg)),(102,.tuple #[.agg cj.toArray,.bool ((zt d L (e.typ,e.agg)).isSome)]),(96,.tuple #[.agg cj.toArray,.bool ((zt d L (e.typ,e.agg)).isSome)]),(103,.agg cj.toArray),(104,.bool ((zt d L (e.typ,e.agg)).isSome)),(9,Ix K 0),(10,.bool ((zt d L (e.typ,e.agg)).isSome)),(105,Ix K 1),(106,l),(11,z),(107,.bool ((zt d L (e.typ,e.agg)).isSome)),(108,.bool true)]) ⟨rfl,rfl,(by exact gg),rfl,rfl,rfl,rfl,rfl,rfl,rfl,rfl,rfl,rfl,rfl,rfl,rfl,rfl,rfl,rfl,rfl,rfl,rfl,rfl,rfl,rfl,rfl,rfl,rfl,rfl,zj⟩ (fun ρw1373=>?_)
 refine zb (zo (YT tR oT mT rfl rfl (zi (aY.b4)) (show _=(.bool (!decide ((yN (d.types.getD e.typ.toNat default) (zM d (e.typ,e.agg) L) e.field e.op e.arg)=0)):Value)from rfl) ?_))
 have dJ:Sep G W Rs gf:=aY.sel 6 [] (yL _ _) rfl rfl
 rw[hT]
 refine⟨rfl,?_,dJ⟩
 exact⟨(by decide:InR 0),(by decide:InR 0)⟩
 have Z:=tD Z
 refine zg rfl (zp (za (zu (za (R0 fun _=>st (mV (Ix b 0) (st (zx rfl (st (ZL rfl (st (lD s wT rfl (zd (J.gblk X) rfl) (st (mV (Iw k) ?_))))))))))))))
 have dK:k<L.length:=bo
 refine st (zn mR tT rfl am.sl rfl dK (st (YP rfl ?_)))
 have ax:k<L.length:=bo
 obtain⟨aC,P,U⟩:=am.entD ax
 have hsm1382:((L.getD k default).ev.deps).length*8≤140737488355328:=P.small
 have ct:=J.cells aC (am.foot (ne_of_lt ax))
 refine st (ze (cs:=[Iv ((L.getD k default).ev.origin),Iv ((L.getD k default).ev.seq),Iv ((L.getD k default).ev.lam),gF,Iv ((L.getD k default).ev.typ),Iv ((L.getD k default).ev.agg),Iv ((L.getD k default).ev.field),Iv ((L.getD k default).ev.op),Iv ((L.getD k default).ev.arg),Iv ((L.getD k default).ev.key)]) pT lT rfl rfl (CellsAt.sub ct 0 (cs2:=[Iv ((L.getD k default).ev.origin),Iv ((L.getD k default).ev.seq),Iv ((L.getD k default).ev.lam),gF,Iv ((L.getD k default).ev.typ),Iv ((L.getD k default).ev.agg),Iv ((L.getD k default).ev.field),Iv ((L.getD k default).ev.op),Iv ((L.getD k default).ev.arg),Iv ((L.getD k default).ev.key)]) rfl) (st (zv sR ?_)))
 intro w1386 M dL
 have aZ:=J.new dL
 refine stn (zr (v:=.agg gG.toArray) lT rfl rfl (aZ.b0) (zZ ⟨rfl,rfl,rfl,P.sl.one,rfl,rfl,rfl,rfl,rfl,rfl,zj⟩) yqc rfl ?_)
 intro w1388 dM
 have y:=aZ.pt0 dM
 refine zb (za (zy kr (st (mV (Ix b 0) (st (zx rfl (st (ZL rfl (st (lD s wT rfl (zd (y.gblk X) rfl) (st (mV (Iw k) ?_))))))))))))
 have dN:k<L.length:=bo
 refine st (zn mR tT rfl am.sl rfl dN (st (WM rfl ?_)))
 have cu:=y.cells aC (am.foot (ne_of_lt ax))
 refine st (lD (.bool ((L.getD k default).void)) oY rfl (cu.get (j:=10) rfl) (st (yw rfl (st (mV (.bool (!((L.getD k default).void))) (stc (V:=Ix M 4) rfl rfl (fun dO=>?_) ?_))))))
 have dP:=dO
 try simp only[zh]at dP
 exact xL rfl rflB
 refine stc (V:=Iv (((L.getD k default).ev).typ)) rfl rfl (fun ba=>?_) ?_
 have dQ:=ba
 try simp only[zh]at dQ
 exact lD (Iv (((L.getD k default).ev).typ)) kT (ifpC ba) (zd (y.b0) rfl) rflB
 refine stc (V:=Ix m 4) rfl rfl (fun dS=>?_) ?_
 have dU:=dS
 try simp only[zh]at dU
 exact xL rfl rflB
 refine stc (V:=Iv (e.typ)) rfl rfl (fun bb=>?_) ?_
 have dV:=bb
 try simp only[zh]at dV
 exact lD (Iv (e.typ)) kT (ifpC bb) (zd (y.b3) rfl) rflB
 refine stc (V:=.bool (decide ((((L.getD k default).ev).typ)=e.typ))) rfl rfl (fun ay=>?_) ?_
 have dW:=ay
 try simp only[zh]at dW
 exact zR (ifpC ay) (ifpC ay) rflB
 refine st (zF rfl (fun hbp=>(ifpC hbp)) (st (mV (.bool ((!((L.getD k default).void))&&(decide ((((L.getD k default).ev).typ)=e.typ)))) (stc (V:=Ix M 5) rfl rfl (fun dX=>?_) ?_))))
 have dY:=dX
 try simp only[zh]at dY
 exact Ye rfl rflB
 refine stc (V:=Iv (((L.getD k default).ev).agg)) rfl rfl (fun bc=>?_) ?_
 have dZ:=bc
 try simp only[zh]at dZ
 exact lD (Iv (((L.getD k default).ev).agg)) kT (ifpC bc) (zd (y.b0) rfl) rflB
 refine stc (V:=Ix m 5) rfl rfl (fun ea=>?_) ?_
 have eb:=ea
 try simp only[zh]at eb
 exact Ye rfl rflB
 refine stc (V:=Iv (e.agg)) rfl rfl (fun bd=>?_) ?_
 have ec:=bd
 try simp only[zh]at ec
 exact lD (Iv (e.agg)) kT (ifpC bd) (zd (y.b3) rfl) rflB
 refine stc (V:=.bool (decide ((((L.getD k default).ev).agg)=e.agg))) rfl rfl (fun az=>?_) ?_
 have ed:=az
 try simp only[zh]at ed
 exact zR (ifpC az) (ifpC az) rflB
 refine st (zF rfl (fun hbp=>(ifpC hbp)) (st (mV (.bool (((!((L.getD k default).void))&&(decide ((((L.getD k default).ev).typ)=e.typ)))&&(decide ((((L.getD k default).ev).agg)=e.agg)))) (stc (V:=Ix M 6) rfl rfl (fun ee=>?_) ?_))))
 have ef:=ee
 try simp only[zh]at ef
 exact xN rfl rflB
 refine stc (V:=Iv (((L.getD k default).ev).field)) rfl rfl (fun be=>?_) ?_
 have eg:=be
 try simp only[zh]at eg
 exact lD (Iv (((L.getD k default).ev).field)) kT (ifpC be) (zd (y.b0) rfl) rflB
 refine stc (V:=Ix m 6) rfl rfl (fun eh=>?_) ?_
 have ei:=eh
 try simp only[zh]at ei
 exact xN rfl rflB
 refine stc (V:=Iv (e.field)) rfl rfl (fun bf=>?_) ?_
 have ej:=bf
 try simp only[zh]at ej
 exact lD (Iv (e.field)) kT (ifpC bf) (zd (y.b3) rfl) rflB
 refine stc (V:=.bool (decide ((((L.getD k default).ev).field)=e.field))) rfl rfl (fun aA=>?_) ?_
 have ek:=aA
 try simp only[zh]at ek
 exact zR (ifpC aA) (ifpC aA) rflB
 refine st (zF rfl (fun hbp=>(ifpC hbp)) (st (mV (.bool ((((!((L.getD k default).void))&&(decide ((((L.getD k default).ev).typ)=e.typ)))&&(decide ((((L.getD k default).ev).agg)=e.agg)))&&(decide ((((L.getD k default).ev).field)=e.field)))) (stc (V:=.agg ci.toArray) rfl rfl (fun el=>?_) ?_))))
 have em:=el
 try simp only[zh]at em
 exact ze mY pR rfl rfl (zi (y.b1)) rflB
 refine stc (V:=.agg gG.toArray) rfl rfl (fun en=>?_) ?_
 have eo:=en
 try simp only[zh]at eo
 exact ze pT lT rfl rfl (zi (y.b0)) rflB
 refine stc (V:=.agg (e.cells de0).toArray) rfl rfl (fun er=>?_) ?_
 have es:=er
 try simp only[zh]at es
 exact ze pT lT rfl rfl (zi (y.b3)) rflB
 refine zdu (V:=.bool ((xt (((d.types.getD e.typ.toNat default).fields).getD e.field.toNat default) ((L.getD k default).ev) e))) (fun _ A=>Sep G W ((Blk M gG.toArray 44)::gL::gJ::gH::Rs) A) y rfl rfl (fun ac=>?_) (fun w1442 bg=>?_)
 have et:=ac
 try simp only[zh]at et
 have bh:e.typ.toNat<d.types.length:=bo
 obtain⟨cv,Q,hoke1433⟩:=u.typD bh
 have hsm1435:((d.types.getD e.typ.toNat default).fields).length*48≤140737488355328:=Q.small
 have hcw1436:=y.cells cv (u.foot (ne_of_lt bh))
 have bi:e.field.toNat<((d.types.getD e.typ.toNat default).fields).length:=bo
 obtain⟨cw,ag,bt⟩:=Q.fldD bi
 have hsm1438:((((d.types.getD e.typ.toNat default).fields).getD e.field.toNat default).moves).length*32≤140737488355328:=ag.small
 have hcw1439:=y.cells cw (Q.foot (ne_of_lt bi))
 refine(zO (vals:=[.agg ci.toArray,.agg gG.toArray,.agg (e.cells de0).toArray]) rfl (yK ⟨(ifpC ac),(ifpC ac),(ifpC ac),zj⟩) Tryz.call124 (KE ag bt P U.ev hde0 oe y) ?_)
 rintro _ w1440 ⟨rfl,eu⟩
 exact⟨rfl,eu⟩
 refine st (zF rfl (fun hbp=>(ifpC hbp)) (zb ?_))
 cases ad:((((!((L.getD k default).void))&&(decide ((((L.getD k default).ev).typ)=e.typ)))&&(decide ((((L.getD k default).ev).agg)=e.agg)))&&(decide ((((L.getD k default).ev).field)=e.field)))&&(xt (((d.types.getD e.typ.toNat default).fields).getD e.field.toNat default) ((L.getD k default).ev) e)
 have ae:=ad
 try simp only[zh]at ad
 refine zf rfl (zp (R0 fun _=>st (mV (Iw k) ?_)))
 have ew:InR ((k+1:Nat):Int):=bo
 refine st (zU (r:=((k+1:Nat):Int)) rfl rfl (by rw[show(((k:Nat):Int)+1:Int)=((k+1:Nat):Int)from bo];exact zJ ew) (st (aS (Iw (k+1)) (zb ?_))))
 exact⟨_,by omega,k+1,_,rfl,sSf,by omega,(yU hno (rj_raw.trans ae)),(bg.s4_bcd)⟩
 have ae:=ad
 try simp only[zh]at ad
 have hT:=zee hfz om hno (rj_raw.trans ae)
 refine zg rfl (za ?_)
 refine WD4 ((fun TT C gl=>WF [fun vals A=>Sep G W (C::gl::gJ::TT) A,fun vals A=>Sep G W (C::gl::(Blk B #[Iv (((L.getD k default).ev).origin),Iv (((L.getD k default).ev).seq)] 41)::TT) A]) (gH::Rs) (Blk M gG.toArray 44) gL) (AF [Vl 0 (Ix M 0),Vl 1 (.agg #[Iv (((L.getD k default).ev).origin),Iv (((L.getD k default).ev).seq)]),Vl 2 (.bool true),fun _=>True]) [[],[0],[],[0,1,2]] [3] [(0,0),(0,0),(0,0),(0,0)] bg ⟨fun _ _ _ _ _ _ _=>obl rfl (yA rfl dR),ob1 0 fun _ _ (ex:Sep _ _ _ _) ey=>obl rfl (ze oT mT rfl (ey 0 dc) (CellsAt.sub (zi (ex.b0)) 0 rfl) dR),fun _ _ _ _ _ _ _=>obl rfl (aS (.bool true) dR),?_,zj⟩ ?_
 refine ob1 0 fun _ _ (bj:Sep _ _ _ _) ez=>(obl rfl ((zr (v:=.agg #[Iv (((L.getD k default).ev).origin),Iv (((L.getD k default).ev).seq)]) mT rfl (ez 1 dc) (bj.b2) (zZ ⟨rfl,rfl,zj⟩) yqc rfl ?_)))
 intro w1475 eA
 exact fun E N I=>⟨(bj.pt2 eA),zj⟩
 intro vals w1498 eB eC
 have bk:=eB
 have gh:=eC 2 dc
 refine yd (kv:=[(0,Ix b 0),(3,Ix m 0),(4,.bool true),(5,Ix B 0),(6,Ix q 0),(7,Iw k),(41,Iw k),(42,Ix b 0),(43,Ix b 0),(44,Ix b 2),(45,s),(46,Iw L.length),(47,.bool true),(50,Ix b 0),(51,Ix b 0),(52,Ix b 2),(53,s),(54,Iw k),(55,Ix (sb s) (so s+k*13)),(56,Ix (sb s) (so s+k*13)),(57,.agg gG.toArray),(8,Ix M 0),(58,Ix b 0),(59,Ix b 0),(60,Ix b 2),(61,s),(62,Iw k),(63,Ix (sb s) (so s+k*13)),(64,Ix (sb s) (so s+k*13+10)),(65,.bool ((L.getD k default).void)),(66,.bool (!((L.getD k default).void))),(67,.bool (!((L.getD k default).void))),(73,.bool ((!((L.getD k default).void))&&(decide ((((L.getD k default).ev).typ)=e.typ)))),(74,.bool ((!((L.getD k default).void))&&(decide ((((L.getD k default).ev).typ)=e.typ)))),(80,.bool (((!((L.getD k default).void))&&(decide ((((L.getD k default).ev).typ)=e.typ)))&&(decide ((((L.getD k default).ev).agg)=e.agg)))),(81,.bool (((!((L.getD k default).void))&&(decide ((((L.getD k default).ev).typ)=e.typ)))&&(decide ((((L.getD k default).ev).agg)=e.agg)))),(87,.bool ((((!((L.getD k default).void))&&(decide ((((L.getD k default).ev).typ)=e.typ)))&&(decide ((((L.getD k default).ev).agg)=e.agg)))&&(decide ((((L.getD k default).ev).field)=e.field)))),(88,.bool ((((!((L.getD k default).void))&&(decide ((((L.getD k default).ev).typ)=e.typ)))&&(decide ((((L.getD k default).ev).agg)=e.agg)))&&(decide ((((L.getD k default).ev).field)=e.field)))),(93,.bool true)]) ⟨rfl,rfl,(by exact gh),rfl,rfl,rfl,rfl,rfl,rfl,rfl,rfl,rfl,rfl,rfl,rfl,rfl,rfl,rfl,rfl,rfl,rfl,rfl,rfl,rfl,rfl,rfl,rfl,rfl,rfl,rfl,rfl,rfl,rfl,rfl,rfl,rfl,rfl,rfl,rfl,zj⟩ (fun ρw1498=>?_)
 refine zb (zo (YT tR oT mT rfl rfl (zi (bk.b2)) (show _=(.bool true:Value)from rfl) ?_))
 rw[hT]
 refine⟨rfl,?_,(bk.s4_)⟩
 exact⟨U.ev.origin,U.ev.seq⟩
 have F:=zC F
 have hT:ye d L e=(true,0,0):=VA F
 refine zg rfl (za (yy (by kernel_rfl) (fun _=>(st (zQ (parts':=[]) (v:=.agg #[Iv 0,Iv 0]) rfl (by simp+zetaDelta [Instr.build,Instr.fill,go_sem,Zd]) (st (aS (.bool true) (stn (zr (v:=.agg #[Iv 0,Iv 0]) mT rfl rfl (aD.b0) (zZ ⟨rfl,rfl,zj⟩) yqc rfl ?_)))))))))
 intro w1504 eD
 have bl:=aD.pt0 eD
 refine zb (zo (YT tR oT mT rfl rfl (zi (bl.b0)) (show _=(.bool true:Value)from rfl) ?_))
 rw[hT]
 refine⟨rfl,?_,(bl.s2_)⟩
 exact⟨(by decide:InR 0),(by decide:InR 0)⟩
set_option maxHeartbeats 8000000 in
theorem zbw {b:Nat}{d:Dcl}{L:List Ent}{e:Ev}{de0:Value}(hde0:RdS W G de0 e.deps)(oe:e.Ok)(hS0:Sep G W ((RefV b d L)::Rs) w)(hd:DclOk d)(hrl:Ran d L)(hml:L.length≤1000000):Ret Tryz.prog 75 [.pointer (some ⟨b,0,none⟩),.agg (e.cells de0).toArray] w (fun r w'=> ∃(v:Value),r=(.agg ((yI d L e).cells v).toArray:Value)∧((yI d L e).Ok)∧Sep G W ((RefV b d (L++[yI d L e]))::(RowE (α:=Int) own 3 v e.deps)::Rs) w'):=by
 have hde0s:_*8≤_:=hde0.small
 refine zm (args:=[Ix b 0,.agg (e.cells de0).toArray]) Tryz.func75 rfl rfl ?_
 refine za (R0 fun _=>st (zT (v:=.agg (e.cells de0).toArray) rfl ?_))
 intro w3 b2 cm
 let cr:=Blk b2 (e.cells de0).toArray 44
 refine st (zv uR ?_)
 intro w7 P cn
 let bo:=Blk P #[Iv 0,Iv 0,Iv 0,(Iz),Iv 0,Iv 0,Iv 0,Iv 0,Iv 0,Iv 0,.bool false,Iv 0,Iv 0] 96
 have bI:=(hS0.new cm).new cn
 refine zb (za (R0 fun _=>st (mV (Ix b 0) (st (ze (k:=10) pT lT rfl rfl (zi (bI.b1)) ?_)))))
 obtain⟨G10,ay,bK,bL,bM⟩:=(bI.mv2).lend
 obtain⟨vt16,vp17,ve18,hb19,bN,bO,bP⟩:=RefV.sh ay
 have hsm23:d.types.length*24≤140737488355328:=bN.small
 have hsm24:d.projs.length*40≤140737488355328:=bO.small
 have hsm25:L.length*120≤140737488355328:=bP.small
 refine st (cL Tryz.call97 (JU (e:=e) ay (zk hde0 bK) oe bL hd hrl hml) ?_)
 rintro _ w27 ⟨rfl,ad,bQ⟩
 have bR:=bM _ _ bQ
 refine st (mV (.tuple #[.bool ((ye d L e).1),.agg #[Iv ((ye d L e).2.1),Iv ((ye d L e).2.2)]]) (st (zl (vs:=[.bool ((ye d L e).1),.agg #[Iv ((ye d L e).2.1),Iv ((ye d L e).2.2)]]) (i:=0) (v:=.bool ((ye d L e).1)) rfl rfl (st (zl (vs:=[.bool ((ye d L e).1),.agg #[Iv ((ye d L e).2.1),Iv ((ye d L e).2.2)]]) (i:=1) (v:=.agg #[Iv ((ye d L e).2.1),Iv ((ye d L e).2.2)]) rfl rfl (st (zv qY ?_)))))))
 intro w32 K bS
 let cp:=Blk K #[Iv ((ye d L e).2.1),Iv ((ye d L e).2.2)] 41
 have az:=bR.new bS
 refine st (aS (.bool ((ye d L e).1)) (stn (zr (v:=.agg #[Iv ((ye d L e).2.1),Iv ((ye d L e).2.2)]) (c':=#[Iv ((ye d L e).2.1),Iv ((ye d L e).2.2)]) mT rfl rfl (az.b0) (zZ ⟨rfl,rfl,zj⟩) yqc rfl ?_)))
 intro co bT
 refine zb (za ?_)
 have hek:Ent.Ok (yI d L e):=⟨oe,ad.1,ad.2⟩
 obtain⟨t,u,z,bU⟩:=RefV.open ((az.pt0 bT).mv1)
 have H:Sep G W ((Blk b #[t,u,z] 103)::(RowE (α:=Typ) own 74 t d.types)::(RowE (α:=Prj) own 112 u d.projs)::(RowE (α:=Ent) own 96 z L)::cp::bo::cr::Rs) co:=bU
 have bV:=H.r1
 have hr42s:_*24≤_:=bV.2
 have bW:=H.r2
 have hr43s:_*40≤_:=bW.2
 have bX:=H.r3
 have hr44s:_*120≤_:=bX.2
 refine WD6 ((fun TT y=>WF [fun vals x=>Sep G W (y::TT) x,fun vals x=> ∃(a:Value),(vals 1=(.agg (e.cells a).toArray:Value))∧Sep G W ((RowE (α:=Int) own 3 a e.deps)::y::TT) x,fun vals x=> ∃(j:Nat),(vals 5=(Ix j 0:Value))∧Sep G W ((Blk j #[Iv 0,Iv 0,Iv 0,(Iz),Iv 0,Iv 0,Iv 0,Iv 0,Iv 0,Iv 0,.bool false,Iv 0,Iv 0] 96)::y::TT) x,fun vals x=> ∃(a:Value) (j:Nat),(vals 1=(.agg (e.cells a).toArray:Value))∧(vals 5=(Ix j 0:Value))∧Sep G W ((Blk j #[Iv 0,Iv 0,Iv 0,(Iz),Iv 0,Iv 0,Iv 0,Iv 0,Iv 0,Iv 0,.bool false,Iv 0,Iv 0] 96)::(RowE (α:=Int) own 3 a e.deps)::y::TT) x,fun _ _=>True,fun _ _=>True,fun _ _=>True,fun vals x=> ∃(a:Value) (j:Nat),(vals 1=(.agg (e.cells a).toArray:Value))∧(vals 5=(Ix j 0:Value))∧Sep G W ((Blk j ((yI d L e).cells a).toArray 96)::(RowE (α:=Int) own 3 a e.deps)::y::TT) x]) ((RowE (α:=Typ) own 74 t d.types)::(RowE (α:=Prj) own 112 u d.projs)::(RowE (α:=Ent) own 96 z L)::cp::bo::cr::Rs) (Blk b #[t,u,z] 103)) (AF [Vl 0 (.agg (e.cells de0).toArray),fun _=>True,Vl 2 (.bool ((ye d L e).1)),Vl 3 (.agg #[Iv ((ye d L e).2.1),Iv ((ye d L e).2.2)]),fun vals=> ∀(a:Value),vals 1=(.agg (e.cells a).toArray:Value)→vals 4=(.agg ((yI d L e).cells a).toArray:Value),fun _=>True,fun _=>True]) [[],[0],[],[],(rg 4),[],(rg 6)] [1,5,6] [[0,2],[0,2],(rg 4),(rg 4),[1,3],[0,1],[3]] H ⟨?_,?_,fun _ _ _ _ _ _=>obl rfl (mV (.bool ((ye d L e).1)) dR),?_,?_,?_,?_,zj⟩ ?_ (hlocA:=xd ⟨dA,dT,dA,dA,fun vals l q h=>fun a C=>(q 4 (.inl rfl)).trans (h a ((q 1 (.inr dc)).symm.trans C)),dT,dT,zj⟩)
 intro bY vals w110 aB ae hA111
 have X:bY∈[0,2]:=aB
 simp only[yF]at X
 rcases X with rfl|rfl
 have aC:Sep _ _ _ _:=ae
 exact obl rfl (ze (k:=10) pT lT rfl rfl (zi (aC.b6)) dR)
 obtain⟨j,A,aD⟩:=ae
 exact obl rfl (ze (k:=10) pT lT rfl rfl (zi (aD.b7)) dR)
 intro bZ vals w117 aE af ag
 have Y:bZ∈[0,2]:=aE
 simp only[yF]at Y
 rcases Y with rfl|rfl
 have aF:Sep _ _ _ _:=af
 refine obl rfl ((zO (f:=56) (vals:=[.agg (e.cells de0).toArray]) (cap:=[]) rfl (yK ⟨(ag 0 dc),zj⟩) vR (xF (e:=e) hde0 oe aF) ?_))
 rintro _ w124 ⟨a,rfl,ah⟩
 have aG:=ah.r0
 have hr126s:_*8≤_:=aG.2
 exact fun l q m=>⟨(exiA a (zG q ah)),zj⟩
 obtain⟨j,A,aH⟩:=af
 refine obl rfl ((zO (f:=56) (vals:=[.agg (e.cells de0).toArray]) (cap:=[]) rfl (yK ⟨(ag 0 dc),zj⟩) vR (xF (e:=e) hde0 oe aH) ?_))
 rintro _ w130 ⟨a,rfl,ai⟩
 have aI:=ai.r0
 have hr132s:_*8≤_:=aI.2
 exact fun l q m=>⟨(exiA a (exiA j (zG q (zG ((m 5 dc).trans A) (ai.mv1))))),zj⟩
 intro ca vals w140 aJ I hA141
 have Z:ca∈[0,1,2,3]:=aJ
 simp only[yF]at Z
 rcases Z with rfl|rfl|rfl|rfl
 have aK:Sep _ _ _ _:=I
 exact obl rfl (ze (k:=2) oT mT rfl rfl (zi (aK.b4)) dR)
 obtain⟨a,s,aL⟩:=I
 exact obl rfl (ze (k:=2) oT mT rfl rfl (zi (aL.b5)) dR)
 obtain⟨j,A,aM⟩:=I
 exact obl rfl (ze (k:=2) oT mT rfl rfl (zi (aM.b5)) dR)
 obtain⟨a,j,s,A,aN⟩:=I
 exact obl rfl (ze (k:=2) oT mT rfl rfl (zi (aN.b6)) dR)
 intro cb vals w149 aO aj J
 have aa:cb∈[1,3]:=aO
 simp only[yF]at aa
 rcases aa with rfl|rfl
 obtain⟨a,s,hS153⟩:=aj
 refine obl rfl (zQ (parts':=[(0,.agg (e.cells a).toArray),(1,.bool ((ye d L e).1)),(2,.agg #[Iv ((ye d L e).2.1),Iv ((ye d L e).2.2)])]) (v:=.agg ((yI d L e).cells a).toArray) (ZH ⟨rfl,s,rfl,(J 2 (by decide)),rfl,(J 3 (by decide)),zj⟩) (by simp+zetaDelta [Instr.build,Instr.fill,go_sem,Ent.cells,Ev.cells,yI]) (fun l q m=>⟨rfl,?_⟩))
 intro cc C
 rw[m 1 (by decide)]at C;cases s.symm.trans C
 exact q
 obtain⟨a,j,s,A,hS156⟩:=aj
 refine obl rfl (zQ (parts':=[(0,.agg (e.cells a).toArray),(1,.bool ((ye d L e).1)),(2,.agg #[Iv ((ye d L e).2.1),Iv ((ye d L e).2.2)])]) (v:=.agg ((yI d L e).cells a).toArray) (ZH ⟨rfl,s,rfl,(J 2 (by decide)),rfl,(J 3 (by decide)),zj⟩) (by simp+zetaDelta [Instr.build,Instr.fill,go_sem,Ent.cells,Ev.cells,yI]) (fun l q m=>⟨rfl,?_⟩))
 intro cc C
 rw[m 1 (by decide)]at C;cases s.symm.trans C
 exact q
 intro cd vals w160 aP ak hA161
 have ab:cd∈[0,1]:=aP
 simp only[yF]at ab
 rcases ab with rfl|rfl
 have aQ:Sep _ _ _ _:=ak
 refine obl rfl ((zv uR ?_))
 intro w167 j aR
 exact fun l q m=>⟨(exiA j (zG q (aQ.new aR))),zj⟩
 obtain⟨a,s,aT⟩:=ak
 refine obl rfl ((zv uR ?_))
 intro w172 j aU
 exact fun l q m=>⟨(exiA a (exiA j (zG ((m 1 dc).trans s) (zG q (aT.new aU))))),zj⟩
 intro ce vals w175 aV aW aX
 have ac:ce∈[3]:=aV
 simp only[yF]at ac
 subst ac
 obtain⟨a,j,s,A,Q⟩:=aW
 refine obl rfl ?_
 have cf:vals 4=(.agg ((yI d L e).cells a).toArray:Value):=aX 4 dc a s
 have al:=Q.r1
 have hr183s:_*8≤_:=al.2
 refine(zr (v:=.agg ((yI d L e).cells a).toArray) (c':=((yI d L e).cells a).toArray) tT A cf (Q.b0) (zZ ⟨rfl,rfl,rfl,al.1.one,rfl,rfl,rfl,rfl,rfl,rfl,rfl,rfl,rfl,zj⟩) yqc rfl ?_)
 intro w181 aY
 exact fun l q m=>⟨(exiA a (exiA j (zG ((m 1 dc).trans s) (zG ((m 5 dc).trans A) (Q.pt0 aY))))),zj⟩
 intro vals w185 aZ hA187
 obtain⟨a,j,s,A,ba⟩:=aZ
 let cq:=(yI d L e).cells a
 refine yd (kv:=[(0,Ix b 0),(1,.agg (e.cells de0).toArray),(3,Ix b2 0),(4,Ix P 0),(9,Ix b 0),(10,.agg (e.cells de0).toArray),(11,.tuple #[.bool ((ye d L e).1),.agg #[Iv ((ye d L e).2.1),Iv ((ye d L e).2.2)]]),(8,.tuple #[.bool ((ye d L e).1),.agg #[Iv ((ye d L e).2.1),Iv ((ye d L e).2.2)]]),(12,.bool ((ye d L e).1)),(13,.agg #[Iv ((ye d L e).2.1),Iv ((ye d L e).2.2)]),(6,Ix K 0),(5,.bool ((ye d L e).1)),(7,Ix j 0)]) ⟨rfl,rfl,rfl,rfl,rfl,rfl,rfl,rfl,rfl,rfl,rfl,rfl,(by exact A),zj⟩ (fun ρw185=>(zb (za ?_)))
 refine WD4 ((fun TT y N M E F O=>WF [fun vals x=>Sep G W (y::N::M::E::F::O::TT) x,fun vals x=> ∃(p:Nat),(vals 6=((Iy p 1 1):Value))∧Sep G W ((Blk p cq.toArray 96)::y::N::M::E::F::O::TT) x,fun vals x=> ∃(p:Nat) (n:Value),(vals 6=((Iy p 1 1):Value))∧(vals 7=(n:Value))∧Sep G W ((RowE (α:=Ent) own 96 n (L++[(yI d L e)]))::y::M::E::F::TT) x,fun vals x=> ∃(p:Nat) (n:Value),(vals 6=((Iy p 1 1):Value))∧(vals 7=(n:Value))∧Sep G W ((RowE (α:=Ent) own 96 n (L++[(yI d L e)]))::y::(Blk b #[t,u,n] 103)::E::F::TT) x]) (cp::bo::cr::Rs) (Blk j cq.toArray 96) (RowE (α:=Int) own 3 a e.deps) (Blk b #[t,u,z] 103) (RowE (α:=Typ) own 74 t d.types) (RowE (α:=Prj) own 112 u d.projs) (RowE (α:=Ent) own 96 z L)) (AF [Vl 0 (Ix b 0),Vl 1 (Ix b 0),Vl 2 (Ix b 0),Vl 3 (Ix b 2),Vl 4 z,Vl 5 (.agg cq.toArray),fun _=>True,fun _=>True,Vl 8 (Ix b 0),Vl 9 (Ix b 2),fun _=>True]) [[],[],[1],[1,2],[1,2,3],[],[5],[1,2,3,4,5,6],(rg 8),(rg 9),(rg 10)] [6,7,10] [(0,2),(0,1),(0,1),(0,1),(0,1),(0,0),(0,0),(1,1),(2,2),(2,2),(2,2)] ba ⟨fun _ _ _ _ _ _ _=>obl rfl (mV (Ix b 0) dR),fun _ _ _ _ _ _ _=>obl rfl (mV (Ix b 0) dR),fun _ _ _ _ _ _ bb=>obl rfl (zx (b:=b) (o:=0) (bb 1 dc) dR),fun _ _ _ _ _ _ bc=>obl rfl (ZL (bc 2 dc) dR),?_,ob1 0 fun _ _ (bd:Sep _ _ _ _) _=>obl rfl (ze (k:=13) uY tT rfl rfl (zi (bd.b0)) dR),?_,?_,fun _ _ _ _ _ _ be=>obl rfl (zx (b:=b) (o:=0) (be 0 dc) dR),fun _ _ _ _ _ _ bf=>obl rfl (ZL (bf 8 dc) dR),?_,zj⟩ ?_
 refine fun R _ _ cg ch am an=>?_
 have hkk:=xz cg ch
 rcases hkk with rfl|rfl
 have bg:Sep _ _ _ _:=am
 exact obl rfl (lD z wT (an 3 dc) (zd (bg.b2) rfl) dR)
 obtain⟨p,D,bh⟩:=am
 exact obl rfl (lD z wT (an 3 dc) (zd (bh.b3) rfl) dR)
 refine ob1 0 fun _ _ (bi:Sep _ _ _ _) bj=>(obl rfl ((zL (k:=13) (parts':=[(0,.agg cq.toArray)]) (c:=cq.toArray) mR tT uR dc (ZH ⟨rfl,(bj 5 dc),zj⟩) kr ?_)))
 intro w240 p bk
 exact fun l q m=>⟨(exiA p (zG q (bi.new bk))),zj⟩
 refine ob1 1 fun _ _ bl bm=>?_
 obtain⟨p,D,ao⟩:=bl
 refine obl rfl ?_
 have aA:=ao.b0
 refine(yx (src:=own) (bytes:=120) (x1:=(yI d L e)) (ao.s10_gcbdefhij) zcP (bm 4 (by decide)) D aA (fun _ _ hN=>⟨_,rfl,RowE.soft hN,hek⟩) yqb rfl ?_)
 intro n w251 ap
 have bn:=ap.r0
 have hr256s:_*120≤_:=bn.2
 exact fun l q m=>⟨(exiA p (exiA n (zG ((m 6 dc).trans D) (zG q ap)))),zj⟩
 refine ob1 2 fun _ _ bp bq=>?_
 obtain⟨p,n,D,S,T⟩:=bp
 refine obl rfl ?_
 have aq:=T.r0
 have hr282s:_*120≤_:=aq.2
 refine(yr (v:=n) (c:=[t,u,z]) (c':=[t,u,n]) Tryz.sizeOf56 (bq 9 dc) S (T.b2) aq.1.one rfl rfl ?_)
 intro w280 br
 exact fun l q m=>⟨(exiA p (exiA n (zG ((m 6 dc).trans D) (zG ((m 7 dc).trans S) (T.pt2 br))))),zj⟩
 intro vals w341 bs hA343
 obtain⟨p,n,D,S,bt⟩:=bs
 refine yd (kv:=[(0,Ix b 0),(1,.agg (e.cells de0).toArray),(3,Ix b2 0),(4,Ix P 0),(9,Ix b 0),(10,.agg (e.cells de0).toArray),(11,.tuple #[.bool ((ye d L e).1),.agg #[Iv ((ye d L e).2.1),Iv ((ye d L e).2.2)]]),(8,.tuple #[.bool ((ye d L e).1),.agg #[Iv ((ye d L e).2.1),Iv ((ye d L e).2.2)]]),(12,.bool ((ye d L e).1)),(13,.agg #[Iv ((ye d L e).2.1),Iv ((ye d L e).2.2)]),(6,Ix K 0),(5,.bool ((ye d L e).1)),(7,Ix j 0)]) sEv (fun ρw341=>(zb (za ?_)))
 refine WD4 ((fun TT y N M E F O bJ=>WF [fun vals x=>Sep G W (y::N::M::E::F::O::bJ::TT) x,fun vals x=> ∃(g:Value),(vals 1=(.agg (e.cells g).toArray:Value))∧Sep G W ((RowE (α:=Int) own 3 g e.deps)::y::N::M::E::F::O::bJ::TT) x,fun vals x=> ∃(g:Value),(vals 1=(.agg (e.cells g).toArray:Value))∧Sep G W ((RowE (α:=Int) own 3 g e.deps)::y::N::M::E::F::O::(Blk P ((yI d L e).cells g).toArray 96)::TT) x]) (cr::Rs) (RowE (α:=Ent) own 96 n (L++[(yI d L e)])) (Blk j cq.toArray 96) (Blk b #[t,u,n] 103) (RowE (α:=Typ) own 74 t d.types) (RowE (α:=Prj) own 112 u d.projs) cp bo) (AF [Vl 0 (.agg (e.cells de0).toArray),fun _=>True,Vl 2 (.bool ((ye d L e).1)),Vl 3 (.agg #[Iv ((ye d L e).2.1),Iv ((ye d L e).2.2)]),fun vals=> ∀(g:Value),vals 1=(.agg (e.cells g).toArray:Value)→vals 4=(.agg ((yI d L e).cells g).toArray:Value),fun _=>True]) [[],[0],[],[],(rg 4),(rg 5)] [1,5] [(0,0),(0,0),(0,1),(0,1),(1,1),(1,1)] bt ⟨ob1 0 fun _ _ (bu:Sep _ _ _ _) _=>obl rfl (ze (k:=10) pT lT rfl rfl (zi (bu.b7)) dR),?_,fun _ _ _ _ _ _ _=>obl rfl (mV (.bool ((ye d L e).1)) dR),?_,?_,?_,zj⟩ ?_ (hlocA:=xd ⟨dA,dT,dA,dA,fun vals l q h=>fun g C=>(q 4 (.inl rfl)).trans (h g ((q 1 (.inr dc)).symm.trans C)),dT,zj⟩)
 refine ob1 0 fun vals _ (bv:Sep _ _ _ _) bw=>(obl rfl ((zO (f:=56) (vals:=[.agg (e.cells de0).toArray]) (cap:=[]) rfl (yK ⟨(bw 0 dc),zj⟩) vR (xF (e:=e) hde0 oe bv) ?_)))
 rintro _ w361 ⟨g,rfl,ar⟩
 have bx:=ar.r0
 have hr363s:_*8≤_:=bx.2
 exact fun l q m=>⟨(exiA g (zG q ar)),zj⟩
 refine fun U _ _ ci cj au _=>?_
 have hkk:=xz ci cj
 rcases hkk with rfl|rfl
 have bz:Sep _ _ _ _:=au
 exact obl rfl (ze (k:=2) oT mT rfl rfl (zi (bz.b5)) dR)
 obtain⟨g,B,bA⟩:=au
 exact obl rfl (ze (k:=2) oT mT rfl rfl (zi (bA.b6)) dR)
 refine ob1 1 fun _ _ bB av=>?_
 obtain⟨g,B,hS426⟩:=bB
 refine obl rfl (zQ (parts':=[(0,.agg (e.cells g).toArray),(1,.bool ((ye d L e).1)),(2,.agg #[Iv ((ye d L e).2.1),Iv ((ye d L e).2.2)])]) (v:=.agg ((yI d L e).cells g).toArray) (ZH ⟨rfl,B,rfl,(av 2 (by decide)),rfl,(av 3 (by decide)),zj⟩) (by simp+zetaDelta [Instr.build,Instr.fill,go_sem,Ent.cells,Ev.cells,yI]) (fun l q m=>⟨rfl,?_⟩))
 intro v360q C
 rw[m 1 (by decide)]at C;cases B.symm.trans C
 exact q
 refine ob1 1 fun vals _ bC bD=>?_
 obtain⟨g,B,V⟩:=bC
 have ck:vals 4=(.agg ((yI d L e).cells g).toArray:Value):=bD 4 dc g B
 refine obl rfl ?_
 have aw:=V.r0
 have hr397s:_*8≤_:=aw.2
 refine(zr (v:=.agg ((yI d L e).cells g).toArray) (c':=((yI d L e).cells g).toArray) tT rfl ck (V.b7) (zZ ⟨rfl,rfl,rfl,aw.1.one,rfl,rfl,rfl,rfl,rfl,rfl,rfl,rfl,rfl,zj⟩) yqc rfl ?_)
 intro w395 bE
 exact fun l q m=>⟨(exiA g (zG ((m 1 dc).trans B) (V.pt7 bE))),zj⟩
 intro vals cl bF hA431
 obtain⟨g,B,ax⟩:=bF
 refine yd (kv:=[(0,Ix b 0),(1,.agg (e.cells de0).toArray),(3,Ix b2 0),(4,Ix P 0),(9,Ix b 0),(10,.agg (e.cells de0).toArray),(11,.tuple #[.bool ((ye d L e).1),.agg #[Iv ((ye d L e).2.1),Iv ((ye d L e).2.2)]]),(8,.tuple #[.bool ((ye d L e).1),.agg #[Iv ((ye d L e).2.1),Iv ((ye d L e).2.2)]]),(12,.bool ((ye d L e).1)),(13,.agg #[Iv ((ye d L e).2.1),Iv ((ye d L e).2.2)]),(6,Ix K 0),(5,.bool ((ye d L e).1)),(7,Ix j 0)]) sEv (fun ρw429=>(zb (zo (VU (b:=P) Tryz.results75 uY tT rfl rfl (zi (ax.b7)) ?_))))
 have bG:Sep _ _ ((RefV b d (L++[yI d L e]))::_) _:=RefV.close (d:=d) (L:=(L++[yI d L e])) (ax.s9_defbacghi)
 have bH:Sep G W ((RefV b d (L++[yI d L e]))::(RowE (α:=Int) own 3 g e.deps)::Rs) cl:=bG.sel 6 [0,1] (yL _ _) rfl rfl
 refine⟨g,rfl,hek,bH⟩
section
variable {n:Nat}{L T:List Ev}{e x:Ev}
theorem Jm: ∀{T:List Ev},(∀x∈T,Yt x e<0)→xE e T=T++[e]
 |[],_=>rfl
 |x::l,h=>by
  have h1:=h x (List.mem_cons_self ..)
  have h2: ¬ltE e x=true:=fun h3=>zaC h1 (UZ.1 h3)
  simp only[xE]
  rw[if_neg h2,Jm fun y hy=>h y (List.mem_cons_of_mem _ hy)];rfl
theorem Good.at_lt (h:Good n L){i j:Nat}(hij:i<j)(hj:j<L.length):Yt (L.getD i default) (L.getD j default)<0:=by
 rw[zK _ (by omega),zK _ hj]
 exact List.pairwise_iff_getElem.1 h.srt i j (by omega) hj hij
theorem zbE {i:Nat}(hx:x∈L.take i): ∃j,j<i∧j<L.length∧x=L.getD j default:=by
 obtain⟨j,hj,rfl⟩:=List.getElem_of_mem hx
 rw[List.length_take]at hj
 refine⟨j,by omega,by omega,?_⟩
 rw[zK _ (by omega),List.getElem_take]
theorem QH {i:Nat}(hi:i<L.length):L.getD i default∈L:=by rw[zK _ hi];exact List.getElem_mem hi
theorem ZU {i:Nat}(hi:i<L.length):L.take (i+1)=L.take i++[L.getD i default]:=by
 rw[List.take_succ_eq_append_getElem hi,zK _ hi]
theorem Good.ins_take (h:Good n L){i:Nat}(hi:i<L.length):xE (L.getD i default) (L.take i)=L.take (i+1):=by
 rw[ZU hi]
 refine Jm fun x hx=>?_
 obtain⟨j,h1,h2,rfl⟩:=zbE hx
 exact h.at_lt h1 hi
theorem zcG (h:Good n L){i:Nat}(hi:i<L.length):(zw n (L.take i)).set (L.getD i default).origin.toNat ((zw n (L.take i)).getD (L.getD i default).origin.toNat 0+1)=zw n (L.take (i+1)):=by
 obtain⟨⟨h0,h1⟩,_⟩:=Zq (h.chk _ (QH hi))
 rw[Xd (by omega),JG h0 h1,h.ins_take hi]
theorem Good.chk_at (h:Good n L){i:Nat}(hi:i<L.length):(0≤(L.getD i default).origin∧(L.getD i default).origin<n)∧(L.getD i default).deps.length=n:=by
 obtain⟨h0,_,h2,_⟩:=Zq (h.chk _ (QH hi))
 exact⟨h0,h2⟩
end
section
variable {n:Nat}{L:List Ev}{e:Ev}
theorem zbo: ∀{L:List Ev} {x:Ev},x∈L→x.lam≤zP L
 |y::l,x,hx=>by
  show x.lam≤max (zP l) y.lam
  rcases List.mem_cons.1 hx with rfl|hx
  ·omega
  ·have:=zbo hx;omega
theorem zcg: ∀{L:List Ev},L≠[]→(∀x∈L,1≤x.lam)→ ∃x∈L,zP L=x.lam
 |[y],_,h=>⟨y,List.mem_cons_self ..,by have:=h y (List.mem_cons_self ..);show max 0 y.lam=y.lam;omega⟩
 |y::z::l,_,h=>by
  obtain⟨x,hx,he⟩:=zcg (L:=z::l) (by simp) (fun x hx=>h x (List.mem_cons_of_mem _ hx))
  have e:zP (y::z::l)=max (zP (z::l)) y.lam:=rfl
  rcases Int.le_total (zP (z::l)) y.lam with h1|h1
  ·exact⟨y,List.mem_cons_self ..,by rw[e];omega⟩
  ·exact⟨x,List.mem_cons_of_mem _ hx,by rw[e];omega⟩
theorem Qz (h:Good n L)(hne:0<L.length):zP L=(L.getD (L.length-1) default).lam:=by
 have hl:L.length-1<L.length:=by omega
 rw[zK _ hl]
 obtain⟨x,hx,he⟩:=zcg (L:=L) (fun e=>by rw[e]at hne;exact absurd hne (Nat.lt_irrefl 0)) (fun x hx=>(Zq (h.chk x hx)).2.1.2)
 have h1:=zbo (List.getElem_mem hl)
 obtain⟨i,hi,rfl⟩:=List.getElem_of_mem hx
 by_cases hil:i=L.length-1
 ·subst hil;exact he
 ·have:=List.pairwise_iff_getElem.1 h.srt i (L.length-1) hi hl (by omega)
  rw[Zi]at this
  omega
end
end
section
open Go.RowKit
theorem ov_as {P:Program}{o:Oper}{σ:Env}{w:World}{K:Value→World→Prop}{v v':Value}(h:v=v')(hop: ∀K':Value→World→Prop,K' v w→opV P o σ w K')(hK:K v' w):opV P o σ w K:=by subst h;exact hop K hK
def alt {α:Type}[Rep α](F:Nat→Prop)(W:World):Src α:=
 ⟨fun cs x=>⟨fun w f=>((own (α:=α)).el cs x).p w f∨Rep.rd W F cs x,fun h hf=>h.imp (fun h=>((own (α:=α)).el cs x).loc h hf) id⟩,fun{w f cs x} h=>h.elim (fun h=>(own (α:=α)).len (w:=w) (f:=f) h) Rep.len,fun{w f cs x} h=>h.elim (fun h=>(own (α:=α)).one (w:=w) (f:=f) h) Rep.one⟩
section
variable {α:Type}[Rep α]{G:Nat→Prop}{W w:World}{As:List HP}{T:TypeId}{v:Value}{l:List α}
theorem Sep.lendA (h:Sep G W (RowE (own (α:=α)) T v l::As) w): ∃F G':Nat→Prop,RdS w F v l∧Qb F w G' w∧Qb G W G' w∧Sep G' w As w∧
 (∀(T':TypeId) (v':Value) (l':List α) (Cs:List HP) (w':World),Sep G' w (RowE (alt F w) T' v' l'::Cs) w'→Sep G W (RowE (own (α:=α)) T' v' l'::Cs) w'):=by
 obtain⟨fs,h1,h2⟩:=h.parts
 obtain⟨hA,hl⟩:=h1 0 _ rfl
 refine⟨fun b=>fs 0 b∧Soft w b,fun b=>G b∨fs 0 b,RowE.soft hA,fun b hb _=>⟨rfl,.inr hb.1⟩,fun b hb hlt=>⟨(h.kept.keep b hb).2,.inl hb⟩,⟨Kept.refl (fun b hb=>?_),fun i=>fs (i+1),fun i C hC=>?_,fun i j hi hj hne=>?_⟩,fun T' v' l' Cs w' hC=>?_⟩
 ·rcases hb with hb|hb
  ·have:=(h.kept.keep b hb).1;have:=h.kept.size;omega
  ·exact(hl b hb).2
 ·obtain⟨h3,h4⟩:=h1 (i+1) C (by simpa using hC)
  have hi:=(List.getElem?_eq_some_iff.1 hC).1
  exact⟨h3,fun b hb=>⟨fun hg=>hg.elim (h4 b hb).1 (fun h0=>h2 0 (i+1) (by simp) (by simp;omega) (by omega) b h0 hb),(h4 b hb).2⟩⟩
 ·exact h2 _ _ (by simp;omega) (by simp;omega) (by omega)
 ·obtain⟨gs,g1,g2⟩:=hC.parts
  have hkA: ∀b,fs 0 b→w'.heap[b]? =w.heap[b]? :=fun b hb=>(hC.kept.keep b (.inr hb)).2
  have old: ∀j,j<Cs.length+1→ ∀b,gs j b→ ¬fs 0 b:=fun j hj b hb h0=>((g1 j _ (List.getElem?_eq_getElem (by simpa using hj))).2 b hb).1 (.inr h0)
  refine⟨⟨hC.kept.os.trans h.kept.os,hC.kept.tape.trans h.kept.tape,hC.kept.output.trans h.kept.output,Nat.le_trans h.kept.size hC.kept.size,Nat.le_trans h.kept.drawn hC.kept.drawn,fun b hb=>⟨(h.kept.keep b hb).1,((hC.kept.keep b (.inl hb)).2).trans (h.kept.keep b hb).2⟩⟩,
   fun i b=>match i with|0=>gs 0 b∨fs 0 b|i+1=>gs (i+1) b,fun i D hD=>?_,fun i j hi hj hne b hb=>?_⟩
  ·cases i with
   |zero=>
    simp only[List.getElem?_cons_zero,Option.some.injEq]at hD
    subst hD
    obtain⟨⟨css,hE,hown,hrow,hsm⟩,h4⟩:=g1 0 _ rfl
    refine⟨⟨css,hE.mono (fun cs x hx=>?_),hown,fun b hb=>.inl (hrow b hb),hsm⟩,fun b hb=>?_⟩
    ·rcases hx with hx|hx
     ·exact((own (α:=α)).el cs x).weak hx (fun b hb _=>⟨.inl hb.1,hb.2⟩)
     ·exact Rep.mono hx (fun b hb hlt=>⟨hkA b hb.1,⟨.inr hb.1,fun e=>old 0 (Nat.succ_pos _) b (hrow b e) hb.1⟩,hb.2.keep (hkA b hb.1)⟩)
    ·rcases hb with hb|hb
     ·exact⟨fun hg=>(h4 b hb).1 (.inl hg),(h4 b hb).2⟩
     ·exact⟨(hl b hb).1,Nat.lt_of_lt_of_le (hl b hb).2 hC.kept.size⟩
   |succ i=>
    obtain⟨h3,h4⟩:=g1 (i+1) D hD
    exact⟨h3,fun b hb=>⟨fun hg=>(h4 b hb).1 (.inl hg),(h4 b hb).2⟩⟩
  ·simp only[List.length_cons]at hi hj
   cases i with
   |zero=>
    cases j with
    |zero=>exact(hne rfl).elim
    |succ j=>
     intro hb2
     rcases hb with hb|hb
     ·exact g2 0 (j+1) (by simp) (by simpa using hj) (by omega) b hb hb2
     ·exact old (j+1) hj b hb2 hb
   |succ i=>
    cases j with
    |zero=>
     rintro(hb2|hb2)
     ·exact g2 (i+1) 0 (by simpa using hi) (by simp) (by omega) b hb hb2
     ·exact old (i+1) hi b hb hb2
    |succ j=>exact g2 (i+1) (j+1) (by simpa using hi) (by simpa using hj) hne b hb
end
theorem RdS.evG {w:World}{F:Nat→Prop}{v:Value}{l:List Ev}{i:Nat}(h:RdS w F v l)(hi:i<l.length):Rep.rd w F ((l.getD i default).cells (zV w (sb v) (so v+i*10+3))) (l.getD i default):=by
 obtain⟨_,h1,h2⟩:=h.ev hi
 rw[zK default hi]
 exact⟨_,rfl,h1,h2⟩
end
section
open Go.Proofs Go.RowKit
def RefS (b n:Nat)(L:List Ev):HP:=Ex1 fun vl=>Star [Blk b #[.int .i64 ((n:Nat):Int),vl] 93,RowE (α:=Ev) own 44 vl L]
section
variable {G:Nat→Prop}{W w:World}{As:List HP}{b n:Nat}{L:List Ev}
theorem RefS.open (h:Sep G W (RefS b n L::As) w): ∃vl,Sep G W (Blk b #[.int .i64 ((n:Nat):Int),vl] 93::RowE (α:=Ev) own 44 vl L::As) w:=by
 obtain⟨vl,h⟩:=h.openEx
 exact⟨vl,h.openStar⟩
theorem RefS.close {vl:Value}(h:Sep G W (Blk b #[.int .i64 ((n:Nat):Int),vl] 93::RowE (α:=Ev) own 44 vl L::As) w):Sep G W (RefS b n L::As) w:=Sep.closeEx (A:=fun vl=>Star [Blk b #[.int .i64 ((n:Nat):Int),vl] 93,RowE (α:=Ev) own 44 vl L]) vl (Sep.closeStar (Bs:=[Blk b #[.int .i64 ((n:Nat):Int),vl] 93,RowE (α:=Ev) own 44 vl L]) h)
theorem RefS.sh (h:(RefS b n L).p W G): ∃vl,(Blk b #[.int .i64 ((n:Nat):Int),vl] 93).p W G∧RdS W G vl L:=by
 obtain⟨vl,h⟩:=h
 exact⟨vl,Star.at_ h (i:=0) rfl,RowE.rd (T:=44) (Star.at_ h (i:=1) rfl)⟩
end
theorem zcU {n:Nat}(hn:n≤1000)(hS0:Sep G W Rs w):Ret Tryz.prog 31 [.int .i64 ((n:Nat):Int)] w (fun r w'=> ∃(b:Nat),r=(.pointer (some ⟨b,0,none⟩):Value)∧Sep G W ((RefS b n ([]:List Ev))::Rs) w'):=by
 refine zm Tryz.func31 rfl rfl ?_
 refine za (yy (by kernel_rfl) (fun _=>(st (aS (.pointer none) (zb (za (yy (by kernel_rfl) (fun _=>(st (mV (Iw n) (st (zQ (parts':=[(0,Iw n)]) (v:=.agg #[Iw n,(Iz)]) rfl (by simp[Instr.build,Instr.fill,go_sem]) (st (zT rfl ?_))))))))))))))
 intro e b2 a
 refine st (aS (Ix b2 0) (zb (zo (zN Tryz.results31 rfl ?_))))
 have c:Sep _ _ ((RowE (α:=Ev) own 44 Iz [])::_) _:=(hS0.new a).rowNil own 44
 have d:Sep G W ((RefS b2 n ([]:List Ev))::Rs) e:=RefS.close (c.mv1)
 refine⟨b2,rfl,d⟩
theorem zdf {b:Nat}{n:Nat}{L:List Ev}(hb:(RefS b n L).p W G)(hS0:Sep G W Rs w)(hG:Good n L):Ret Tryz.prog 51 [.pointer (some ⟨b,0,none⟩)] w (fun r w'=>r=(.int .i64 ((zP L)):Value)∧(InR (zP L))∧Sep G W Rs w'):=by
 refine zm Tryz.func51 rfl rfl ?_
 obtain⟨c,l,d⟩:=RefS.sh hb
 have hsm4:L.length*96≤140737488355328:=d.small
 refine za (R0 fun _=>st (aS (Iv 0) (zb (za (za (R0 fun _=>st (mV (Ix b 0) (st (zx rfl (st (xK rfl (st (lD c uT rfl (zd (hS0.gblk l) rfl) (st (zS vT rfl d.sl (st (zR rfl rfl (zb ?_))))))))))))))))))
 cases f:decide (((L.length:Nat):Int)=0)
 have f:=fD f
 refine zf rfl (zp (za ?_))
 refine WD4 (WF [fun vals Q=>Sep G W Rs Q]) (AF [Vl 0 (Ix b 0),Vl 1 (Ix b 0),Vl 2 (Ix b 1),Vl 3 c,Vl 4 (Ix b 0),Vl 5 (Ix b 0),Vl 6 (Ix b 1),Vl 7 c,Vl 8 (Iw L.length),Vl 9 (Iw (L.length-1)),Vl 10 (Ix (sb c) (so c+(L.length-1)*10)),Vl 11 (Ix (sb c) (so c+(L.length-1)*10+2)),Vl 12 (Iv ((L.gd (L.length-1)).lam)),Vl 13 (Iv ((L.gd (L.length-1)).lam))]) [[],[0],[0,1],[0,1,2],[],[4],[4,5],[4,5,6],[4,5,6,7],[4,5,6,7,8],(rg 10),(rg 11),(rg 12),(rg 13)] [] [(0,0),(0,0),(0,0),(0,0),(0,0),(0,0),(0,0),(0,0),(0,0),(0,0),(0,0),(0,0),(0,0),(0,0)] hS0 ⟨fun _ _ _ _ _ _ _=>obl rfl (mV (Ix b 0) dR),fun _ _ _ _ _ _ s=>obl rfl (zx (s 0 dc) dR),fun _ _ _ _ _ _ t=>obl rfl (xK (t 1 dc) dR),ob1 0 fun _ _ (u:Sep _ _ _ _) x=>obl rfl (lD c uT (x 2 dc) (zd (u.gblk l) rfl) dR),fun _ _ _ _ _ _ _=>obl rfl (mV (Ix b 0) dR),fun _ _ _ _ _ _ y=>obl rfl (zx (y 4 dc) dR),fun _ _ _ _ _ _ z=>obl rfl (xK (z 5 dc) dR),ob1 0 fun _ _ (A:Sep _ _ _ _) B=>obl rfl (lD c uT (B 6 dc) (zd (A.gblk l) rfl) dR),ob1 0 fun _ _ _ C=>obl rfl (zS vT (C 7 dc) d.sl dR),?_,?_,fun _ _ _ _ _ _ D=>obl rfl (xQ (D 10 dc) dR),?_,fun _ _ _ _ _ _ E=>obl rfl (ya (E 12 dc) dR),zj⟩ ?_
 refine ob1 0 fun _ _ _ F=>(obl rfl ?_)
 have H:InR ((L.length-1:Nat):Int):=bo
 exact YK (r:=((L.length-1:Nat):Int)) (F 8 (by decide)) rfl (by rw[show(((L.length:Nat):Int)-1:Int)=((L.length-1:Nat):Int)from bo];exact zJ H) dR
 refine ob1 0 fun _ _ _ g=>(obl rfl ?_)
 have I:L.length-1<L.length:=bo
 exact zn (k:=10) vT lT (g 3 dc) d.sl (g 9 dc) I dR
 refine ob1 0 fun _ _ (J:Sep _ _ _ _) K=>(obl rfl ?_)
 have h:L.length-1<L.length:=bo
 obtain⟨m,e,hoke213⟩:=d.evD h
 have q:=J.cells m (d.foot (ne_of_lt h))
 exact lD (Iv ((L.gd (L.length-1)).lam)) kT (K 11 dc) (q.get (j:=2) rfl) dR
 intro vals w224 M N
 have O:=M
 have P:=N 13 dc
 refine yd (kv:=[(0,Ix b 0),(2,Iv ((L.gd (L.length-1)).lam)),(3,Ix b 0),(4,Ix b 0),(5,Ix b 1),(6,c),(7,Iw L.length),(8,.bool false)]) ⟨rfl,(by exact P),rfl,rfl,rfl,rfl,rfl,rfl,zj⟩ (fun ρw224=>(zb (zo (zN vY (show _=(Iv ((L.gd (L.length-1)).lam):Value)from rfl) ?_))))
 refine⟨?_,?_,O⟩
 rw[Qz hG (by omega)]
 rw[Qz hG (by omega),zK default (by omega)];exact(d.ev (by omega)).2.2.lam
 have f:=tD f
 refine zg rfl (za (R0 fun _=>st (aS (Iv 0) (zb (zo (zN vY (show _=(Iv 0:Value)from rfl) ?_))))))
 refine⟨?_,?_,hS0⟩
 rw[show L=[]from List.length_eq_zero_iff.1 (by omega)];rfl
 rw[show L=[]from List.length_eq_zero_iff.1 (by omega)];decide
section
variable {L:List Ev}{o q:Int}{k:Nat}
theorem zdk (hm: ∀i,i<k→ ¬((L.getD i default).origin=o∧(L.getD i default).seq=q))(hk:k<L.length)(h:(L.getD k default).origin=o∧(L.getD k default).seq=q):yp L (o,q)=some (L.getD k default):=by
 unfold yp
 rw[List.find?_eq_some_iff_getElem,zK _ hk]
 rw[zK _ hk]at h
 refine⟨by simpa using h,k,hk,rfl,fun i hi=>?_⟩
 have:=hm i hi
 rw[zK _ (by omega)]at this
 rw[decide_eq_false this];rfl
theorem zbS (hm: ∀i,i<L.length→ ¬((L.getD i default).origin=o∧(L.getD i default).seq=q)):yp L (o,q)=none:=by
 unfold yp
 rw[List.find?_eq_none]
 intro x hx
 obtain⟨i,hi,rfl⟩:=List.getElem_of_mem hx
 have:=hm i hi
 rw[zK _ hi]at this
 rw[decide_eq_false this];decide
end
theorem Jl {b:Nat}{n:Nat}{L:List Ev}(hb:(RefS b n L).p W G){o q:Int}(ho:InR o)(hq:InR q)(hS0:Sep G W Rs w):Ret Tryz.prog 71 [.pointer (some ⟨b,0,none⟩),.agg #[.int .i64 (o),.int .i64 (q)]] w (fun r w'=> ∃(v:Value),r=(.tuple #[.agg (((yp L (o,q)).getD default).cells v).toArray,.bool (yp L (o,q)).isSome]:Value)∧(((yp L (o,q)).getD default).Ok)∧Sep G W ((RowE (α:=Int) own 3 v (((yp L (o,q)).getD default).deps))::Rs) w'):=by
 refine zm Tryz.func71 rfl rfl ?_
 let p:=((⟨0,0,0,[],0,0,0,0,0,0⟩:Ev).cells Iz)
 obtain⟨d,F,f⟩:=RefS.sh hb
 have hsm4:L.length*96≤140737488355328:=f.small
 refine za (R0 fun _=>st (zT rfl ?_))
 intro w7 N ai
 refine st (zv sR ?_)
 intro w11 l aj
 refine st (aS (.bool false) (zb (za (za (R0 fun _=>st (aS (Iv 0) (zb (zu (yf (fun mq σ wq=> ∃k ρ,mq=L.length-k∧σ=yo ρ [(3,Ix N 0),(4,Ix l 0),(0,Ix b 0),(6,Iw k)]∧(k≤L.length)∧(∀i,i<k→ ¬((L.gd i).origin=o∧(L.gd i).seq=q))∧Sep G W ((Blk l #[Iv 0,Iv 0,Iv 0,(Iz),Iv 0,Iv 0,Iv 0,Iv 0,Iv 0,Iv 0] 44)::(Blk N #[Iv o,Iv q] 41)::Rs) wq) ⟨0,_,rfl,sSf,zY _,(fun i h=>absurd h (yO i)),((hS0.new ai).new aj)⟩ ?_)))))))))
 rintro m14 σ15 w13 ⟨k,ρl1,rfl,rfl,hkk,hm,s⟩
 refine za (za (R0 fun _=>st (mV (Iw k) (st (mV (Ix b 0) (st (zx rfl (st (xK rfl (st (lD d uT rfl (zd (s.gblk F) rfl) (st (zS vT rfl f.sl (st (zI rfl rfl (zb ?_))))))))))))))))
 cases t:decide (((k:Nat):Int)<((L.length:Nat):Int))
 have t:=fD t
 refine zf rfl (yh (zX (za (R0 fun _=>?_))))
 have ae:Ev.Ok (⟨0,0,0,[],0,0,0,0,0,0⟩:Ev):=⟨(show InR (0)from dc),(show InR (0)from dc),(show InR (0)from dc),(show InR (0)from dc),(show InR (0)from dc),(show InR (0)from dc),(show InR (0)from dc),(show InR (0)from dc),(show InR (0)from dc)⟩
 refine st (zQ (parts':=[]) (v:=.agg p.toArray) rfl (by simp+zetaDelta [Instr.build,Instr.fill,go_sem,Zd]) (stn (zr (v:=.agg p.toArray) lT rfl rfl (s.b0) (zZ ⟨rfl,rfl,rfl,rfl,rfl,rfl,rfl,rfl,rfl,rfl,zj⟩) yqc rfl ?_)))
 intro w19 af
 have H:=s.pt0 af
 refine st (aS (.bool false) (zb (zo (xY wY pT lT rfl rfl (zi (H.b0)) (show _=(.bool false:Value)from rfl) ?_))))
 have ag:Sep _ _ ((RowE (α:=Int) own 3 Iz [])::_) _:=H.rowNil own 3
 rw[zbS (fun i hi=>hm i (by omega))]
 refine⟨(Iz),?_,?_,(ag.s3_a)⟩
 rfl
 exact ae
 have t:=tD t
 refine zg rfl (zp (za (zu (za ?_))))
 refine WD4 (WF [fun vals wq=>Sep G W ((Blk l #[Iv 0,Iv 0,Iv 0,(Iz),Iv 0,Iv 0,Iv 0,Iv 0,Iv 0,Iv 0] 44)::(Blk N #[Iv o,Iv q] 41)::Rs) wq]) (AF [Vl 0 (Ix b 0),Vl 1 (Ix b 0),Vl 2 (Ix b 1),Vl 3 d,Vl 4 (Iw k),Vl 5 (Ix (sb d) (so d+k*10)),Vl 6 (Ix (sb d) (so d+k*10)),Vl 7 (.agg #[Iv ((L.gd k).origin),Iv ((L.gd k).seq)]),Vl 8 (.agg #[Iv o,Iv q]),Vl 9 (.bool (decide ((L.gd k).origin=o∧(L.gd k).seq=q)))]) [[],[0],[0,1],[0,1,2],[],(rg 5),(rg 6),(rg 7),[],(rg 9)] [] [(0,0),(0,0),(0,0),(0,0),(0,0),(0,0),(0,0),(0,0),(0,0),(0,0)] s ⟨fun _ _ _ _ _ _ _=>obl rfl (mV (Ix b 0) dR),fun _ _ _ _ _ _ O=>obl rfl (zx (O 0 dc) dR),fun _ _ _ _ _ _ P=>obl rfl (xK (P 1 dc) dR),ob1 0 fun _ _ (Q:Sep _ _ _ _) R=>obl rfl (lD d uT (R 2 dc) (zd (Q.gblk F) rfl) dR),fun _ _ _ _ _ _ _=>obl rfl (mV (Iw k) dR),?_,fun _ _ _ _ _ _ S=>obl rfl (yA (S 5 dc) dR),?_,ob1 0 fun _ _ (T:Sep _ _ _ _) _=>obl rfl (ze oT mT rfl rfl (zi (T.b1)) dR),ob1 0 fun _ _ _ z=>obl rfl (Yv (e:=decide ((L.gd k).origin=o∧(L.gd k).seq=q)) (xs:=#[Iv ((L.gd k).origin),Iv ((L.gd k).seq)]) (ys:=#[Iv o,Iv q]) zcl (z 7 dc) (z 8 dc) dR),zj⟩ ?_
 refine ob1 0 fun _ _ _ A=>(obl rfl ?_)
 have U:k<L.length:=bo
 exact zn (k:=10) vT lT (A 3 dc) f.sl (A 4 dc) U dR
 refine ob1 0 fun _ _ (V:Sep _ _ _ _) X=>(obl rfl ?_)
 have B:k<L.length:=bo
 obtain⟨I,x,hoke162⟩:=f.evD B
 have hsm164:((L.gd k).deps).length*8≤140737488355328:=x.small
 have J:=V.cells I (f.foot (ne_of_lt B))
 exact ze oT mT rfl (X 6 dc) (CellsAt.sub J 0 rfl) dR
 intro vals w182 Y Z
 have g:=Y
 have ah:=Z 9 dc
 refine yd (kv:=[(3,Ix N 0),(4,Ix l 0),(0,Ix b 0),(6,Iw k),(7,Iw k),(8,Ix b 0),(9,Ix b 0),(10,Ix b 1),(11,d),(12,Iw L.length),(13,.bool true),(25,.bool (decide ((L.gd k).origin=o∧(L.gd k).seq=q)))]) ⟨rfl,rfl,rfl,rfl,rfl,rfl,rfl,rfl,rfl,rfl,rfl,(by exact ah),zj⟩ (fun ρw182=>(zb ?_))
 cases c:decide ((L.gd k).origin=o∧(L.gd k).seq=q)
 have c:=fD c
 refine zf rfl (zp (R0 fun _=>st (mV (Iw k) ?_)))
 have aa:InR ((k+1:Nat):Int):=bo
 refine st (zU (r:=((k+1:Nat):Int)) rfl rfl (by rw[show(((k:Nat):Int)+1:Int)=((k+1:Nat):Int)from bo];exact zJ aa) (st (aS (Iw (k+1)) (zb ?_))))
 exact⟨_,by omega,k+1,_,rfl,sSf,by omega,(yU hm (by simpa using c)),g⟩
 have c:=tD c
 refine zg rfl (za (R0 fun _=>st (mV (Ix b 0) (st (zx rfl (st (xK rfl (st (lD d uT rfl (zd (g.gblk F) rfl) (st (mV (Iw k) ?_)))))))))))
 have ab:k<L.length:=bo
 refine st (zn (k:=10) vT lT rfl f.sl rfl ab ?_)
 have C:k<L.length:=bo
 obtain⟨K,j,m⟩:=f.evD C
 have M:=g.cells K (f.foot (ne_of_lt C))
 refine st (ze pT lT rfl rfl M (st (cL vR (xF j m g) ?_)))
 rintro _ w195 ⟨y,rfl,u⟩
 have D:=u.r0
 refine stn (zr (v:=.agg ((L.gd k).cells y).toArray) lT rfl rfl (u.b1) (zZ ⟨rfl,rfl,rfl,D.1.one,rfl,rfl,rfl,rfl,rfl,rfl,zj⟩) yqc rfl ?_)
 intro w198 ac
 have E:=u.pt1 ac
 refine st (aS (.bool true) (zb (zo (xY wY pT lT rfl rfl (zi (E.b1)) (show _=(.bool true:Value)from rfl) ?_))))
 rw[zdk hm (by omega) (by simpa using c)]
 refine⟨y,?_,?_,(E.s3_a)⟩
 rfl
 exact m
end
section
open Go.Proofs Go.RowKit
theorem Qh {b:Nat}{n:Nat}{L:List Ev}(hb:(RefS b n L).p W G)(hS0:Sep G W Rs w)(hG:Good n L)(hn:n≤1000):Ret Tryz.prog 50 [.pointer (some ⟨b,0,none⟩)] w (fun r w'=> ∃(v:Value),r=(v:Value)∧Sep G W ((RowE (α:=Int) own 3 v (zw n L))::Rs) w'):=by
 refine zm Tryz.func50 rfl rfl ?_
 obtain⟨c,q,d⟩:=RefS.sh hb
 have hsm4:L.length*96≤140737488355328:=d.small
 refine za (R0 fun _=>st (aS Iz (zb (za (R0 fun _=>st (mV (Ix b 0) (st (zx rfl (st (Qm rfl (st (lD (Iw n) kT rfl (zd (hS0.gblk q) rfl) (st (Zt (α:=Int) (T:=3) (bytes:=8) (n:=n) rT ⟨_,_,rfl,rfl,rfl,rfl,rfl,fun _ _=>⟨rfl,by decide⟩⟩ rfl rfl rfl (by show n*8≤140737488355328;omega) ?_))))))))))))))
 intro ar M az he7 hl8 au
 have g:Sep G W ((RowE (α:=Int) own 3 (Iy M n n) (List.replicate n (0:Int)))::Rs) ar:=hS0.made az au
 have aw:=g.r0
 have hr12s:_*8≤_:=aw.2
 refine st (aS (Iy M n n) (zb (za (za ?_))))
 rw[Ka]at g
 have ax:Sep G W ((RowE (α:=Int) own 3 (Iy M n n) (zw n []))::Rs) ar:=g
 refine R0 fun _=>st (aS (Iv 0) (zb (zu (yf (fun mq σ E=> ∃k vo ρ,mq=L.length-k∧σ=yo ρ [(0,Ix b 0),(4,Iw k),(3,vo)]∧(k≤L.length)∧Sep G W ((RowE own 3 vo (zw n (L.take k)))::Rs) E) ⟨0,(Iy M n n),_,rfl,sSf,zY _,ax⟩ ?_))))
 rintro m15 σ16 w14 ⟨k,vo,ρl1,rfl,rfl,hkk,e⟩
 let p:=Ix (sb c) (so c+k*10)
 have h:=e.r0
 have hr18s:_*8≤_:=h.2
 refine za (za (R0 fun _=>st (mV (Iw k) (st (mV (Ix b 0) (st (zx rfl (st (xK rfl (st (lD c uT rfl (zd (e.gblk q) rfl) (st (zS vT rfl d.sl (st (zI rfl rfl (zb ?_))))))))))))))))
 cases f:decide (((k:Nat):Int)<((L.length:Nat):Int))
 have hc19r:=f
 have f:=fD f
 refine zf rfl (yh (zX (za (R0 fun _=>st (mV vo (st (aS vo (zb (zo (zN Tryz.results50 (show _=(vo:Value)from rfl) ?_))))))))))
 have aA:k=L.length:=by omega
 rw[aA,List.take_length]at e
 refine⟨vo,rfl,e⟩
 have f:=tD f
 refine zg rfl (zp (za (zu ?_)))
 obtain⟨⟨au,ho9'⟩,hd9⟩:=hG.chk_at (i:=k) om
 have hvl9:(zw n (L.take k)).length=n:=xM
 have ay:=Wv (L:=L.take k) (o:=(L.getD k default).origin.toNat)
 rw[List.length_take]at ay
 have hva9:(zw n (L.take k)).getD (L.getD k default).origin.toNat 0=_:=Xd om
 refine WD4 (WF [fun vals E=>Sep G W ((RowE own 3 vo (zw n (L.take k)))::Rs) E,fun vals E=>Sep G W ((RowE own 3 vo ((zw n (L.take k)).set (((L.getD k default).origin).toNat) (((zw n (L.take k)).getD (((L.getD k default).origin).toNat) 0)+1)))::Rs) E]) (AF [Vl 0 vo,Vl 1 (Ix b 0),Vl 2 (Ix b 0),Vl 3 (Ix b 1),Vl 4 c,Vl 5 (Iw k),Vl 6 p,Vl 7 p,Vl 8 p,Vl 9 (Iv ((L.getD k default).origin)),Vl 10 vo,Vl 11 (Ix b 0),Vl 12 (Ix b 0),Vl 13 (Ix b 1),Vl 14 c,Vl 15 (Iw k),Vl 16 p,Vl 17 p,Vl 18 p,Vl 19 (Iv ((L.getD k default).origin)),Vl 20 (Ix (sb vo) (so vo+(((L.getD k default).origin).toNat)*1)),Vl 21 (Iv (((zw n (L.take k)).getD (((L.getD k default).origin).toNat) 0))),Vl 22 (Iv (((zw n (L.take k)).getD (((L.getD k default).origin).toNat) 0)+1)),Vl 23 (Ix (sb vo) (so vo+(((L.getD k default).origin).toNat)*1)),fun _=>True]) [[],[],[1],[1,2],[1,2,3],[],[1,2,3,4,5],[1,2,3,4,5,6],[1,2,3,4,5,6,7],[1,2,3,4,5,6,7,8],[],[],[11],[11,12],[11,12,13],[],[11,12,13,14,15],[11,12,13,14,15,16],[11,12,13,14,15,16,17],[11,12,13,14,15,16,17,18],[10,11,12,13,14,15,16,17,18,19],[10,11,12,13,14,15,16,17,18,19,20],[10,11,12,13,14,15,16,17,18,19,20,21],(rg 23),(rg 24)] [24] [(0,0),(0,0),(0,0),(0,0),(0,0),(0,0),(0,0),(0,0),(0,0),(0,0),(0,0),(0,0),(0,0),(0,0),(0,0),(0,0),(0,0),(0,0),(0,0),(0,0),(0,0),(0,0),(0,0),(0,0),(0,0)] e ⟨fun _ _ _ _ _ _ _=>obl rfl (mV vo dR),fun _ _ _ _ _ _ _=>obl rfl (mV (Ix b 0) dR),fun _ _ _ _ _ _ N=>obl rfl (zx (N 1 dc) dR),fun _ _ _ _ _ _ O=>obl rfl (xK (O 2 dc) dR),ob1 0 fun _ _ (P:Sep _ _ _ _) Q=>obl rfl (lD c uT (Q 3 dc) (zd (P.gblk q) rfl) dR),fun _ _ _ _ _ _ _=>obl rfl (mV (Iw k) dR),?_,fun _ _ _ _ _ _ R=>obl rfl (yA (R 6 dc) dR),fun _ _ _ _ _ _ S=>obl rfl (xm (S 7 dc) dR),?_,fun _ _ _ _ _ _ _=>obl rfl (mV vo dR),fun _ _ _ _ _ _ _=>obl rfl (mV (Ix b 0) dR),fun _ _ _ _ _ _ U=>obl rfl (zx (U 11 dc) dR),fun _ _ _ _ _ _ V=>obl rfl (xK (V 12 dc) dR),ob1 0 fun _ _ (X:Sep _ _ _ _) Y=>obl rfl (lD c uT (Y 13 dc) (zd (X.gblk q) rfl) dR),fun _ _ _ _ _ _ _=>obl rfl (mV (Iw k) dR),?_,fun _ _ _ _ _ _ Z=>obl rfl (yA (Z 16 dc) dR),fun _ _ _ _ _ _ aa=>obl rfl (xm (aa 17 dc) dR),?_,?_,?_,?_,?_,?_,zj⟩ ?_
 refine ob1 0 fun _ _ _ s=>(obl rfl ?_)
 have ab:k<L.length:=bo
 exact zn (k:=10) vT lT (s 4 dc) d.sl (s 5 dc) ab dR
 refine ob1 0 fun _ _ (ac:Sep _ _ _ _) ad=>(obl rfl ?_)
 have t:k<L.length:=bo
 obtain⟨F,l,hoke296⟩:=d.evD t
 have hsm298:((L.getD k default).deps).length*8≤140737488355328:=l.small
 have H:=ac.cells F (d.foot (ne_of_lt t))
 exact lD (Iv ((L.getD k default).origin)) kT (ad 8 dc) (H.get (j:=0) rfl) dR
 refine ob1 0 fun _ _ _ x=>(obl rfl ?_)
 have ae:k<L.length:=bo
 exact zn (k:=10) vT lT (x 14 dc) d.sl (x 15 dc) ae dR
 refine ob1 0 fun _ _ (af:Sep _ _ _ _) ag=>(obl rfl ?_)
 have y:k<L.length:=bo
 obtain⟨I,m,hoke372⟩:=d.evD y
 have hsm374:((L.getD k default).deps).length*8≤140737488355328:=m.small
 have J:=af.cells I (d.foot (ne_of_lt y))
 exact lD (Iv ((L.getD k default).origin)) kT (ag 18 dc) (J.get (j:=0) rfl) dR
 refine ob1 0 fun _ _ _ z=>(obl rfl ?_)
 have hi385:((L.getD k default).origin).toNat<(zw n (L.take k)).length:=bo
 exact zA (k:=1) (i:=(L.getD k default).origin) rT qT (z 10 dc) h.1 (z 19 dc) ⟨by omega,by omega⟩ dR
 refine ob1 0 fun _ _ (ah:Sep _ _ _ _) ai=>(obl rfl ?_)
 have aj:((L.getD k default).origin).toNat<(zw n (L.take k)).length:=bo
 obtain⟨_,_,K,rfl,hxe394⟩:=ah.rowAtI (i:=0) rfl aj
 exact lD (Iv (((zw n (L.take k)).getD (((L.getD k default).origin).toNat) 0))) kT (ai 20 dc) (K.get (j:=0) rfl) dR
 refine ob1 0 fun _ _ _ ak=>(obl rfl ?_)
 have al:InR (((zw n (L.take k)).getD (((L.getD k default).origin).toNat) 0)+1):=by omega
 exact zU (r:=((zw n (L.take k)).getD (((L.getD k default).origin).toNat) 0)+1) (ak 21 dc) rfl (zJ al) dR
 refine ob1 0 fun _ _ _ A=>(obl rfl ?_)
 exact zA (k:=1) (i:=(L.getD k default).origin) rT qT (A 0 dc) h.1 (A 9 dc) ⟨by omega,by omega⟩ dR
 refine ob1 0 fun _ _ (am:Sep _ _ _ _) B=>(obl rfl ?_)
 refine(xe (α:=Int) (j:=((L.getD k default).origin).toNat) (o:=0) (u:=Iv (((zw n (L.take k)).getD (((L.getD k default).origin).toNat) 0)+1)) (us:=[Iv (((zw n (L.take k)).getD (((L.getD k default).origin).toNat) 0)+1)]) (x1:=((zw n (L.take k)).getD (((L.getD k default).origin).toNat) 0)+1) (am.emp1) qT bo (B 23 (by decide)) (B 22 (by decide)) rfl (xJ rfl) (zZ ⟨rfl,zj⟩) (fun _ _ av hel _=>(by have aB:=Src.len _ hel;have e0:av.take 0++(([Iv (((zw n (L.take k)).getD (((L.getD k default).origin).toNat) 0)+1)]:List Value))++av.drop (0+(([Iv (((zw n (L.take k)).getD (((L.getD k default).origin).toNat) 0)+1)]:List Value)).length)=(([Iv (((zw n (L.take k)).getD (((L.getD k default).origin).toNat) 0)+1)]:List Value)):=(by rw[List.drop_eq_nil_of_le (by rw[aB];exact xJ rfl)];simp);rw[e0];exact(show _ from⟨rfl,(by omega)⟩))) ?_)
 intro w220 C
 have an:=C.r0
 exact fun vals' hv hv'=>⟨C,zj⟩
 intro vals w415 ao hA417
 have D:=ao
 refine yd (kv:=[(0,Ix b 0),(4,Iw k),(3,vo),(10,Iw k),(11,Ix b 0),(12,Ix b 0),(13,Ix b 1),(14,c),(15,Iw L.length),(16,.bool true)]) sEv (fun ρw415=>(zb (R0 fun _=>st (mV (Iw k) ?_))))
 have ap:InR ((k+1:Nat):Int):=bo
 refine st (zU (r:=((k+1:Nat):Int)) rfl rfl (by rw[show(((k:Nat):Int)+1:Int)=((k+1:Nat):Int)from bo];exact zJ ap) (st (aS (Iw (k+1)) (zb ?_))))
 have aq:(zw n (L.take (k+1)))=(zw n (L.take k)).set (((L.getD k default).origin).toNat) (((zw n (L.take k)).getD (((L.getD k default).origin).toNat) 0)+1):=(zcG hG om).symm
 rw[←aq]at D
 exact⟨_,by omega,k+1,vo,_,rfl,sSf,by omega,D⟩
theorem zcy {b:Nat}{n:Nat}{L:List Ev}(hb:(RefS b n L).p W G){e:Ev}{de0:Value}(hde0:RdS W G de0 e.deps)(oe:e.Ok){o:Nat}(ho:o<n)(hS0:Sep G W Rs w)(hel:e.deps.length=n)(hlen: ∀y∈L,y.deps.length=n):Ret Tryz.prog 72 [.pointer (some ⟨b,0,none⟩),.agg (e.cells de0).toArray,.int .i64 ((o:Nat):Int)] w (fun r w'=>r=(.bool ((xW L e o)):Value)∧Sep G W Rs w'):=by
 have hde0s:_*8≤_:=hde0.small
 refine zm Tryz.func72 rfl rfl ?_
 obtain⟨vl1,aA,aB⟩:=RefS.sh hb
 have hsm4:L.length*96≤140737488355328:=aB.small
 refine za (R0 fun _=>st (zT rfl ?_))
 intro w7 K aC
 have s:=hS0.new aC
 refine st (aS (.bool false) (zb (za (za (R0 fun _=>st (xg rfl (st (lD de0 nR rfl (zd (s.b0) rfl) (st (mV (Iw o) ?_))))))))))
 have aD:o<e.deps.length:=bo
 refine st (zn (k:=1) rT qT rfl hde0.sl rfl aD ?_)
 have z:o<e.deps.length:=bo
 obtain⟨D,T⟩:=hde0.intD z
 have U:=s.cells D (hde0.foot (ne_of_lt z))
 refine st (lD (Iv ((e.deps.getD o 0))) kT rfl (U.get (j:=0) rfl) (st (zR rfl rfl (zb ?_))))
 cases d:decide ((e.deps.getD o 0)=0)
 have hc13r:=d
 have d:=fD d
 refine zf rfl (zp (za (R0 fun _=>st (mV (Ix b 0) (st (mV (Iw o) (st (xg rfl (st (lD de0 nR rfl (zd (s.b0) rfl) (st (mV (Iw o) ?_))))))))))))
 have am:o<e.deps.length:=bo
 refine st (zn (k:=1) rT qT rfl hde0.sl rfl am ?_)
 have X:=s.cells D (hde0.foot (ne_of_lt z))
 refine st (lD (Iv ((e.deps.getD o 0))) kT rfl (X.get (j:=0) rfl) (st (zQ (parts':=[(0,Iw o),(1,Iv ((e.deps.getD o 0)))]) (v:=.agg #[Iw o,Iv ((e.deps.getD o 0))]) rfl (by simp+zetaDelta [Instr.build,Instr.fill,go_sem,Zd]) (st (zO (f:=71) (vals:=[Ix b 0,.agg #[Iw o,Iv ((e.deps.getD o 0))]]) (cap:=[]) rfl rfl Tryz.call71 (Jl hb (by omega) T s) ?_)))))
 rintro _ w19 ⟨c,rfl,hgo18,M⟩
 let p:=(((yp L (((o:Nat):Int),(e.deps.getD o 0))).getD default).cells c)
 have A:=M.r0
 have hr21s:_*8≤_:=A.2
 refine st (mV (.tuple #[.agg p.toArray,.bool (yp L (((o:Nat):Int),(e.deps.getD o 0))).isSome]) (st (zl rfl rfl (st (zl rfl rfl (st (zv sR ?_)))))))
 intro w24 t an
 have N:=M.new an
 refine stn (zr (v:=.agg p.toArray) lT rfl rfl (N.b0) (zZ ⟨rfl,rfl,rfl,A.1.one,rfl,rfl,rfl,rfl,rfl,rfl,zj⟩) yqc rfl ?_)
 intro w26 ao
 have u:=N.pt0 ao
 refine st (aS (.bool ((yp L (((o:Nat):Int),(e.deps.getD o 0))).isSome)) (zb (za (za (zy kr (st (mV (.bool ((yp L (((o:Nat):Int),(e.deps.getD o 0))).isSome)) (st (yw rfl (st (mV (.bool (!((yp L (((o:Nat):Int),(e.deps.getD o 0))).isSome))) (stc (V:=Ix t 2) rfl rfl (fun ap=>?_) ?_))))))))))))
 have aq:=ap
 try simp only[zh]at aq
 exact xQ rfl rflB
 refine stc (V:=Iv (((yp L (((o:Nat):Int),(e.deps.getD o 0))).getD default).lam)) rfl rfl (fun O=>?_) ?_
 have ar:=O
 try simp only[zh]at ar
 exact lD (Iv (((yp L (((o:Nat):Int),(e.deps.getD o 0))).getD default).lam)) kT (ifpC O) (zd (u.b0) rfl) rflB
 refine stc (V:=Ix K 2) rfl rfl (fun au=>?_) ?_
 have av:=au
 try simp only[zh]at av
 exact xQ rfl rflB
 refine stc (V:=Iv (e.lam)) rfl rfl (fun P=>?_) ?_
 have aw:=P
 try simp only[zh]at aw
 exact lD (Iv (e.lam)) kT (ifpC P) (zd (u.b2) rfl) rflB
 refine stc (V:=.bool (decide (e.lam≤(((yp L (((o:Nat):Int),(e.deps.getD o 0))).getD default).lam)))) rfl rfl (fun B=>?_) ?_
 have ax:=B
 try simp only[zh]at ax
 exact xh (ifpC B) (ifpC B) rflB
 refine st (zz rfl (fun hbp=>(ifpC hbp)) (zb ?_))
 cases x:(!((yp L (((o:Nat):Int),(e.deps.getD o 0))).isSome))||(decide (e.lam≤(((yp L (((o:Nat):Int),(e.deps.getD o 0))).getD default).lam)))
 have m:=x
 try simp only[zh]at x
 have l:=m
 simp only[Bool.or_eq_false_iff,Bool.not_eq_false',decide_eq_false_iff_not,Bool.not_eq_eq_eq_not,Bool.not_false]at l
 have hxl9:((yp L (((o:Nat):Int),(e.deps.getD o 0))).getD default).deps.length=n:=QA hlen rfl l.1
 refine zf rfl (zp (za (za (R0 fun _=>st (aS (Iv 0) (zb (zu (yf (fun mq σ wq=> ∃k ρ,mq=n-k∧σ=yo ρ [(0,Ix b 0),(4,Ix K 0),(7,Ix t 0),(9,Iw k)]∧(k≤n)∧(∀i,i<k→((yp L (((o:Nat):Int),(e.deps.getD o 0))).getD default).deps.getD i 0≤e.deps.getD i 0)∧Sep G W ((Blk t (((yp L (((o:Nat):Int),(e.deps.getD o 0))).getD default).cells c).toArray 44)::(RowE own 3 c (((yp L (((o:Nat):Int),(e.deps.getD o 0))).getD default).deps))::(Blk K (e.cells de0).toArray 44)::Rs) wq) ⟨0,_,rfl,sSf,zY _,(fun i h=>absurd h (yO i)),u⟩ ?_))))))))
 rintro m41 σ42 w40 ⟨k,ρl1,rfl,rfl,hkk,hm,C⟩
 refine za (za (R0 fun _=>st (mV (Iw k) (st (mV (Ix b 0) (st (zx rfl (st (Qm rfl (st (lD (Iw n) kT rfl (zd (C.gblk aA) rfl) (st (zI rfl rfl (zb ?_))))))))))))))
 cases q:decide (((k:Nat):Int)<((n:Nat):Int))
 have hc44r:=q
 have q:=fD q
 refine zf rfl (yh (zX (za (R0 fun _=>st (aS (.bool true) (zb (zo (zN wR (show _=(.bool true:Value)from rfl) ?_))))))))
 refine⟨?_,(C.s3_)⟩
 rw[XW d rfl l.1,decide_eq_true (show((yp L (((o:Nat):Int),(e.deps.getD o 0))).getD default).lam<e.lam by omega),Bool.true_and]
 rw[List.all_eq_true.2 (fun i hi=>decide_eq_true (hm i (by have:=List.mem_range.1 hi;omega)))]
 have q:=tD q
 refine zg rfl (zp (za (zu (za ?_))))
 refine WD4 (WF [fun vals wq=>Sep G W ((Blk t p.toArray 44)::(RowE own 3 c (((yp L (((o:Nat):Int),(e.deps.getD o 0))).getD default).deps))::(Blk K (e.cells de0).toArray 44)::Rs) wq]) (AF [Vl 0 (Ix t 3),Vl 1 c,Vl 2 (Iw k),Vl 3 (Ix (sb c) (so c+k*1)),Vl 4 (Iv (((((yp L (((o:Nat):Int),(e.deps.getD o 0))).getD default).deps).getD k 0))),Vl 5 (Ix K 3),Vl 6 de0,Vl 7 (Iw k),Vl 8 (Ix (sb de0) (so de0+k*1)),Vl 9 (Iv ((e.deps.getD k 0))),Vl 10 (.bool (decide ((e.deps.getD k 0)<((((yp L (((o:Nat):Int),(e.deps.getD o 0))).getD default).deps).getD k 0))))]) [[],[0],[],[0,1,2],(rg 4),[],[5],[],[5,6,7],[5,6,7,8],(rg 10)] [] [(0,0),(0,0),(0,0),(0,0),(0,0),(0,0),(0,0),(0,0),(0,0),(0,0),(0,0)] C ⟨fun _ _ _ _ _ _ _=>obl rfl (xg rfl dR),ob1 0 fun _ _ (Y:Sep _ _ _ _) Z=>obl rfl (lD c nR (Z 0 dc) (zd (Y.b0) rfl) dR),fun _ _ _ _ _ _ _=>obl rfl (mV (Iw k) dR),?_,?_,fun _ _ _ _ _ _ _=>obl rfl (xg rfl dR),ob1 0 fun _ _ (aa:Sep _ _ _ _) ab=>obl rfl (lD de0 nR (ab 5 dc) (zd (aa.b2) rfl) dR),fun _ _ _ _ _ _ _=>obl rfl (mV (Iw k) dR),?_,?_,ob1 0 fun _ _ _ E=>obl rfl (xj (k:=.i64) (a:=((((yp L (((o:Nat):Int),(e.deps.getD o 0))).getD default).deps).getD k 0)) (b:=(e.deps.getD k 0)) (E 4 dc) (E 9 dc) dR),zj⟩ ?_
 refine ob1 0 fun _ _ _ F=>(obl rfl ?_)
 have ac:k<(((yp L (((o:Nat):Int),(e.deps.getD o 0))).getD default).deps).length:=bo
 exact zn (k:=1) rT qT (F 1 dc) A.1 (F 2 dc) ac dR
 refine ob1 0 fun _ _ (ad:Sep _ _ _ _) ae=>(obl rfl ?_)
 have af:k<(((yp L (((o:Nat):Int),(e.deps.getD o 0))).getD default).deps).length:=bo
 obtain⟨_,_,Q,rfl,hxe174⟩:=ad.rowAtI (i:=1) rfl af
 exact lD (Iv (((((yp L (((o:Nat):Int),(e.deps.getD o 0))).getD default).deps).getD k 0))) kT (ae 3 dc) (Q.get (j:=0) rfl) dR
 refine ob1 0 fun _ _ _ H=>(obl rfl ?_)
 have ag:k<e.deps.length:=bo
 exact zn (k:=1) rT qT (H 6 dc) hde0.sl (H 7 dc) ag dR
 refine ob1 0 fun _ _ (ah:Sep _ _ _ _) ai=>(obl rfl ?_)
 have I:k<e.deps.length:=bo
 obtain⟨R,hxe214⟩:=hde0.intD I
 have S:=ah.cells R (hde0.foot (ne_of_lt I))
 exact lD (Iv ((e.deps.getD k 0))) kT (ai 8 dc) (S.get (j:=0) rfl) dR
 intro vals w226 aj ak
 have J:=aj
 have az:=ak 10 dc
 refine yd (kv:=[(0,Ix b 0),(4,Ix K 0),(7,Ix t 0),(9,Iw k),(37,Iw k),(38,Ix b 0),(39,Ix b 0),(40,Ix b 0),(41,Iw n),(42,.bool true),(55,.bool (decide ((e.deps.getD k 0)<((((yp L (((o:Nat):Int),(e.deps.getD o 0))).getD default).deps).getD k 0))))]) ⟨rfl,rfl,rfl,rfl,rfl,rfl,rfl,rfl,rfl,rfl,(by exact az),zj⟩ (fun ρw226=>(zb ?_))
 cases g:decide ((e.deps.getD k 0)<((((yp L (((o:Nat):Int),(e.deps.getD o 0))).getD default).deps).getD k 0))
 have g:=fD g
 refine zf rfl (zp (R0 fun _=>st (mV (Iw k) ?_)))
 have al:InR ((k+1:Nat):Int):=bo
 refine st (zU (r:=((k+1:Nat):Int)) rfl rfl (by rw[show(((k:Nat):Int)+1:Int)=((k+1:Nat):Int)from bo];exact zJ al) (st (aS (Iw (k+1)) (zb ?_))))
 exact⟨_,by omega,k+1,_,rfl,sSf,by omega,(yU hm om),J⟩
 have g:=tD g
 refine zg rfl (za (R0 fun _=>st (aS (.bool false) (zb (zo (zN wR (show _=(.bool false:Value)from rfl) ?_))))))
 refine⟨?_,(J.s3_)⟩
 rw[XW d rfl l.1,decide_eq_true (show((yp L (((o:Nat):Int),(e.deps.getD o 0))).getD default).lam<e.lam by omega),Bool.true_and]
 congr 1
 symm
 rw[List.all_eq_false]
 exact⟨k,List.mem_range.2 (by omega),by simp only[decide_eq_true_eq];omega⟩
 have m:=x
 try simp only[zh]at x
 refine zg rfl (za (R0 fun _=>st (aS (.bool false) (zb (zo (zN wR (show _=(.bool false:Value)from rfl) ?_))))))
 refine⟨?_,(u.s3_)⟩
 cases l:(yp L (((o:Nat):Int),e.deps.getD o 0)).isSome
 rw[zbl d l]
 rw[XW d rfl l]
 have h9: ¬((yp L (((o:Nat):Int),(e.deps.getD o 0))).getD default).lam<e.lam:=by rw[l]at m;simpa using m
 rw[decide_eq_false h9];rfl
 have d:=tD d
 refine zg rfl (za (R0 fun _=>st (aS (.bool true) (zb (zo (zN wR (show _=(.bool true:Value)from rfl) ?_))))))
 refine⟨?_,(s.s1_)⟩
 rw[zcx d]
theorem XC {l:List Int}{k:Nat}(hk:k<l.length)(h:l.getD k 0<0):Yp l=true:=by
 unfold Yp
 rw[List.any_eq_true]
 exact⟨l.getD k 0,by rw[zK _ hk];exact List.getElem_mem hk,by simpa using h⟩
theorem XI {l:List Int}(h: ∀i,i<l.length→ ¬l.getD i 0<0):Yp l=false:=by
 unfold Yp
 rw[List.any_eq_false]
 intro x hx
 obtain⟨i,hi,rfl⟩:=List.getElem_of_mem hx
 have:=h i hi
 rw[zK _ hi]at this
 simpa using this
theorem Zz {e:Ev}{n:Int}:yE e n=
 if((((((decide (e.origin<0)||decide (n≤e.origin))||decide (e.seq<1))||decide (e.lam<1))||decide (e.agg<0))||decide (e.key<0))|| !decide (((e.deps.length:Nat):Int)=n))=true then 1
 else if Yp e.deps=true then 1
 else if(!decide (e.deps.getD e.origin.toNat 0=e.seq-1))=true then 9
 else if(decide (e.op<1)||decide (5<e.op))=true then 2
 else if(((decide (e.typ<0)||decide (7<e.typ))||decide (e.field<0))||decide (7<e.field))=true then 8
 else 0:=by
 unfold yE
 have h1:decide (min e.seq e.lam<1)=(decide (e.seq<1)||decide (e.lam<1)):=by rw[Bool.eq_iff_iff];simp only[Bool.or_eq_true,decide_eq_true_eq];omega
 have h2:decide (min e.agg e.key<0)=(decide (e.agg<0)||decide (e.key<0)):=by rw[Bool.eq_iff_iff];simp only[Bool.or_eq_true,decide_eq_true_eq];omega
 have h3:((decide (min e.typ e.field<0)||decide (8≤e.typ))||decide (8≤e.field))=(((decide (e.typ<0)||decide (7<e.typ))||decide (e.field<0))||decide (7<e.field)):=by rw[Bool.eq_iff_iff];simp only[Bool.or_eq_true,decide_eq_true_eq];omega
 rw[h1,h2,h3]
 cases hn:Yp e.deps
 ·simp only[Bool.or_false,Bool.or_assoc,Bool.false_eq_true,if_false]
 ·simp only[Bool.or_true,Bool.or_assoc,if_true]
  split<;>rfl
theorem zai {e:Ev}{de0:Value}(hde0:RdS W G de0 e.deps)(oe:e.Ok){n:Nat}(hn:n≤1000)(hS0:Sep G W Rs w):Ret Tryz.prog 27 [.agg (e.cells de0).toArray,.int .i64 ((n:Nat):Int)] w (fun r w'=>r=(.int .i64 ((yE e ((n:Nat):Int))):Value)∧Sep G W Rs w'):=by
 refine zm Tryz.func27 rfl rfl ?_
 refine za (R0 fun _=>st (zT rfl ?_))
 intro w3 b2 bm
 have o:=hS0.new bm
 refine st (aS (Iv 0) (zb (za (za (zy kr (st (yA rfl (st (xm rfl (st (lD (Iv (e.origin)) kT rfl (zd (o.b0) rfl) (st (zI rfl rfl (st (mV (.bool (decide (e.origin<0))) (stc (V:=Ix b2 0) rfl rfl (fun bn=>?_) ?_))))))))))))))))
 exact yA rfl rflB
 refine stc (V:=Ix b2 0) rfl rfl (fun aI=>?_) ?_
 exact xm (ifpC aI) rflB
 refine stc (V:=Iv (e.origin)) rfl rfl (fun aJ=>?_) ?_
 exact lD (Iv (e.origin)) kT (ifpC aJ) (zd (o.b0) rfl) rflB
 refine stc (V:=Iw n) rfl rfl (fun aK=>?_) ?_
 exact mV (Iw n) rflB
 refine stc (V:=.bool (decide (((n:Nat):Int)≤e.origin))) rfl rfl (fun A=>?_) ?_
 exact xh (ifpC A) (ifpC A) rflB
 refine st (zz rfl (fun hbp=>(ifpC hbp)) (st (mV (.bool ((decide (e.origin<0))||(decide (((n:Nat):Int)≤e.origin)))) (stc (V:=Ix b2 0) rfl rfl (fun aL=>?_) ?_))))
 have aM:=aL
 try simp only[zh]at aM
 exact yA rfl rflB
 refine stc (V:=Ix b2 1) rfl rfl (fun P=>?_) ?_
 have aN:=P
 try simp only[zh]at aN
 exact Za (ifpC P) rflB
 refine stc (V:=Iv (e.seq)) rfl rfl (fun Q=>?_) ?_
 have aO:=Q
 try simp only[zh]at aO
 exact lD (Iv (e.seq)) kT (ifpC Q) (zd (o.b0) rfl) rflB
 refine stc (V:=.bool (decide (e.seq<1))) rfl rfl (fun R=>?_) ?_
 have aP:=R
 try simp only[zh]at aP
 exact zI (ifpC R) rfl rflB
 refine st (zz rfl (fun hbp=>(ifpC hbp)) (st (mV (.bool (((decide (e.origin<0))||(decide (((n:Nat):Int)≤e.origin)))||(decide (e.seq<1)))) (stc (V:=Ix b2 2) rfl rfl (fun aQ=>?_) ?_))))
 have aR:=aQ
 try simp only[zh]at aR
 exact xQ rfl rflB
 refine stc (V:=Iv (e.lam)) rfl rfl (fun S=>?_) ?_
 have aT:=S
 try simp only[zh]at aT
 exact lD (Iv (e.lam)) kT (ifpC S) (zd (o.b0) rfl) rflB
 refine stc (V:=.bool (decide (e.lam<1))) rfl rfl (fun T=>?_) ?_
 have aU:=T
 try simp only[zh]at aU
 exact zI (ifpC T) rfl rflB
 refine st (zz rfl (fun hbp=>(ifpC hbp)) (st (mV (.bool ((((decide (e.origin<0))||(decide (((n:Nat):Int)≤e.origin)))||(decide (e.seq<1)))||(decide (e.lam<1)))) (stc (V:=Ix b2 5) rfl rfl (fun aV=>?_) ?_))))
 have aW:=aV
 try simp only[zh]at aW
 exact Ye rfl rflB
 refine stc (V:=Iv (e.agg)) rfl rfl (fun U=>?_) ?_
 have aX:=U
 try simp only[zh]at aX
 exact lD (Iv (e.agg)) kT (ifpC U) (zd (o.b0) rfl) rflB
 refine stc (V:=.bool (decide (e.agg<0))) rfl rfl (fun X=>?_) ?_
 have aY:=X
 try simp only[zh]at aY
 exact zI (ifpC X) rfl rflB
 refine st (zz rfl (fun hbp=>(ifpC hbp)) (st (mV (.bool (((((decide (e.origin<0))||(decide (((n:Nat):Int)≤e.origin)))||(decide (e.seq<1)))||(decide (e.lam<1)))||(decide (e.agg<0)))) (stc (V:=Ix b2 9) rfl rfl (fun aZ=>?_) ?_))))
 have ba:=aZ
 try simp only[zh]at ba
 exact YV rfl rflB
 refine stc (V:=Iv (e.key)) rfl rfl (fun Y=>?_) ?_
 have bb:=Y
 try simp only[zh]at bb
 exact lD (Iv (e.key)) kT (ifpC Y) (zd (o.b0) rfl) rflB
 refine stc (V:=.bool (decide (e.key<0))) rfl rfl (fun Z=>?_) ?_
 have bc:=Z
 try simp only[zh]at bc
 exact zI (ifpC Z) rfl rflB
 refine st (zz rfl (fun hbp=>(ifpC hbp)) (st (mV (.bool ((((((decide (e.origin<0))||(decide (((n:Nat):Int)≤e.origin)))||(decide (e.seq<1)))||(decide (e.lam<1)))||(decide (e.agg<0)))||(decide (e.key<0)))) (stc (V:=Ix b2 3) rfl rfl (fun bd=>?_) ?_))))
 have be:=bd
 try simp only[zh]at be
 exact xg rfl rflB
 refine stc (V:=de0) rfl rfl (fun aa=>?_) ?_
 have bf:=aa
 try simp only[zh]at bf
 exact lD de0 nR (ifpC aa) (zd (o.b0) rfl) rflB
 refine stc (V:=Iw e.deps.length) rfl rfl (fun ab=>?_) ?_
 have bg:=ab
 try simp only[zh]at bg
 exact zS rT (ifpC ab) hde0.sl rflB
 refine stc (V:=Iw n) rfl rfl (fun bh=>?_) ?_
 have bi:=bh
 try simp only[zh]at bi
 exact mV (Iw n) rflB
 refine stc (V:=.bool (!decide (((e.deps.length:Nat):Int)=((n:Nat):Int)))) rfl rfl (fun B=>?_) ?_
 have bj:=B
 try simp only[zh]at bj
 exact yj (ifpC B) (ifpC B) rflB
 refine st (zz rfl (fun hbp=>(ifpC hbp)) (zb ?_))
 cases y:((((((decide (e.origin<0))||(decide (((n:Nat):Int)≤e.origin)))||(decide (e.seq<1)))||(decide (e.lam<1)))||(decide (e.agg<0)))||(decide (e.key<0)))||(!decide (((e.deps.length:Nat):Int)=((n:Nat):Int)))
 have d:=y
 try simp only[zh]at y
 refine zf rfl (zp (za (za (R0 fun _=>st (aS (Iv 0) (zb (zu (yf (fun mq σ wq=> ∃k ρ,mq=n-k∧σ=yo ρ [(2,Ix b2 0),(1,Iw n),(5,Iw k)]∧(k≤n)∧(∀i,i<k→ ¬e.deps.getD i 0<0)∧Sep G W ((Blk b2 (e.cells de0).toArray 44)::Rs) wq) ⟨0,_,rfl,sSf,zY _,(fun i h=>absurd h (yO i)),o⟩ ?_))))))))
 rintro m53 σ54 w52 ⟨k,ρl1,rfl,rfl,hkk,hm,u⟩
 refine za (za (R0 fun _=>st (mV (Iw k) (st (mV (Iw n) (st (zI rfl rfl (zb ?_))))))))
 cases q:decide (((k:Nat):Int)<((n:Nat):Int))
 have g:=q
 have q:=fD q
 refine zf rfl (yh (zX (za (za ?_))))
 refine WD4 (WF [fun vals wq=>Sep G W ((Blk b2 (e.cells de0).toArray 44)::Rs) wq]) (AF [Vl 0 (Ix b2 3),Vl 1 de0,Vl 2 (Ix b2 0),Vl 3 (Ix b2 0),Vl 4 (Iv (e.origin)),Vl 5 (Ix (sb de0) (so de0+e.origin.toNat*1)),Vl 6 (Iv ((e.deps.getD e.origin.toNat 0))),Vl 7 (Ix b2 0),Vl 8 (Ix b2 1),Vl 9 (Iv (e.seq)),Vl 10 (Iv (e.seq-1)),Vl 11 (.bool (!decide ((e.deps.getD e.origin.toNat 0)=(e.seq-1))))]) [[],[0],[],[2],[2,3],(rg 5),(rg 6),[],[7],[7,8],[7,8,9],(rg 11)] [] [(0,0),(0,0),(0,0),(0,0),(0,0),(0,0),(0,0),(0,0),(0,0),(0,0),(0,0),(0,0)] u ⟨fun _ _ _ _ _ _ _=>obl rfl (xg rfl dR),ob1 0 fun _ _ (ag:Sep _ _ _ _) ah=>obl rfl (lD de0 nR (ah 0 dc) (zd (ag.b0) rfl) dR),fun _ _ _ _ _ _ _=>obl rfl (yA rfl dR),fun _ _ _ _ _ _ ai=>obl rfl (xm (ai 2 dc) dR),ob1 0 fun _ _ (aj:Sep _ _ _ _) ak=>obl rfl (lD (Iv (e.origin)) kT (ak 3 dc) (zd (aj.b0) rfl) dR),?_,?_,fun _ _ _ _ _ _ _=>obl rfl (yA rfl dR),fun _ _ _ _ _ _ al=>obl rfl (Za (al 7 dc) dR),ob1 0 fun _ _ (am:Sep _ _ _ _) an=>obl rfl (lD (Iv (e.seq)) kT (an 8 dc) (zd (am.b0) rfl) dR),?_,ob1 0 fun _ _ _ C=>obl rfl (yj (C 6 dc) (C 10 dc) dR),zj⟩ ?_
 refine ob1 0 fun _ _ _ D=>(obl rfl ?_)
 exact zA rT qT (D 1 dc) hde0.sl (D 4 dc) ⟨by omega,by omega⟩ dR
 refine ob1 0 fun _ _ (ao:Sep _ _ _ _) ap=>(obl rfl ?_)
 have E:e.origin.toNat<e.deps.length:=bo
 obtain⟨ac,hxe205⟩:=hde0.intD E
 have ad:=ao.cells ac (hde0.foot (ne_of_lt E))
 exact lD (Iv ((e.deps.getD e.origin.toNat 0))) kT (ap 5 dc) (ad.get (j:=0) rfl) dR
 refine ob1 0 fun _ _ _ aq=>(obl rfl ?_)
 have ar:InR (e.seq-1):=(by have h9:=oe.seq;omega)
 exact YK (r:=e.seq-1) (aq 9 (by decide)) rfl (by rw[show(e.seq-1:Int)=e.seq-1 from rfl];exact zJ ar) dR
 intro vals w247 au av
 have c:=au
 have bl:=av 11 dc
 refine yd (kv:=[(2,Ix b2 0),(1,Iw n),(5,Iw k),(45,Iw k),(46,Iw n),(47,.bool false),(67,.bool (!decide ((e.deps.getD e.origin.toNat 0)=(e.seq-1))))]) ⟨rfl,rfl,rfl,rfl,rfl,rfl,(by exact bl),zj⟩ (fun ρw247=>(zb ?_))
 cases l: !decide ((e.deps.getD e.origin.toNat 0)=(e.seq-1))
 have f:=l
 have l:=zB l
 refine zf rfl (zp (za (za (zy kr (st (xP rfl (st (lD (Iv (e.op)) kT rfl (zd (c.b0) rfl) (st (zI rfl rfl (st (mV (.bool (decide (e.op<1))) (stc (V:=Ix b2 7) rfl rfl (fun aw=>?_) ?_)))))))))))))
 exact xP rfl rflB
 refine stc (V:=Iv (e.op)) rfl rfl (fun F=>?_) ?_
 exact lD (Iv (e.op)) kT (ifpC F) (zd (c.b0) rfl) rflB
 refine stc (V:=.bool (decide (5<e.op))) rfl rfl (fun H=>?_) ?_
 exact xj (k:=.i64) (a:=e.op) (b:=5) (ifpC H) rfl rflB
 refine st (zz rfl (fun hbp=>(ifpC hbp)) (zb ?_))
 cases s:(decide (e.op<1))||(decide (5<e.op))
 have p:=s
 try simp only[zh]at s
 refine zf rfl (zp (za (za (zy kr (st (xL rfl (st (lD (Iv (e.typ)) kT rfl (zd (c.b0) rfl) (st (zI rfl rfl (st (mV (.bool (decide (e.typ<0))) (stc (V:=Ix b2 4) rfl rfl (fun ax=>?_) ?_)))))))))))))
 exact xL rfl rflB
 refine stc (V:=Iv (e.typ)) rfl rfl (fun I=>?_) ?_
 exact lD (Iv (e.typ)) kT (ifpC I) (zd (c.b0) rfl) rflB
 refine stc (V:=.bool (decide (7<e.typ))) rfl rfl (fun J=>?_) ?_
 exact xj (k:=.i64) (a:=e.typ) (b:=7) (ifpC J) rfl rflB
 refine st (zz rfl (fun hbp=>(ifpC hbp)) (st (mV (.bool ((decide (e.typ<0))||(decide (7<e.typ)))) (stc (V:=Ix b2 6) rfl rfl (fun ay=>?_) ?_))))
 have az:=ay
 try simp only[zh]at az
 exact xN rfl rflB
 refine stc (V:=Iv (e.field)) rfl rfl (fun K=>?_) ?_
 have aA:=K
 try simp only[zh]at aA
 exact lD (Iv (e.field)) kT (ifpC K) (zd (c.b0) rfl) rflB
 refine stc (V:=.bool (decide (e.field<0))) rfl rfl (fun L=>?_) ?_
 have aB:=L
 try simp only[zh]at aB
 exact zI (ifpC L) rfl rflB
 refine st (zz rfl (fun hbp=>(ifpC hbp)) (st (mV (.bool (((decide (e.typ<0))||(decide (7<e.typ)))||(decide (e.field<0)))) (stc (V:=Ix b2 6) rfl rfl (fun aC=>?_) ?_))))
 have aD:=aC
 try simp only[zh]at aD
 exact xN rfl rflB
 refine stc (V:=Iv (e.field)) rfl rfl (fun M=>?_) ?_
 have aE:=M
 try simp only[zh]at aE
 exact lD (Iv (e.field)) kT (ifpC M) (zd (c.b0) rfl) rflB
 refine stc (V:=.bool (decide (7<e.field))) rfl rfl (fun N=>?_) ?_
 have aF:=N
 try simp only[zh]at aF
 exact xj (k:=.i64) (a:=e.field) (b:=7) (ifpC N) rfl rflB
 refine st (zz rfl (fun hbp=>(ifpC hbp)) (zb ?_))
 cases t:(((decide (e.typ<0))||(decide (7<e.typ)))||(decide (e.field<0)))||(decide (7<e.field))
 have x:=t
 try simp only[zh]at t
 refine zf rfl (zp (za (R0 fun _=>st (aS (Iv 0) (zb (zo (zN qR (show _=(Iv 0:Value)from rfl) ?_)))))))
 refine⟨?_,(c.s1_)⟩
 rw[Zz]
 rw[ifnC (by rw[d];decide)]
 ·first|rw[ifpC (XC (by omega) (by omega))]|(rw[ifnC (by rw[XI (fun i hi=>hm i (by omega))];decide)];(repeat first|rw[ifpC (by assumption)]|rw[ifnC (by first|(rw[g];decide)|(rw[f];decide)|(rw[p];decide)|(rw[x];decide)|skip)]))
 have x:=t
 try simp only[zh]at t
 refine zg rfl (za (R0 fun _=>st (aS (Iv 8) (zb (zo (zN qR (show _=(Iv 8:Value)from rfl) ?_))))))
 refine⟨?_,(c.s1_)⟩
 rw[Zz]
 rw[ifnC (by rw[d];decide)]
 ·first|rw[ifpC (XC (by omega) (by omega))]|(rw[ifnC (by rw[XI (fun i hi=>hm i (by omega))];decide)];(repeat first|rw[ifpC (by assumption)]|rw[ifnC (by first|(rw[g];decide)|(rw[f];decide)|(rw[p];decide)|(rw[x];decide)|skip)]))
 have p:=s
 try simp only[zh]at s
 refine zg rfl (za (R0 fun _=>st (aS (Iv 2) (zb (zo (zN qR (show _=(Iv 2:Value)from rfl) ?_))))))
 refine⟨?_,(c.s1_)⟩
 rw[Zz]
 rw[ifnC (by rw[d];decide)]
 ·first|rw[ifpC (XC (by omega) (by omega))]|(rw[ifnC (by rw[XI (fun i hi=>hm i (by omega))];decide)];(repeat first|rw[ifpC (by assumption)]|rw[ifnC (by first|(rw[g];decide)|(rw[f];decide)|(rw[p];decide)|skip)]))
 have f:=l
 have l:=zC l
 refine zg rfl (za (R0 fun _=>st (aS (Iv 9) (zb (zo (zN qR (show _=(Iv 9:Value)from rfl) ?_))))))
 refine⟨?_,(c.s1_)⟩
 rw[Zz]
 rw[ifnC (by rw[d];decide)]
 ·first|rw[ifpC (XC (by omega) (by omega))]|(rw[ifnC (by rw[XI (fun i hi=>hm i (by omega))];decide)];(repeat first|rw[ifpC (by assumption)]|rw[ifnC (by first|(rw[g];decide)|(rw[f];decide)|skip)]))
 have g:=q
 have q:=tD q
 refine zg rfl (zp (za (zu (za (R0 fun _=>st (xg rfl (st (lD de0 nR rfl (zd (u.b0) rfl) (st (mV (Iw k) ?_))))))))))
 have aG:k<e.deps.length:=bo
 refine st (zn (k:=1) rT qT rfl hde0.sl rfl aG ?_)
 have O:k<e.deps.length:=bo
 obtain⟨ae,hxe284⟩:=hde0.intD O
 have af:=u.cells ae (hde0.foot (ne_of_lt O))
 refine st (lD (Iv ((e.deps.getD k 0))) kT rfl (af.get (j:=0) rfl) (st (zI rfl rfl (zb ?_))))
 cases m:decide ((e.deps.getD k 0)<0)
 have z:=m
 have m:=fD m
 refine zf rfl (zp (R0 fun _=>st (mV (Iw k) ?_)))
 have aH:InR ((k+1:Nat):Int):=bo
 refine st (zU (r:=((k+1:Nat):Int)) rfl rfl (by rw[show(((k:Nat):Int)+1:Int)=((k+1:Nat):Int)from bo];exact zJ aH) (st (aS (Iw (k+1)) (zb ?_))))
 exact⟨_,by omega,k+1,_,rfl,sSf,by omega,(yU hm om),u⟩
 have z:=m
 have m:=tD m
 refine zg rfl (za (R0 fun _=>st (aS (Iv 1) (zb (zo (zN qR (show _=(Iv 1:Value)from rfl) ?_))))))
 refine⟨?_,(u.s1_)⟩
 rw[Zz]
 rw[ifnC (by rw[d];decide)]
 ·first|rw[ifpC (XC (by omega) (by omega))]|(rw[ifnC (by rw[XI (fun i hi=>hm i (by omega))];decide)];(repeat first|rw[ifpC (by assumption)]|rw[ifnC (by first|(rw[g];decide)|(rw[z];decide)|skip)]))
 have d:=y
 try simp only[zh]at y
 refine zg rfl (za (R0 fun _=>st (aS (Iv 1) (zb (zo (zN qR (show _=(Iv 1:Value)from rfl) ?_))))))
 refine⟨?_,(o.s1_)⟩
 rw[Zz]
 rw[ifpC d]
end
end Go.Proofs.YtbcdijeggfoabaaGreatDoor
