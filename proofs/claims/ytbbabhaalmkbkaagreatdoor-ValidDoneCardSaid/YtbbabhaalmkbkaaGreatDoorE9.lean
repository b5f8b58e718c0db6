import Derived.Test.YtbbabhaalmkbkaaGreatDoorE8
import Derived.Test.YtbbabhaalmkbkaaGreatDoorE7
set_option linter.unusedSimpArgs false
set_option linter.unusedVariables false
set_option linter.unusedSectionVars false
set_option linter.deprecated false
open Go.Proofs.Tryz renaming sizeOf41→kT,sizeOf28→lT,isAgg28→mT,zeroValue41→nT,isAgg41→oT,isAgg3→pT,call23→qT,isAgg45→rT,underlying45→sT,call11→tT,sizeOf25→uT,sizeOf53→vT,results11→wT,isAgg25→kR,underlying75→lR,sizeOf3→mR,sizeOf99→nR,sizeOf73→oR,results19→pR,underlying22→qR,isAgg53→rR,zeroValue53→sR,call33→tR,call20→uR,call32→vR,isAgg73→wR,underlying33→kY,underlying26→lY,isAgg39→mY
namespace Go.Proofs.YtbbabhaalmkbkaaGreatDoor
section
set_option maxRecDepth 8000
set_option maxHeartbeats 4000000
open Go.Proofs Go.RowKit
theorem VG {P:Program}{σ:Env}{w:World}{fn:Func}{a u u2:Tmp}{t:TypeId}{R:Value→World→Prop}{b k:Nat}{cs:List Value}{v' v'':Value}(hr:fn.results=#[.cell a t,.tmp u,.tmp u2])(hA: ∀w,(isAgg t).run P w=.ok true w)(hS: ∀w,(sizeOf t).run P w=.ok k w)(hk:cs.length=k)
 (hv:σ a=.pointer (some ⟨b,0,none⟩)) (hc:CellsAt w b 0 cs) (hu:σ u=v') (hu2:σ u2=v'') (h:R (.tuple #[.agg cs.toArray,v',v'']) w):Yh P fn R .ret σ w:=by
 subst hk
 refine⟨_,fun tmps ht=>?_,h⟩
 have:=yI (P:=P) (w:=w) b 0 cs 0 #[] (fun j hj=>by simpa using hc j hj)
 have e:tmps[a]?.getD undef=.pointer (some ⟨b,0,none⟩):=by rw[←hv,←ht a];simp
 have e2:tmps[u]?.getD undef=v':=by rw[←hu,←ht u];simp
 have e3:tmps[u2]?.getD undef=v'':=by rw[←hu2,←ht u2];simp
 simp[results,hr,e,e2,e3,asAddr,loadVar,hA,hS,loadCells,this,go_sem]
section
variable {d:Dcl}{n:Nat}{L:List Ev}{V:List Ent}{o start:Int}{c:Cmd}
theorem Qq (h: ¬xj d c=0):exR d n L V o start c=(ev0,false,xj d c):=if_pos h
theorem VH (h:xj d c=0)(hk:(yP L c.ckey).isSome=true):exR d n L V o start c=((yP L c.ckey).getD default,false,0):=by
 obtain⟨e,he⟩:=Option.isSome_iff_exists.1 hk
 unfold exR
 rw[if_neg (fun h9=>h9 h),he]
 rfl
theorem Ku (h:xj d c=0)(hk:(yP L c.ckey).isSome=false):exR d n L V o start c=if ¬xC c ((yd (c.ctyp,c.cagg) V:Nat):Int)=0 then(ev0,false,xC c ((yd (c.ctyp,c.cagg) V:Nat):Int))
 else if ¬yX (xN d c.ctyp) (zQ d (c.ctyp,c.cagg) V) c.cfield c.cop c.carg=0 then(ev0,false,yX (xN d c.ctyp) (zQ d (c.ctyp,c.cagg) V) c.cfield c.cop c.carg)
 else(evE c o (zr n L) (max (zS L) start),decide (evN o (zr n L) (max (zS L) start)=0),evN o (zr n L) (max (zS L) start)):=by
 have hn:yP L c.ckey=none:=Option.not_isSome_iff_eq_none.1 (by rw[hk];decide)
 unfold exR
 rw[if_neg (fun h9=>h9 h),hn]
theorem Ql (h:xj d c=0)(hk:(yP L c.ckey).isSome=false)(hx: ¬xC c ((yd (c.ctyp,c.cagg) V:Nat):Int)=0):exR d n L V o start c=(ev0,false,xC c ((yd (c.ctyp,c.cagg) V:Nat):Int)):=by rw[Ku h hk,if_pos hx]
theorem Qa (h:xj d c=0)(hk:(yP L c.ckey).isSome=false)(hx:xC c ((yd (c.ctyp,c.cagg) V:Nat):Int)=0)(hm: ¬yX (xN d c.ctyp) (zQ d (c.ctyp,c.cagg) V) c.cfield c.cop c.carg=0):exR d n L V o start c=(ev0,false,yX (xN d c.ctyp) (zQ d (c.ctyp,c.cagg) V) c.cfield c.cop c.carg):=by rw[Ku h hk,if_neg (fun h9=>h9 hx),if_pos hm]
theorem Qs (h:xj d c=0)(hk:(yP L c.ckey).isSome=false)(hx:xC c ((yd (c.ctyp,c.cagg) V:Nat):Int)=0)(hm:yX (xN d c.ctyp) (zQ d (c.ctyp,c.cagg) V) c.cfield c.cop c.carg=0):exR d n L V o start c=(evE c o (zr n L) (max (zS L) start),decide (evN o (zr n L) (max (zS L) start)=0),evN o (zr n L) (max (zS L) start)):=by rw[Ku h hk,if_neg (fun h9=>h9 hx),if_neg (fun h9=>h9 hm)]
theorem Vq (o:Int):0≤yt (zr n L) o∧yt (zr n L) o≤L.length:=by
 unfold yt
 split
 ·omega
 ·rename_i h
  rw[xl]at h
  rw[WR (by omega)]
  have:=Qc (L:=L) (o:=o.toNat)
  omega
theorem zaN {W:World}{G:Nat→Prop}{m:Nat}{R:List ((Int×Int)×Value)}(hr:SetR W G m R L)(hid:(L.map idE).Nodup): ∀e∈L,e.Ok:=fun e he=>by
 obtain⟨x,vd,h1,_,h3,_⟩:=hr.at_ (idE e)
 rw[xQ hid he]at h1
 have h4:x=e:=h1
 exact h4▸h3
theorem zah {key:Int}(h: ∀e∈L,e.Ok)(hk:(yP L key).isSome=true):((yP L key).getD default).Ok:=by
 obtain⟨e,he⟩:=Option.isSome_iff_exists.1 hk
 rw[he]
 exact h e (List.mem_of_find?_eq_some he)
theorem YD (h:xj d c=0):xc d c.ctyp c.cfield c.cop c.carg=0:=by
 unfold xj at h
 split at h
 ·cases h
 ·exact h
theorem Wc {k:Int×Int}(h:(zn d V k).isSome=false):yd k V=0:=by
 unfold zn at h
 split at h
 ·assumption
 ·cases h
theorem Vb {k:Int×Int}(h:(zn d V k).isSome=true):stL d k V=zQ d k V:=by
 unfold zn at h
 unfold stL
 split at h
 ·cases h
 ·rename_i hn;rw[if_neg hn]
end
set_option maxHeartbeats 8000000 in
theorem ZN {G:Nat→Prop}{W w:World}{Rs:List HP}{d:Dcl}{dd0:Value}(hdd0:RdS W G dd0 d.types){dd1:Value}(hdd1:RdS W G dd1 d.projs)(od:d.Ok){sq:Nat}{n:Nat}{L:List Ev}(hsq:(SetO sq n L).p W G){vb:Nat}{V:List Ent}{o:Int}(ho:InR o){start:Int}(hstart:InR start){c:Cmd}(oc:c.Ok)(hKN:RdS W G (.slice (some ⟨0,0,none⟩) 6 6) kindsL)(hS0:Sep G W ((ViewO vb d V V)::Rs) w)(hd:DclOk d)(hinv:Inv d V)(hml:V.length≤1000000)(hid:(L.map idE).Nodup)(hsr:Srt L)(hL:L.length≤1000000)(htop:InR (zS L)):Ret Tryz.prog 11 [.agg (d.cells dd0 dd1).toArray,.pointer (some ⟨sq,0,none⟩),.pointer (some ⟨vb,0,none⟩),.int .i64 (o),.int .i64 (start),.agg (c.cells).toArray] w (fun r w'=> ∃(vd:Value),r=(.tuple #[.agg ((exR d n L V o start c).1.cells vd).toArray,.bool ((exR d n L V o start c).2.1),.int .i64 ((exR d n L V o start c).2.2)]:Value)∧Sep G W ((ViewO vb d V V)::(DepO vd ((exR d n L V o start c).1.deps))::Rs) w'):=by
 have hdd0s:_*24≤_:=hdd0.small
 have hdd1s:_*40≤_:=hdd1.small
 have hKNs:_*8≤_:=hKN.small
 refine zi (args:=[.agg (d.cells dd0 dd1).toArray,Ix sq 0,Ix vb 0,Iv o,Iv start,.agg (c.cells).toArray]) Tryz.func11 rfl rfl ?_
 obtain⟨vv1,m2,R3,hb4,ed,hr6⟩:=SetO.sh hsq
 have hsm7:(zr n L).length*8≤140737488355328:=ed.small
 refine za (R0 fun _=>st (zN (v:=.agg (d.cells dd0 dd1).toArray) rfl ?_))
 intro w10 b9 ee
 let el:=Blk b9 (d.cells dd0 dd1).toArray 25
 refine st (zN (v:=.agg (c.cells).toArray) rfl ?_)
 intro w14 s dk
 let eo:=Blk s (c.cells).toArray 28
 refine st (zt nT ?_)
 intro w18 F dl
 let ew:=Blk F (ev0.cells (Iz)).toArray 41
 have aJ:=((hS0.new ee).new dk).new dl
 refine st (aS (.bool false) (st (aS (Iv 0) (zd (za (za (R0 fun _=>st (zf (k:=2) kR uT rfl rfl (CellsAt.all (aJ.b2)) (st (zf (k:=7) mT lT rfl rfl (CellsAt.all (aJ.b1)) (st (cL Tryz.call27 (Kn (d:=d) (c:=c) hdd0 hdd1 od oc hKN aJ) ?_))))))))))))
 rintro _ w20 ⟨rfl,ak⟩
 refine st (aS (Iv (xj d c)) (zd (za (R0 fun _=>st (mV (Iv (xj d c)) (st (yh (k:=.i64) (a:=xj d c) (b:=0) rfl rfl (zd ?_))))))))
 cases X: !decide ((xj d c)=0)
 have hc22r:=X
 have X:=zu X
 have hzc:xj d c=0:=by simpa using X
 obtain⟨ef,eg,eh⟩:=Yx (YD hzc)
 refine zg rfl (zl (za (za (R0 fun _=>st (mV (Ix sq 0) (st (YK rfl (st (lD (Iv (c.ckey)) pT rfl (zb (ak.b1) rfl) (st (cL Tryz.call28 (KW (key:=c.ckey) hsq oc.ckey ak (hid) (hsr) (hL)) ?_)))))))))))
 rintro _ w24 ⟨C,rfl,dm⟩
 let p:=((yP L c.ckey).getD default).cells C
 refine st (mV (.tuple #[.agg p.toArray,.bool (yP L c.ckey).isSome]) (st (zk (vs:=[.agg p.toArray,.bool ((yP L c.ckey).isSome)]) (i:=0) (v:=.agg p.toArray) rfl rfl (st (zk (vs:=[.agg p.toArray,.bool ((yP L c.ckey).isSome)]) (i:=1) (v:=.bool ((yP L c.ckey).isSome)) rfl rfl (st (zt nT ?_)))))))
 intro w28 aj dp
 let eu:=Blk aj p.toArray 41
 have aK:=dm.new dp
 refine stn (zq (v:=.agg p.toArray) (c':=p.toArray) kT rfl rfl (aK.b0) (ye ⟨rfl,rfl,rfl,(aK.depSl (i:=1) rfl).one,rfl,rfl,rfl,rfl,rfl,rfl,trivial⟩) yqc rfl ?_)
 intro w30 dq
 have N:=aK.pt0 dq
 refine st (aS (.bool ((yP L c.ckey).isSome)) (zd (za (R0 fun _=>st (mV (.bool ((yP L c.ckey).isSome)) (zd ?_))))))
 cases aL:(yP L c.ckey).isSome
 have hc33r:=aL
 have hzk:(yP L c.ckey).isSome=false:=by simpa using aL
 refine zg rfl (zl (za (R0 fun _=>st (yG rfl (st (lD dd0 Tryz.isAgg22 rfl (zb (N.b4) rfl) (st (ZO rfl (st (lD (Iv (c.ctyp)) pT rfl (zb (N.b3) rfl) ?_))))))))))
 have hi34:c.ctyp.toNat<d.types.length:=bo
 refine st (zA (k:=1) (i:=c.ctyp) qR vT rfl hdd0.sl rfl ⟨by omega,by omega⟩ ?_)
 have bq:c.ctyp.toNat<d.types.length:=bo
 obtain⟨bF,Q,aw⟩:=hdd0.typD bq
 have hsm37:((d.types.getD c.ctyp.toNat default).fields).length*48≤140737488355328:=Q.small
 have bG:=N.cells bF (hdd0.foot (ne_of_lt bq))
 refine st (zf (k:=1) rR vT rfl rfl bG (st (zt sR ?_)))
 intro w41 D dr
 let ai:=Blk D ((d.types.getD c.ctyp.toNat default).cells (zI W (sb dd0) (so dd0+c.ctyp.toNat*1+0))).toArray 53
 have br:=N.new dr
 refine stn (zq (v:=.agg ((d.types.getD c.ctyp.toNat default).cells (zI W (sb dd0) (so dd0+c.ctyp.toNat*1+0))).toArray) (c':=((d.types.getD c.ctyp.toNat default).cells (zI W (sb dd0) (so dd0+c.ctyp.toNat*1+0))).toArray) vT rfl rfl (br.b0) (ye ⟨Q.sl.one,trivial⟩) yqc rfl ?_)
 intro w43 ds
 have aM:=br.pt0 ds
 refine zd (za (R0 fun _=>st (mV (Ix vb 0) (st (ZO rfl (st (lD (Iv (c.ctyp)) pT rfl (zb (aM.b4) rfl) (st (Xs rfl (st (lD (Iv (c.cagg)) pT rfl (zb (aM.b4) rfl) (st (cL Tryz.call12 (WH (ty:=c.ctyp) (no:=c.cagg) oc.ctyp oc.cagg (aM.mv6)) ?_)))))))))))))
 rintro _ w48 ⟨ad,rfl,bu⟩
 let ek:=(xy d (c.ctyp,c.cagg) V).cells ad
 have bv:=bu.r1
 have hr50s:_*32≤_:=bv.2
 refine st (mV (.tuple #[.agg ek.toArray,.bool ((zn d V (c.ctyp,c.cagg)).isSome)]) (st (zk (vs:=[.agg ek.toArray,.bool ((zn d V (c.ctyp,c.cagg)).isSome)]) (i:=0) (v:=.agg ek.toArray) rfl rfl (st (zk (vs:=[.agg ek.toArray,.bool ((zn d V (c.ctyp,c.cagg)).isSome)]) (i:=1) (v:=.bool ((zn d V (c.ctyp,c.cagg)).isSome)) rfl rfl (st (zt Tryz.zeroValue47 ?_)))))))
 intro w53 y dt
 have bw:=bu.new dt
 refine stn (zq (v:=.agg ek.toArray) (c':=ek.toArray) Tryz.sizeOf47 rfl rfl (bw.b0) (ye ⟨rfl,bv.1.one,trivial⟩) yqc rfl ?_)
 intro w55 du
 have al:=bw.pt0 du
 refine st (aS (.bool ((zn d V (c.ctyp,c.cagg)).isSome)) (zd (za (za (R0 fun _=>st (mV (.bool ((zn d V (c.ctyp,c.cagg)).isSome)) (st (yF (a:=(zn d V (c.ctyp,c.cagg)).isSome) rfl (zd ?_)))))))))
 refine Vc (fun σ I=> ∃(O:Value) (ρ:Env),σ=yi ρ [(1,Ix sq 0),(2,Ix vb 0),(3,Iv o),(4,Iv start),(6,Ix b9 0),(11,Ix s 0),(12,Ix F 0),(13,.bool false),(14,Iv 0),(18,Ix D 0),(19,Ix y 0)]∧Sep G W ((Blk y ((yT d (c.ctyp,c.cagg) V).cells O).toArray 47)::(ViewO vb d V V)::(RowE (α:=Cel) own 99 O (zQ d (c.ctyp,c.cagg) V))::ai::eu::(DepO C (((yP L c.ckey).getD default).deps))::(Blk F #[Iv 0,Iv 0,Iv 0,(Iz),Iv 0,Iv 0,Iv 0,Iv 0,Iv 0,Iv 0] 41)::eo::el::Rs) I) ?_ ?_
 cases am: !((zn d V (c.ctyp,c.cagg)).isSome)
 try simp only[ze]at am
 refine zg rfl (zl ?_)
 have aN:(stL d (c.ctyp,c.cagg) V)=zQ d (c.ctyp,c.cagg) V:=Vb (by simpa using am)
 rw[aN]at al
 exact⟨rfl,ad,_,yO ⟨(show _=(Ix sq 0:Value)from rfl),(show _=(Ix vb 0:Value)from rfl),(show _=(Iv o:Value)from rfl),(show _=(Iv start:Value)from rfl),(show _=(Ix b9 0:Value)from rfl),(show _=(Ix s 0:Value)from rfl),(show _=(Ix F 0:Value)from rfl),(show _=(.bool false:Value)from rfl),(show _=(Iv 0:Value)from rfl),(show _=(Ix D 0:Value)from rfl),(show _=(Ix y 0:Value)from rfl),trivial⟩,al⟩
 try simp only[ze]at am
 refine zh rfl (R0 fun _=>st (zf (k:=1) rR vT rfl rfl (CellsAt.all (al.b3)) (st (cL Tryz.call13 (Jh (t:=(d.types.getD c.ctyp.toNat default)) Q aw al) ?_))))
 rintro bx w60 ⟨_,rfl,aO⟩
 have bz:=aO.r0
 have hr62s:_*32≤_:=bz.2
 refine st (yY rfl (stn (yz (v:=bx) (c:=[Iv ((xy d (c.ctyp,c.cagg) V).ver),ad]) (c':=[Iv ((xy d (c.ctyp,c.cagg) V).ver),bx]) Tryz.sizeOf45 rfl rfl (aO.b1) bz.1.one rfl rfl ?_)))
 intro w63 dv
 have bA:=aO.pt1 dv
 refine zd ?_
 have aN:(List.replicate (d.types.getD c.ctyp.toNat default).fields.length (⟨0,[]⟩:Cel))=zQ d (c.ctyp,c.cagg) V:=(Ug (d:=d) (k:=(c.ctyp,c.cagg)) (L:=V) (Wc (by simpa using am))).symm
 rw[aN]at bA
 exact⟨rfl,bx,_,yO ⟨(show _=(Ix sq 0:Value)from rfl),(show _=(Ix vb 0:Value)from rfl),(show _=(Iv o:Value)from rfl),(show _=(Iv start:Value)from rfl),(show _=(Ix b9 0:Value)from rfl),(show _=(Ix s 0:Value)from rfl),(show _=(Ix F 0:Value)from rfl),(show _=(.bool false:Value)from rfl),(show _=(Iv 0:Value)from rfl),(show _=(Ix D 0:Value)from rfl),(show _=(Ix y 0:Value)from rfl),trivial⟩,((bA.s10_abcefghij).s9_bcadefghi)⟩
 rintro _ w68 ⟨O,ρj1,rfl,dw⟩
 let en:=Blk y ((yT d (c.ctyp,c.cagg) V).cells O).toArray 47
 refine za (R0 fun _=>st (Zc (vals:=[Ix s 0,Ix y 0]) rfl (st (Zc (vals:=[Ix D 0,Ix y 0,Ix s 0]) rfl (st (zY (k:=1) (parts':=[(0,.func (.func 29) #[] #[Ix s 0,Ix y 0]),(1,.func (.func 30) #[] #[Ix D 0,Ix y 0,Ix s 0])]) (c:=#[.func (.func 29) #[] #[Ix s 0,Ix y 0],.func (.func 30) #[] #[Ix D 0,Ix y 0,Ix s 0]]) lR oR Tryz.zeroValue73 dc rfl kr ?_))))))
 intro T Z dx
 let ej:=Blk Z #[.func (.func 29) #[] #[Ix s 0,Ix y 0],.func (.func 30) #[] #[Ix D 0,Ix y 0,Ix s 0]] 73
 refine st (aS (Iy Z 2 2) (zd (za (za ?_))))
 obtain⟨G75,dy,ag,dz,aP⟩:=((dw.new dx).mv3).lend
 have an:=RowE.rd dy
 have hrd81s:_*32≤_:=an.small
 obtain⟨G83,bB,Y,dB,aQ⟩:=(dz.mv1).lend
 obtain⟨G90,dC,J,dD,aR⟩:=(dB.mv2).lend
 obtain⟨U,P,E,bH,ao⟩:=(dD.mv5).lend
 refine R0 fun _=>st (mV (Iy Z 2 2) (st (zR (n:=2) lR rfl (⟨_,2,rfl,Nat.le_refl _,fun _=>⟨_,_,rfl⟩⟩:IsSl _ 2) (st (mV (Iv 0) (zd (zx ?_)))))))
 refine yq (fun mq σ I=> ∃(k:Nat) (ρ:Env),mq=2-k∧σ=yi ρ [(1,Ix sq 0),(3,Iv o),(4,Iv start),(11,Ix s 0),(12,Ix F 0),(13,.bool false),(14,Iv 0),(66,(Iy Z 2 2)),(67,Iw 2),(68,Iw k)]∧(k≤2)∧(0<k→xC c (yT d (c.ctyp,c.cagg) V).ver=0)∧(1<k→yX (d.types.getD c.ctyp.toNat default) (yT d (c.ctyp,c.cagg) V).cls c.cfield c.cop c.carg=0)∧Sep U T ((Blk Z #[.func (.func 29) #[] #[Ix s 0,Ix y 0],.func (.func 30) #[] #[Ix D 0,Ix y 0,Ix s 0]] 73)::(ViewO vb d V V)::(Blk aj (((yP L c.ckey).getD default).cells C).toArray 41)::(DepO C (((yP L c.ckey).getD default).deps))::(Blk F #[Iv 0,Iv 0,Iv 0,(Iz),Iv 0,Iv 0,Iv 0,Iv 0,Iv 0,Iv 0] 41)::(Blk b9 (d.cells dd0 dd1).toArray 25)::Rs) I) ⟨0,_,rfl,sSf,by omega,(fun h=>absurd h om),(fun h=>absurd h om),bH⟩ ?_
 rintro m104 σ105 w103 ⟨k,ρl1,rfl,rfl,hk2,bC,ei,aa⟩
 refine za (R0 fun _=>st (zJ (k:=.i64) (a:=((k:Nat):Int)) (b:=((2:Nat):Int)) rfl rfl (zd (za ?_))))
 cases ab:decide (((k:Nat):Int)<((2:Nat):Int))
 have hc107r:=ab
 have ab:=fD ab
 have dE:=bC om
 have dG:=ei om
 refine zg rfl (yr (yg (za ?_)))
 refine WD6 ((fun TT ac=>WF [fun vals I=>Sep U T (ac::TT) I,fun vals I=> ∃(g:Value),(vals 3=(g:Value))∧Sep U T ((RowE (α:=Int) own 3 g (zr n L))::ac::TT) I,fun _ _=>True,fun vals I=> ∃(g:Value),(vals 3=(g:Value))∧(vals 5=(Iv (zS L):Value))∧Sep U T ((RowE (α:=Int) own 3 g (zr n L))::ac::TT) I,fun _ _=>True,fun _ _=>True,fun _ _=>True,fun vals I=> ∃(g:Value) (e:Value),(vals 3=(g:Value))∧(vals 5=(Iv (zS L):Value))∧(vals 8=(.tuple #[.agg ((evE c o (zr n L) (max (zS L) start)).cells e).toArray,Iv ((evN o (zr n L) (max (zS L) start)))]:Value))∧Sep U T ((RowE (α:=Int) own 3 g (zr n L))::(RowE (α:=Int) own 3 e ((evE c o (zr n L) (max (zS L) start)).deps))::ac::TT) I,fun vals I=> ∃(j:Nat),(vals 12=(Ix j 0:Value))∧Sep U T ((Blk j #[Iv 0,Iv 0,Iv 0,(Iz),Iv 0,Iv 0,Iv 0,Iv 0,Iv 0,Iv 0] 41)::ac::TT) I,fun vals I=> ∃(g:Value) (j:Nat),(vals 3=(g:Value))∧(vals 12=(Ix j 0:Value))∧Sep U T ((Blk j #[Iv 0,Iv 0,Iv 0,(Iz),Iv 0,Iv 0,Iv 0,Iv 0,Iv 0,Iv 0] 41)::(RowE (α:=Int) own 3 g (zr n L))::ac::TT) I,fun _ _=>True,fun vals I=> ∃(g:Value) (j:Nat),(vals 3=(g:Value))∧(vals 5=(Iv (zS L):Value))∧(vals 12=(Ix j 0:Value))∧Sep U T ((Blk j #[Iv 0,Iv 0,Iv 0,(Iz),Iv 0,Iv 0,Iv 0,Iv 0,Iv 0,Iv 0] 41)::(RowE (α:=Int) own 3 g (zr n L))::ac::TT) I,fun _ _=>True,fun _ _=>True,fun _ _=>True,fun vals I=> ∃(g:Value) (e:Value) (j:Nat),(vals 3=(g:Value))∧(vals 5=(Iv (zS L):Value))∧(vals 8=(.tuple #[.agg ((evE c o (zr n L) (max (zS L) start)).cells e).toArray,Iv ((evN o (zr n L) (max (zS L) start)))]:Value))∧(vals 12=(Ix j 0:Value))∧Sep U T ((Blk j #[Iv 0,Iv 0,Iv 0,(Iz),Iv 0,Iv 0,Iv 0,Iv 0,Iv 0,Iv 0] 41)::(RowE (α:=Int) own 3 g (zr n L))::(RowE (α:=Int) own 3 e ((evE c o (zr n L) (max (zS L) start)).deps))::ac::TT) I,fun _ _=>True,fun _ _=>True,fun _ _=>True,fun _ _=>True,fun _ _=>True,fun _ _=>True,fun _ _=>True,fun _ _=>True,fun _ _=>True,fun _ _=>True,fun _ _=>True,fun _ _=>True,fun _ _=>True,fun _ _=>True,fun _ _=>True,fun vals I=> ∃(g:Value) (e:Value) (j:Nat),(vals 3=(g:Value))∧(vals 5=(Iv (zS L):Value))∧(vals 8=(.tuple #[.agg ((evE c o (zr n L) (max (zS L) start)).cells e).toArray,Iv ((evN o (zr n L) (max (zS L) start)))]:Value))∧(vals 12=(Ix j 0:Value))∧Sep U T ((Blk j ((evE c o (zr n L) (max (zS L) start)).cells e).toArray 41)::(RowE (α:=Int) own 3 g (zr n L))::(RowE (α:=Int) own 3 e ((evE c o (zr n L) (max (zS L) start)).deps))::ac::TT) I]) ((ViewO vb d V V)::eu::(DepO C (((yP L c.ckey).getD default).deps))::(Blk F #[Iv 0,Iv 0,Iv 0,(Iz),Iv 0,Iv 0,Iv 0,Iv 0,Iv 0,Iv 0] 41)::el::Rs) ej) (AF [Vl 0 (.agg (c.cells).toArray),Vl 1 (Iv o),Vl 2 (Ix sq 0),fun _=>True,Vl 4 (Ix sq 0),fun _=>True,Vl 6 (Iv start),Vl 7 (Iv (max (zS L) start)),fun _=>True,fun vals=> ∀(e:Value),vals 8=(.tuple #[.agg ((evE c o (zr n L) (max (zS L) start)).cells e).toArray,Iv ((evN o (zr n L) (max (zS L) start)))]:Value)→vals 9=(.tuple #[.agg ((evE c o (zr n L) (max (zS L) start)).cells e).toArray,Iv ((evN o (zr n L) (max (zS L) start)))]:Value),fun vals=> ∀(e:Value),vals 8=(.tuple #[.agg ((evE c o (zr n L) (max (zS L) start)).cells e).toArray,Iv ((evN o (zr n L) (max (zS L) start)))]:Value)→vals 10=(.agg ((evE c o (zr n L) (max (zS L) start)).cells e).toArray:Value),Vl 11 (Iv ((evN o (zr n L) (max (zS L) start)))),fun _=>True,fun _=>True,Vl 14 (Iv ((evN o (zr n L) (max (zS L) start))))]) [[],[],[],[2],[],[2,3,4],[],[2,3,4,5,6],(rg 8),(rg 9),(rg 10),(rg 10),[],[0,1,2,3,4,5,6,7,8,9,10,12],(rg 14)] [3,5,8,12,13] [[0,1,3,8,9,11],[0,1,3,8,9,11],[0,8],[0,8],[0,1,8,9],[1,9],[0,1,3,8,9,11],[3,11],[3,11],[7,15],[7,15],[7,15,31],[0,1,3,7],[15],[31]] aa ⟨?_,fun _ _ _ _ _ _=>obl rfl (mV (Iv o) dR),fun _ _ _ _ _ _=>obl rfl (mV (Ix sq 0) dR),?_,fun _ _ _ _ _ _=>obl rfl (mV (Ix sq 0) dR),?_,fun _ _ _ _ _ _=>obl rfl (mV (Iv start) dR),?_,?_,?_,?_,?_,?_,?_,fun _ _ _ _ _ bI=>obl rfl (ya (v:=Iv ((evN o (zr n L) (max (zS L) start)))) (bI 11 dc) dR),trivial⟩ ?_ (hlocA:=xb ⟨dA,dA,dA,dT,dA,dT,dA,dA,dT,fun vals A B h=>fun e H=>(B 9 (.inl rfl)).trans (h e ((B 8 (.inr dc)).symm.trans H)),fun vals A B h=>fun e H=>(B 10 (.inl rfl)).trans (h e ((B 8 (.inr dc)).symm.trans H)),dA,dT,dT,dA,trivial⟩)
 intro dH vals w239 bJ R hA240
 have ax:dH∈[0,1,3,8,9,11]:=bJ
 simp only[yB]at ax
 rcases ax with rfl|rfl|rfl|rfl|rfl|rfl
 have bK:Sep _ _ _ _:=R
 exact obl rfl (zf (k:=7) mT lT rfl rfl (CellsAt.all (bK.gblk P)) dR)
 obtain⟨g,l,bL⟩:=R
 exact obl rfl (zf (k:=7) mT lT rfl rfl (CellsAt.all (bL.gblk P)) dR)
 obtain⟨g,l,m,bM⟩:=R
 exact obl rfl (zf (k:=7) mT lT rfl rfl (CellsAt.all (bM.gblk P)) dR)
 obtain⟨j,z,bN⟩:=R
 exact obl rfl (zf (k:=7) mT lT rfl rfl (CellsAt.all (bN.gblk P)) dR)
 obtain⟨g,j,l,z,bO⟩:=R
 exact obl rfl (zf (k:=7) mT lT rfl rfl (CellsAt.all (bO.gblk P)) dR)
 obtain⟨g,j,l,m,z,bP⟩:=R
 exact obl rfl (zf (k:=7) mT lT rfl rfl (CellsAt.all (bP.gblk P)) dR)
 intro dI vals w270 bQ aT aU
 have ay:dI∈[0,8]:=bQ
 simp only[yB]at ay
 rcases ay with rfl|rfl
 have bR:Sep _ _ _ _:=aT
 refine obl rfl ((zG (f:=33) (vals:=[Ix sq 0]) (cap:=[]) rfl (yK ⟨(aU 2 dc),trivial⟩) tR (KE (HP.base (HP.base (HP.base (HP.base hsq ag) Y) J) E) bR) ?_))
 rintro g w277 ⟨_,rfl,aV⟩
 have bS:=aV.r0
 have hr279s:_*8≤_:=bS.2
 exact fun A B u=>⟨(exiA g (zv B aV)),trivial⟩
 obtain⟨j,z,bT⟩:=aT
 refine obl rfl ((zG (f:=33) (vals:=[Ix sq 0]) (cap:=[]) rfl (yK ⟨(aU 2 dc),trivial⟩) tR (KE (HP.base (HP.base (HP.base (HP.base hsq ag) Y) J) E) bT) ?_))
 rintro g w283 ⟨_,rfl,aW⟩
 have bU:=aW.r0
 have hr285s:_*8≤_:=bU.2
 exact fun A B u=>⟨(exiA g (exiA j (zv B (zv ((u 12 dc).trans z) (aW.mv1))))),trivial⟩
 intro dJ vals w293 bV aX aY
 have az:dJ∈[1,9]:=bV
 simp only[yB]at az
 rcases az with rfl|rfl
 obtain⟨g,l,bW⟩:=aX
 refine obl rfl ((zG (f:=20) (vals:=[Ix sq 0]) (cap:=[]) rfl (yK ⟨(aY 4 dc),trivial⟩) uR (KD (HP.base (HP.base (HP.base (HP.base hsq ag) Y) J) E) bW) ?_))
 rintro _ w299 ⟨rfl,bX⟩
 exact fun A B u=>⟨(exiA g (zv ((u 3 dc).trans l) (zv B bX))),trivial⟩
 obtain⟨g,j,l,z,bY⟩:=aX
 refine obl rfl ((zG (f:=20) (vals:=[Ix sq 0]) (cap:=[]) rfl (yK ⟨(aY 4 dc),trivial⟩) uR (KD (HP.base (HP.base (HP.base (HP.base hsq ag) Y) J) E) bY) ?_))
 rintro _ w303 ⟨rfl,bZ⟩
 exact fun A B u=>⟨(exiA g (exiA j (zv ((u 3 dc).trans l) (zv B (zv ((u 12 dc).trans z) bZ))))),trivial⟩
 intro dK vals w311 ca aZ ba
 have aA:dK∈[3,11]:=ca
 simp only[yB]at aA
 rcases aA with rfl|rfl
 obtain⟨g,l,m,hS315⟩:=aZ
 exact obl rfl (YE (k:=.i64) (a:=zS L) (b:=start) m (ba 6 dc) dR)
 obtain⟨g,j,l,m,z,hS317⟩:=aZ
 exact obl rfl (YE (k:=.i64) (a:=zS L) (b:=start) m (ba 6 dc) dR)
 intro dL vals w320 cb bb S
 have aB:dL∈[3,11]:=cb
 simp only[yB]at aB
 rcases aB with rfl|rfl
 obtain⟨g,l,m,cc⟩:=bb
 refine obl rfl ?_
 obtain⟨G328,cd,hB331,ce,cf⟩:=cc.lend
 have aC:=RowE.rd cd
 have hrd334s:_*8≤_:=aC.small
 refine(zG (f:=32) (vals:=[.agg (c.cells).toArray,Iv o,g,Iv (max (zS L) start)]) (cap:=[]) rfl (yK ⟨(S 0 dc),(S 1 dc),l,(S 7 dc),trivial⟩) vR (Vz (c:=c) (o:=o) (v:=zr n L) (vv:=g) (lam:=max (zS L) start) oc om aC (by have h1:InR (zS L):=(by omega);have h2:InR start:=(by omega);omega) ce) ?_)
 rintro _ w336 ⟨e,rfl,bd⟩
 have cg:=bd.r0
 have hr338s:_*8≤_:=cg.2
 have ch:=cf _ _ bd
 exact fun A B u=>⟨(exiA g (exiA e (zv ((u 3 dc).trans l) (zv ((u 5 dc).trans m) (zv B ch))))),trivial⟩
 obtain⟨g,j,l,m,z,ci⟩:=bb
 refine obl rfl ?_
 obtain⟨G345,cj,hB348,ck,cl⟩:=(ci.mv1).lend
 have aD:=RowE.rd cj
 have hrd351s:_*8≤_:=aD.small
 refine(zG (f:=32) (vals:=[.agg (c.cells).toArray,Iv o,g,Iv (max (zS L) start)]) (cap:=[]) rfl (yK ⟨(S 0 dc),(S 1 dc),l,(S 7 dc),trivial⟩) vR (Vz (c:=c) (o:=o) (v:=zr n L) (vv:=g) (lam:=max (zS L) start) oc om aD (by have h1:InR (zS L):=(by omega);have h2:InR start:=(by omega);omega) ck) ?_)
 rintro _ w353 ⟨e,rfl,be⟩
 have cm:=be.r0
 have hr355s:_*8≤_:=cm.2
 have cn:=cl _ _ be
 exact fun A B u=>⟨(exiA g (exiA e (exiA j (zv ((u 3 dc).trans l) (zv ((u 5 dc).trans m) (zv B (zv ((u 12 dc).trans z) (cn.mv2)))))))),trivial⟩
 intro dM vals w359 co bf hA360
 have aE:dM∈[7,15]:=co
 simp only[yB]at aE
 rcases aE with rfl|rfl
 obtain⟨g,e,l,m,q,hS363⟩:=bf
 refine obl rfl (zV (v:=.tuple #[.agg ((evE c o (zr n L) (max (zS L) start)).cells e).toArray,Iv ((evN o (zr n L) (max (zS L) start)))]) q (fun A B u=>⟨rfl,?_⟩))
 intro ah H
 rw[u 8 (by decide)]at H;cases q.symm.trans H
 exact B
 obtain⟨g,e,j,l,m,q,z,hS364⟩:=bf
 refine obl rfl (zV (v:=.tuple #[.agg ((evE c o (zr n L) (max (zS L) start)).cells e).toArray,Iv ((evN o (zr n L) (max (zS L) start)))]) q (fun A B u=>⟨rfl,?_⟩))
 intro ah H
 rw[u 8 (by decide)]at H;cases q.symm.trans H
 exact B
 intro dN vals w366 cp bg bh
 have aF:dN∈[7,15]:=cp
 simp only[yB]at aF
 rcases aF with rfl|rfl
 obtain⟨g,e,l,m,q,hS370⟩:=bg
 let er:=(evE c o (zr n L) (max (zS L) start)).cells e
 have dO:vals 9=(.tuple #[.agg er.toArray,Iv ((evN o (zr n L) (max (zS L) start)))]:Value):=bh 9 dc e q
 refine obl rfl (zk (vs:=[.agg er.toArray,Iv ((evN o (zr n L) (max (zS L) start)))]) (i:=0) (v:=.agg er.toArray) dO rfl (fun A B u=>⟨rfl,?_⟩))
 intro ah H
 rw[u 8 (by decide)]at H;cases q.symm.trans H
 exact B
 obtain⟨g,e,j,l,m,q,z,hS372⟩:=bg
 let es:=(evE c o (zr n L) (max (zS L) start)).cells e
 have dP:vals 9=(.tuple #[.agg es.toArray,Iv ((evN o (zr n L) (max (zS L) start)))]:Value):=bh 9 dc e q
 refine obl rfl (zk (vs:=[.agg es.toArray,Iv ((evN o (zr n L) (max (zS L) start)))]) (i:=0) (v:=.agg es.toArray) dP rfl (fun A B u=>⟨rfl,?_⟩))
 intro ah H
 rw[u 8 (by decide)]at H;cases q.symm.trans H
 exact B
 intro dQ vals w375 cq ap aq
 have aG:dQ∈[7,15,31]:=cq
 simp only[yB]at aG
 rcases aG with rfl|rfl|rfl
 obtain⟨g,e,l,m,q,hS379⟩:=ap
 have dS:vals 9=(.tuple #[.agg ((evE c o (zr n L) (max (zS L) start)).cells e).toArray,Iv ((evN o (zr n L) (max (zS L) start)))]:Value):=aq 9 dc e q
 exact obl rfl (zk (vs:=[.agg ((evE c o (zr n L) (max (zS L) start)).cells e).toArray,Iv ((evN o (zr n L) (max (zS L) start)))]) (i:=1) (v:=Iv ((evN o (zr n L) (max (zS L) start)))) dS rfl dR)
 obtain⟨g,e,j,l,m,q,z,hS381⟩:=ap
 have dU:vals 9=(.tuple #[.agg ((evE c o (zr n L) (max (zS L) start)).cells e).toArray,Iv ((evN o (zr n L) (max (zS L) start)))]:Value):=aq 9 dc e q
 exact obl rfl (zk (vs:=[.agg ((evE c o (zr n L) (max (zS L) start)).cells e).toArray,Iv ((evN o (zr n L) (max (zS L) start)))]) (i:=1) (v:=Iv ((evN o (zr n L) (max (zS L) start)))) dU rfl dR)
 obtain⟨g,e,j,l,m,q,z,hS383⟩:=ap
 have dV:vals 9=(.tuple #[.agg ((evE c o (zr n L) (max (zS L) start)).cells e).toArray,Iv ((evN o (zr n L) (max (zS L) start)))]:Value):=aq 9 dc e q
 exact obl rfl (zk (vs:=[.agg ((evE c o (zr n L) (max (zS L) start)).cells e).toArray,Iv ((evN o (zr n L) (max (zS L) start)))]) (i:=1) (v:=Iv ((evN o (zr n L) (max (zS L) start)))) dV rfl dR)
 intro dW vals w386 cr ae hA387
 have aH:dW∈[0,1,3,7]:=cr
 simp only[yB]at aH
 rcases aH with rfl|rfl|rfl|rfl
 have cs:Sep _ _ _ _:=ae
 refine obl rfl ((zt nT ?_))
 intro w393 j ct
 exact fun A B u=>⟨(exiA j (zv B (cs.new ct))),trivial⟩
 obtain⟨g,l,cu⟩:=ae
 refine obl rfl ((zt nT ?_))
 intro w398 j cv
 exact fun A B u=>⟨(exiA g (exiA j (zv ((u 3 dc).trans l) (zv B (cu.new cv))))),trivial⟩
 obtain⟨g,l,m,cw⟩:=ae
 refine obl rfl ((zt nT ?_))
 intro w403 j cx
 exact fun A B u=>⟨(exiA g (exiA j (zv ((u 3 dc).trans l) (zv ((u 5 dc).trans m) (zv B (cw.new cx)))))),trivial⟩
 obtain⟨g,e,l,m,q,cy⟩:=ae
 refine obl rfl ((zt nT ?_))
 intro w408 j cz
 exact fun A B u=>⟨(exiA g (exiA e (exiA j (zv ((u 3 dc).trans l) (zv ((u 5 dc).trans m) (zv ((u 8 dc).trans q) (zv B (cy.new cz)))))))),trivial⟩
 intro dX vals w411 cC cD cE
 have aI:dX∈[15]:=cC
 simp only[yB]at aI
 subst aI
 obtain⟨g,e,j,l,m,q,z,ar⟩:=cD
 let et:=(evE c o (zr n L) (max (zS L) start)).cells e
 refine obl rfl ?_
 have dY:vals 10=(.agg et.toArray:Value):=cE 10 dc e q
 have bi:=ar.r2
 have hr419s:_*8≤_:=bi.2
 refine(zq (v:=.agg et.toArray) (c':=et.toArray) kT z dY (ar.b0) (ye ⟨rfl,rfl,rfl,bi.1.one,rfl,rfl,rfl,rfl,rfl,rfl,trivial⟩) yqc rfl ?_)
 intro w417 cF
 exact fun A B u=>⟨(exiA g (exiA e (exiA j (zv ((u 3 dc).trans l) (zv ((u 5 dc).trans m) (zv ((u 8 dc).trans q) (zv ((u 12 dc).trans z) (ar.pt0 cF)))))))),trivial⟩
 intro vals w427 cG cH
 obtain⟨g,e,j,l,m,q,z,af⟩:=cG
 let em:=(evE c o (zr n L) (max (zS L) start)).cells e
 have dZ:=cH 14 dc
 refine zZ (kv:=[(1,Ix sq 0),(3,Iv o),(4,Iv start),(11,Ix s 0),(12,Ix F 0),(13,.bool false),(14,Iv 0),(66,(Iy Z 2 2)),(67,Iw 2),(68,Iw k),(69,.bool false),(25,Ix j 0),(26,Iv ((evN o (zr n L) (max (zS L) start))))]) ⟨rfl,rfl,rfl,rfl,rfl,rfl,rfl,rfl,rfl,rfl,rfl,(by exact z),(by exact dZ),trivial⟩ (fun ρw427=>(zd (za (R0 fun _=>st (zf (k:=10) oT kT rfl rfl (CellsAt.all (af.b0)) (st (mV (Iv ((evN o (zr n L) (max (zS L) start)))) (st (yc (k:=.i64) (a:=(evN o (zr n L) (max (zS L) start))) (b:=0) rfl rfl (st (mV (Iv ((evN o (zr n L) (max (zS L) start)))) ?_)))))))))))
 have bj:=af.r2
 have hr434s:_*8≤_:=bj.2
 refine stn (zq (v:=.agg em.toArray) (c':=em.toArray) kT rfl rfl (af.b7) (ye ⟨rfl,rfl,rfl,bj.1.one,rfl,rfl,rfl,rfl,rfl,rfl,trivial⟩) yqc rfl ?_)
 intro bD cI
 have bk:=af.pt7 cI
 refine st (aS (.bool (decide ((evN o (zr n L) (max (zS L) start))=0))) (st (aS (Iv ((evN o (zr n L) (max (zS L) start)))) (zd (zj (VG (b:=F) wT oT kT rfl rfl (CellsAt.all (bk.b7)) (show _=(.bool (decide ((evN o (zr n L) (max (zS L) start))=0)):Value)from rfl) (show _=(Iv ((evN o (zr n L) (max (zS L) start))):Value)from rfl) ?_))))))
 have cJ:=ao _ _ bk
 have cK:=aR _ _ cJ
 have cM:=aQ _ _ cK
 have cN:=aP _ _ cM
 have cO:Sep G W ((DepO e ((evE c o (zr n L) (max (zS L) start)).deps))::(RowE (α:=Cel) own 99 O (zQ d (c.ctyp,c.cagg) V))::en::ai::eo::(Blk j em.toArray 41)::(RowE (α:=Int) own 3 g (zr n L))::ej::(ViewO vb d V V)::eu::(DepO C (((yP L c.ckey).getD default).deps))::(Blk F em.toArray 41)::el::Rs) bD:=QZ (cN.mv6)
 have cP:Sep G W ((ViewO vb d V V)::(DepO e ((evE c o (zr n L) (max (zS L) start)).deps))::Rs) bD:=cO.sel 13 [8,0] (Nat.le_add_left _ _) rfl rfl
 rw[show exR d n L V o start c=((evE c o (zr n L) (max (zS L) start)),decide ((evN o (zr n L) (max (zS L) start))=0),(evN o (zr n L) (max (zS L) start)))from Qs hzc hzk dE dG]
 refine⟨e,rfl,cP⟩
 have ab:=tD ab
 refine zh rfl (zl (za (zx (za ?_))))
 rcases(show k=0∨k=1 by omega)with rfl|rfl
 refine R0 fun _=>st (zm (k:=1) (i:=0) lR oR rfl (⟨_,2,rfl,Nat.le_refl _,fun _=>⟨_,_,rfl⟩⟩:IsSl _ 2) rfl dc (st (lD (.func (.func 29) #[] #[Ix s 0,Ix y 0]) wR rfl (zb (aa.b0) rfl) (st (aS (.func (.func 29) #[] #[Ix s 0,Ix y 0]) (zd (za (R0 fun _=>st (mV (.func (.func 29) #[] #[Ix s 0,Ix y 0]) ?_)))))))))
 refine st (zG (f:=29) (vals:=[]) (cap:=[Ix s 0,Ix y 0]) (show _=(.func (.func 29) #[] #[Ix s 0,Ix y 0]:Value)from rfl) rfl Tryz.call29 (D_ex1 (bc:=s) (c:=c) (bs:=y) (x:=(yT d (c.ctyp,c.cagg) V)) (vx:=O) P oc (Blk.base (Blk.base bB J) E) (RdS.base (RdS.base (RdS.base an Y) J) E) (⟨show InR ((yd (c.ctyp,c.cagg) V:Nat):Int) by have:=Zs (c.ctyp,c.cagg) V;omega⟩:Sta.Ok (yT d (c.ctyp,c.cagg) V)) aa) ?_)
 rintro _ w443 ⟨rfl,au⟩
 refine st (aS (Iv ((xC c (yT d (c.ctyp,c.cagg) V).ver))) (zd (za (R0 fun _=>st (mV (Iv ((xC c (yT d (c.ctyp,c.cagg) V).ver))) (st (yh (k:=.i64) (a:=(xC c (yT d (c.ctyp,c.cagg) V).ver)) (b:=0) rfl rfl (zd ?_))))))))
 cases K: !decide ((xC c (yT d (c.ctyp,c.cagg) V).ver)=0)
 have hc445r:=K
 have K:=zu K
 refine zg rfl (zl (R0 fun _=>?_))
 have cQ:InR (0+1):=by omega
 refine st (yb (r:=0+1) (k:=.i64) (a:=0) (b:=1) rfl rfl (zM cQ) (st (mV (Iv (0+1)) (zd ?_))))
 exact⟨_,by omega,1,_,rfl,sSf,by omega,(fun _=>K),(fun h=>absurd h om),au⟩
 have K:=zy K
 have hzn:=K
 refine zh rfl (za (yx (by kernel_rfl) (fun _=>(st (zP (parts':=[]) (v:=.agg (ev0.cells (Iz)).toArray) rfl (by simp+zetaDelta [Instr.build,Instr.fill,go_sem,Ev.cells,ev0]) (st (mV (Iv ((xC c (yT d (c.ctyp,c.cagg) V).ver))) (stn (zq (v:=.agg (ev0.cells (Iz)).toArray) (c':=(ev0.cells (Iz)).toArray) kT rfl rfl (au.b4) (ye ⟨rfl,rfl,rfl,rfl,rfl,rfl,rfl,rfl,rfl,rfl,trivial⟩) yqc rfl ?_)))))))))
 intro ea cR
 have bl:=au.pt4 cR
 refine st (aS (.bool false) (st (aS (Iv ((xC c (yT d (c.ctyp,c.cagg) V).ver))) (zd (zj (VG (b:=F) wT oT kT rfl rfl (CellsAt.all (bl.b4)) (show _=(.bool false:Value)from rfl) (show _=(Iv ((xC c (yT d (c.ctyp,c.cagg) V).ver)):Value)from rfl) ?_))))))
 have cS:=ao _ _ bl
 have cT:=aR _ _ cS
 have cU:=aQ _ _ cT
 have cV:=aP _ _ cU
 have cW:Sep G W ((DepO (Iz) [])::(RowE (α:=Cel) own 99 O (zQ d (c.ctyp,c.cagg) V))::en::ai::eo::ej::(ViewO vb d V V)::eu::(DepO C (((yP L c.ckey).getD default).deps))::ew::el::Rs) ea:=cV.depoNil
 rw[show exR d n L V o start c=(ev0,false,(xC c (yT d (c.ctyp,c.cagg) V).ver))from Ql hzc hzk hzn]
 refine⟨(Iz),rfl,(cW.s11_ga)⟩
 refine R0 fun _=>st (zm (k:=1) (i:=1) lR oR rfl (⟨_,2,rfl,Nat.le_refl _,fun _=>⟨_,_,rfl⟩⟩:IsSl _ 2) rfl dc (st (lD (.func (.func 30) #[] #[Ix D 0,Ix y 0,Ix s 0]) wR rfl (zb (aa.b0) rfl) (st (aS (.func (.func 30) #[] #[Ix D 0,Ix y 0,Ix s 0]) (zd (za (R0 fun _=>st (mV (.func (.func 30) #[] #[Ix D 0,Ix y 0,Ix s 0]) ?_)))))))))
 refine st (zG (f:=30) (vals:=[]) (cap:=[Ix D 0,Ix y 0,Ix s 0]) (show _=(.func (.func 30) #[] #[Ix D 0,Ix y 0,Ix s 0]:Value)from rfl) rfl Tryz.call30 (D_ex2 (bt:=D) (t:=(d.types.getD c.ctyp.toNat default)) (vt:=(zI W (sb dd0) (so dd0+c.ctyp.toNat*1+0))) (bs:=y) (x:=(yT d (c.ctyp,c.cagg) V)) (vx:=O) (bc:=s) (c:=c) (Blk.base dC E) (RdS.base (RdS.base (RdS.base (RdS.base Q ag) Y) J) E) aw (Blk.base (Blk.base bB J) E) (RdS.base (RdS.base (RdS.base an Y) J) E) (⟨show InR ((yd (c.ctyp,c.cagg) V:Nat):Int) by have:=Zs (c.ctyp,c.cagg) V;omega⟩:Sta.Ok (yT d (c.ctyp,c.cagg) V)) P oc aa ((show XQ _ _ _ _ _ from eh.ask (hd.typ _ om) (hinv c.ctyp c.cagg ef eg)))) ?_)
 rintro _ w456 ⟨rfl,av⟩
 refine st (aS (Iv (yX (d.types.getD c.ctyp.toNat default) (yT d (c.ctyp,c.cagg) V).cls c.cfield c.cop c.carg)) (zd (za (R0 fun _=>st (mV (Iv (yX (d.types.getD c.ctyp.toNat default) (yT d (c.ctyp,c.cagg) V).cls c.cfield c.cop c.carg)) (st (yh (k:=.i64) (a:=yX (d.types.getD c.ctyp.toNat default) (yT d (c.ctyp,c.cagg) V).cls c.cfield c.cop c.carg) (b:=0) rfl rfl (zd ?_))))))))
 cases M: !decide ((yX (d.types.getD c.ctyp.toNat default) (yT d (c.ctyp,c.cagg) V).cls c.cfield c.cop c.carg)=0)
 have hc458r:=M
 have M:=zu M
 refine zg rfl (zl (R0 fun _=>?_))
 have cX:InR (1+1):=by omega
 refine st (yb (r:=1+1) (k:=.i64) (a:=1) (b:=1) rfl rfl (zM cX) (st (mV (Iv (1+1)) (zd ?_))))
 exact⟨_,by omega,2,_,rfl,sSf,by omega,(fun _=>bC om),(fun _=>M),av⟩
 have M:=zy M
 have hzn:=M
 refine zh rfl (za (yx (by kernel_rfl) (fun _=>(st (zP (parts':=[]) (v:=.agg (ev0.cells (Iz)).toArray) rfl (by simp+zetaDelta [Instr.build,Instr.fill,go_sem,Ev.cells,ev0]) (st (mV (Iv (yX (d.types.getD c.ctyp.toNat default) (yT d (c.ctyp,c.cagg) V).cls c.cfield c.cop c.carg)) (stn (zq (v:=.agg (ev0.cells (Iz)).toArray) (c':=(ev0.cells (Iz)).toArray) kT rfl rfl (av.b4) (ye ⟨rfl,rfl,rfl,rfl,rfl,rfl,rfl,rfl,rfl,rfl,trivial⟩) yqc rfl ?_)))))))))
 intro eb cY
 have bm:=av.pt4 cY
 refine st (aS (.bool false) (st (aS (Iv (yX (d.types.getD c.ctyp.toNat default) (yT d (c.ctyp,c.cagg) V).cls c.cfield c.cop c.carg)) (zd (zj (VG (b:=F) wT oT kT rfl rfl (CellsAt.all (bm.b4)) (show _=(.bool false:Value)from rfl) (show _=(Iv (yX (d.types.getD c.ctyp.toNat default) (yT d (c.ctyp,c.cagg) V).cls c.cfield c.cop c.carg):Value)from rfl) ?_))))))
 have cZ:=ao _ _ bm
 have da:=aR _ _ cZ
 have db:=aQ _ _ da
 have dd:=aP _ _ db
 have de:Sep G W ((DepO (Iz) [])::(RowE (α:=Cel) own 99 O (zQ d (c.ctyp,c.cagg) V))::en::ai::eo::ej::(ViewO vb d V V)::eu::(DepO C (((yP L c.ckey).getD default).deps))::ew::el::Rs) eb:=dd.depoNil
 rw[show exR d n L V o start c=(ev0,false,yX (d.types.getD c.ctyp.toNat default) (yT d (c.ctyp,c.cagg) V).cls c.cfield c.cop c.carg)from Qa hzc hzk (bC (by omega)) hzn]
 refine⟨(Iz),rfl,(de.s11_ga)⟩
 have hzk:(yP L c.ckey).isSome=true:=by simpa using aL
 refine zh rfl (za (R0 fun _=>st (zf (k:=10) oT kT rfl rfl (CellsAt.all (N.b0)) (stn (zq (v:=.agg p.toArray) (c':=p.toArray) kT rfl rfl (N.b2) (ye ⟨rfl,rfl,rfl,(N.depSl (i:=1) rfl).one,rfl,rfl,rfl,rfl,rfl,rfl,trivial⟩) yqc rfl ?_)))))
 intro ec df
 have bn:=N.pt2 df
 refine st (aS (.bool false) (st (aS (Iv 0) (zd (zj (VG (b:=F) wT oT kT rfl rfl (CellsAt.all (bn.b2)) (show _=(.bool false:Value)from rfl) (show _=(Iv 0:Value)from rfl) ?_))))))
 have dg:Sep G W ((ViewO vb d V V)::(DepO C (((yP L c.ckey).getD default).deps))::Rs) ec:=bn.sel 6 [5,1] (Nat.le_add_left _ _) rfl rfl
 rw[show exR d n L V o start c=(((yP L c.ckey).getD default),false,0)from VH hzc hzk]
 refine⟨C,rfl,dg⟩
 have X:=zy X
 have hzc: ¬xj d c=0:=by simpa using X
 refine zh rfl (za (yx (by kernel_rfl) (fun _=>(st (zP (parts':=[]) (v:=.agg (ev0.cells (Iz)).toArray) rfl (by simp+zetaDelta [Instr.build,Instr.fill,go_sem,Ev.cells,ev0]) (st (mV (Iv (xj d c)) (stn (zq (v:=.agg (ev0.cells (Iz)).toArray) (c':=(ev0.cells (Iz)).toArray) kT rfl rfl (ak.b0) (ye ⟨rfl,rfl,rfl,rfl,rfl,rfl,rfl,rfl,rfl,rfl,trivial⟩) yqc rfl ?_)))))))))
 intro bE dh
 have bp:=ak.pt0 dh
 refine st (aS (.bool false) (st (aS (Iv (xj d c)) (zd (zj (VG (b:=F) wT oT kT rfl rfl (CellsAt.all (bp.b0)) (show _=(.bool false:Value)from rfl) (show _=(Iv (xj d c):Value)from rfl) ?_))))))
 have di:Sep G W ((DepO (Iz) [])::ew::eo::el::(ViewO vb d V V)::Rs) bE:=bp.depoNil
 have dj:Sep G W ((ViewO vb d V V)::(DepO (Iz) [])::Rs) bE:=di.sel 5 [4,0] (Nat.le_add_left _ _) rfl rfl
 rw[show exR d n L V o start c=(ev0,false,xj d c)from Qq hzc]
 refine⟨(Iz),rfl,dj⟩
end
section
set_option maxRecDepth 8000
set_option maxHeartbeats 4000000
open Go.Proofs Go.RowKit
section
variable {n:Nat}{L l:List Ev}{e:Ev}{k:Nat}
theorem QJ (hk:k<l.length):addL n (xi n (l.take k)) (l.getD k default)=xi n (l.take (k+1)):=by
 rw[List.take_succ_eq_append_getElem hk,Uk,zF _ hk]
theorem QN:(xi n (l.take k)).length≤l.length:=Nat.le_trans ZU (List.length_take_le' ..)
theorem Ue {L:List Ev}(h: ∀e∈L,e.Ok):0≤zS L∧zS L≤9223372036854775807:=by
 induction L with
 |nil=>exact⟨by decide,by decide⟩
 |cons e L ih=>
  have h1:=ih (fun x hx=>h x (List.mem_cons_of_mem _ hx))
  have h2:=(h e (List.mem_cons_self ..)).lam
  show 0≤max (zS L) e.lam∧max (zS L) e.lam≤_
  omega
end
theorem Qh {G:Nat→Prop}{W w:World}{Rs:List HP}{d:Dcl}{dd0:Value}(hdd0:RdS W G dd0 d.types){dd1:Value}(hdd1:RdS W G dd1 d.projs)(od:d.Ok){n:Nat}(hn:n≤1000){vl:Value}{l:List Ev}(hl:RdS W G vl l)(hKN:RdS W G (.slice (some ⟨0,0,none⟩) 6 6) kindsL)(hS0:Sep G W Rs w)(hd:DclOk d)(hl9:l.length≤1000):Ret Tryz.prog 10 [.agg (d.cells dd0 dd1).toArray,.int .i64 ((n:Nat):Int),vl] w (fun r w'=> ∃(bs:Nat) (bv:Nat),r=(.tuple #[.pointer (some ⟨bs,0,none⟩),.pointer (some ⟨bv,0,none⟩)]:Value)∧Sep G W ((SetO bs n (xi n l))::(ViewO bv d (zw d (xi n l)) (zw d (xi n l)))::Rs) w'):=by
 have hdd0s:_*24≤_:=hdd0.small
 have hdd1s:_*40≤_:=hdd1.small
 have hls:_*96≤_:=hl.small
 have hKNs:_*8≤_:=hKN.small
 refine zi (args:=[.agg (d.cells dd0 dd1).toArray,Iw n,vl]) Tryz.func10 rfl rfl ?_
 refine za (R0 fun _=>st (zN (v:=.agg (d.cells dd0 dd1).toArray) rfl ?_))
 intro w3 b2 aA
 refine st (aS (.pointer none) (st (aS (.pointer none) (zd (za (R0 fun _=>st (mV (Iw n) ?_)))))))
 refine st (cL Tryz.call25 (Qu (n:=n) yqe (hS0.new aA)) ?_)
 rintro _ w6 ⟨j,rfl,aB⟩
 refine st (aS (Ix j 0) (zd (za (za (R0 fun _=>st (mV (Ix j 0) (st (Zj (b:=j) (o:=0) kY rfl (zd (zg rfl (zl (za (za (R0 fun _=>st (aS (Iv 0) (zd (zx (yq (fun mq σ y=> ∃(k:Nat) (ρ:Env),mq=l.length-k∧σ=yi ρ [(1,Iw n),(2,vl),(3,Ix b2 0),(6,.pointer none),(7,.pointer none),(8,Ix j 0),(9,Iw k)]∧(k≤l.length)∧Sep G W ((SetO j n (xi n (l.take k)))::(Blk b2 (d.cells dd0 dd1).toArray 25)::Rs) y) ⟨0,_,rfl,sSf,Nat.zero_le _,aB⟩ ?_))))))))))))))))))
 rintro m9 σ10 S ⟨k,ρl1,rfl,rfl,hkk,q⟩
 refine za (za (R0 fun _=>st (mV (Iw k) (st (mV vl (st (zR (n:=l.length) lY rfl hl.sl (st (zJ (k:=.i64) (a:=((k:Nat):Int)) (b:=((l.length:Nat):Int)) rfl rfl (zd ?_))))))))))
 cases s:decide (((k:Nat):Int)<((l.length:Nat):Int))
 have s:=fD s
 refine zg rfl (yr (yg (za ?_)))
 have aC:k=l.length:=by omega
 rw[aC,List.take_length]at q
 have af:Sep G W ((SetO j n (xi n l))::(Blk b2 (d.cells dd0 dd1).toArray 25)::Rs) S:=q
 obtain⟨L,M,z,ag,ah⟩:=af.lend
 obtain⟨vv20,m21,R22,hb23,ai,hr25⟩:=SetO.sh M
 have hsm26:(zr n (xi n l)).length*8≤140737488355328:=ai.small
 refine WD4 ((fun N=>WF [fun vals y=>Sep L S (N::Rs) y,fun vals y=> ∃(g:Value),(vals 3=(g:Value))∧Sep L S ((RowE (α:=Ev) own 41 g (xi n l))::N::Rs) y,fun vals y=> ∃(g:Value) (c:Nat),(vals 3=(g:Value))∧(vals 4=(Ix c 0:Value))∧Sep L S ((RowE (α:=Ev) own 41 g (xi n l))::(ViewO c d (zw d (xi n l)) (zw d (xi n l)))::N::Rs) y]) (Blk b2 (d.cells dd0 dd1).toArray 25)) (AF [Vl 0 (Ix j 0),Vl 1 (.agg (d.cells dd0 dd1).toArray),Vl 2 (Ix j 0),fun _=>True,fun _=>True,Vl 5 (Ix j 0),fun vals=> ∀(c:Nat),vals 4=(Ix c 0:Value)→vals 6=(Ix c 0:Value)]) [[],[],[],[2],[1,2,3],(rg 5),(rg 6)] [3,4] [(0,2),(0,1),(0,0),(0,0),(1,1),(2,2),(2,2)] ag ⟨fun _ _ _ _ _ _ _=>obl rfl (mV (Ix j 0) dR),?_,fun _ _ _ _ _ _ _=>obl rfl (mV (Ix j 0) dR),?_,?_,fun _ _ _ _ _ _ T=>obl rfl (ya (v:=Ix j 0) (T 0 dc) dR),?_,trivial⟩ ?_ (hlocA:=xb ⟨dA,dA,dA,dT,dT,dA,fun vals t x h=>fun c B=>(x 6 (.inl rfl)).trans (h c ((x 4 (.inr dc)).symm.trans B)),trivial⟩)
 refine fun C _ _ aj ak D _=>?_
 have hkk:=xA aj ak
 rcases hkk with rfl|rfl
 have U:Sep _ _ _ _:=D
 exact obl rfl (zf (k:=2) kR uT rfl rfl (CellsAt.all (U.b0)) dR)
 obtain⟨g,m,V⟩:=D
 exact obl rfl (zf (k:=2) kR uT rfl rfl (CellsAt.all (V.b1)) dR)
 refine ob1 0 fun vals _ (al:Sep _ _ _ _) am=>(obl rfl ((zG (f:=15) (vals:=[Ix j 0]) (cap:=[]) rfl (yK ⟨(am 2 dc),trivial⟩) Tryz.call15 (Jv M al (laidL_good.ids) (laidL_good.srt) ((Nat.le_trans ZU om))) ?_)))
 rintro g w55 ⟨_,rfl,O⟩
 have an:=O.r0
 have hr57s:_*96≤_:=an.2
 exact fun t x E=>⟨(exiA g (zv x O)),trivial⟩
 refine ob1 1 fun vals _ ao ap=>?_
 obtain⟨g,m,aq⟩:=ao
 refine obl rfl ?_
 obtain⟨G67,ar,A,au,av⟩:=aq.lend
 have F:=RowE.rd ar
 have hrd73s:_*96≤_:=F.small
 refine(zG (f:=26) (vals:=[.agg (d.cells dd0 dd1).toArray,g]) (cap:=[]) rfl (yK ⟨(ap 1 dc),m,trivial⟩) Tryz.call26 (D_All (d:=d) (l:=(xi n l)) (vl:=g) (RdS.base (RdS.base hdd0 z) A) (RdS.base (RdS.base hdd1 z) A) od F (RdS.base (RdS.base hKN z) A) au (hd) ((Nat.le_trans ZU om))) ?_)
 rintro _ w75 ⟨c,rfl,aw⟩
 have ax:=av _ _ aw
 exact fun t x E=>⟨(exiA g (exiA c (zv ((E 3 dc).trans m) (zv x ax)))),trivial⟩
 refine ob1 2 fun _ _ X _=>?_
 obtain⟨g,c,m,u,hS126⟩:=X
 refine obl rfl (ya (v:=Ix c 0) u (fun t x E=>⟨rfl,?_⟩))
 intro b74q B
 rw[E 4 (by decide)]at B;cases u.symm.trans B
 exact x
 intro vals w127 Y H
 obtain⟨g,c,m,u,Z⟩:=Y
 have ay:=H 5 dc
 have az:vals 6=(Ix c 0:Value):=H 6 dc c u
 refine zZ (kv:=[(1,Iw n),(2,vl),(3,Ix b2 0),(6,Ix j 0),(7,Ix c 0),(8,Ix j 0),(9,Iw k),(14,Iw k),(15,vl),(16,Iw l.length),(17,.bool false)]) ⟨rfl,rfl,rfl,(by exact ay),(by exact az),rfl,rfl,rfl,rfl,rfl,rfl,trivial⟩ (fun ρw127=>(zd (zj (zaE Tryz.results10 (show _=(Ix j 0:Value)from rfl) (show _=(Ix c 0:Value)from rfl) ?_))))
 have aa:=ah _ _ Z
 refine⟨j,c,rfl,(aa.s4_ac)⟩
 have s:=tD s
 refine zh rfl (zl (za (zx (R0 fun _=>st (mV (Ix j 0) (st (mV vl (st (mV (Iw k) ?_)))))))))
 have ab:k<l.length:=bo
 refine st (zm (k:=10) (i:=k) lY kT rfl hl.sl rfl ab ?_)
 have I:k<l.length:=bo
 obtain⟨P,p,K⟩:=hl.evD I
 have hsm138:((l.getD k default).deps).length*8≤140737488355328:=p.small
 have Q:=q.cells P (hl.foot (ne_of_lt I))
 refine st (zf (k:=10) oT kT rfl rfl Q (st (cL Tryz.call14 (Jc (e:=(l.getD k default)) p K q ((Nat.le_trans QN om)) (laidL_good.len)) ?_)))
 rintro _ w142 ⟨ac,rfl,R,J⟩
 refine zd (R0 fun _=>st (mV (Iw k) ?_))
 have ad:InR ((k+1:Nat):Int):=bo
 refine st (yb (r:=((k+1:Nat):Int)) (k:=.i64) (a:=((k:Nat):Int)) (b:=1) rfl rfl (by rw[show(((k:Nat):Int)+1:Int)=((k+1:Nat):Int)from bo];exact zM ad) (st (aS (Iw (k+1)) (zd ?_))))
 have ae:(xi n (l.take (k+1)))=ac:=(by rw[R];exact(QJ (by omega)).symm)
 rw[←ae]at J
 exact⟨_,by omega,k+1,_,rfl,sSf,by omega,J⟩
end
section
set_option maxRecDepth 8000
set_option maxHeartbeats 4000000
open Go.Proofs Go.RowKit
theorem yqf {p:Prop}(h:p:=by decide+kernel):p:=h
theorem Jt {d:Dcl}{n:Nat}{L:List Ev}{V:List Ent}{o start:Int}{c:Cmd}(oc:c.Ok)(ho:InR o)(hs:InR start)(hL: ∀e∈L,e.Ok)(hl:L.length≤1000000):(exR d n L V o start c).1.Ok:=by
 by_cases h:xj d c=0
 ·cases hk:(yP L c.ckey).isSome with
  |true=>rw[VH h hk];exact zah hL hk
  |false=>
   by_cases hx:xC c ((yd (c.ctyp,c.cagg) V:Nat):Int)=0
   ·by_cases hm:yX (xN d c.ctyp) (zQ d (c.ctyp,c.cagg) V) c.cfield c.cop c.carg=0
    ·rw[Qs h hk hx hm]
     have h9:=Vq (n:=n) (L:=L) o
     have h8:=Ue hL
     exact zbl oc ho (by omega) (by omega)
    ·rw[Qa h hk hx hm];exact WS
   ·rw[Ql h hk hx];exact WS
 ·rw[Qq h];exact WS
def dF:Dcl:=⟨[⟨[⟨1,1,true,[]⟩]⟩],[]⟩
theorem Xu:DclOk dF:=by
 have one: ∀{P:Nat→Prop},P 0→ ∀i,i<1→P i:=fun{P} h i hi=>(show i=0 by omega)▸h
 refine⟨Nat.le_refl 1,(by show 1≤8;decide),one (P:=fun i=>TypOk (dF.types.getD i default)) ?_⟩
 refine⟨Nat.le_refl 1,(by show 1≤8;decide),?_,?_,?_,?_⟩
 ·intro i hi;obtain rfl:i=0:=by have:i<1:=hi;omega
  exact⟨(by decide:(1:Int)≤1),(by decide:(1:Int)≤4)⟩
 ·intro i hi h;obtain rfl:i=0:=by have:i<1:=hi;omega
  rfl
 ·intro i hi;obtain rfl:i=0:=by have:i<1:=hi;omega
  exact⟨fun h=>absurd h (by show ¬(1:Int)=4;decide),Nat.zero_le _⟩
 ·intro i hi j hj;obtain rfl:i=0:=by have:i<1:=hi;omega
  exact absurd hj (Nat.not_lt_zero j)
theorem xq {G:Nat→Prop}{W w:World}{Rs:List HP}(hS0:Sep G W Rs w):Ret Tryz.prog 23 [] w (fun r w'=> ∃(bt:Nat) (bf:Nat),r=(.agg #[(.slice (some ⟨bt,0,none⟩) 1 1),.slice none 0 0]:Value)∧Sep G W ((Blk bt #[(.slice (some ⟨bf,0,none⟩) 1 1)] 53)::(Blk bf #[.int .i64 (1),.int .i64 (1),.bool true,.slice none 0 0] 110)::Rs) w'):=by
 refine zi (args:=[]) Tryz.func23 rfl rfl ?_
 refine za (R0 fun _=>st (zt Tryz.zeroValue25 ?_))
 intro w3 b2 h
 refine zd (za (yx (by kernel_rfl) (fun _=>(st (zP (parts':=[(0,Iv 1),(1,Iv 1),(2,.bool true)]) (v:=.agg #[Iv 1,Iv 1,.bool true,(Iz)]) rfl (by simp+zetaDelta [Instr.build,Instr.fill,Ev.cells,go_sem,Mv.cells,Fld.cells,Typ.cells,Prj.cells,Dcl.cells,Cel.cells,AskR.cells,CelS.cells,Ev.cells,Ent.cells,Sta.cells,Cmd.cells]) (st (zY (k:=4) (parts':=[(0,.agg #[Iv 1,Iv 1,.bool true,(Iz)])]) (c:=#[Iv 1,Iv 1,.bool true,(Iz)]) Tryz.underlying51 Tryz.sizeOf110 Tryz.zeroValue110 (by decide) rfl (by kernel_rfl) ?_)))))))
 intro w7 d i
 refine st (zP (parts':=[(0,(Iy d 1 1))]) (v:=.agg #[(Iy d 1 1)]) rfl (by simp+zetaDelta [Instr.build,Instr.fill,Ev.cells,go_sem,Mv.cells,Fld.cells,Typ.cells,Prj.cells,Dcl.cells,Cel.cells,AskR.cells,CelS.cells,Ev.cells,Ent.cells,Sta.cells,Cmd.cells]) (st (zY (k:=1) (parts':=[(0,.agg #[(Iy d 1 1)])]) (c:=#[(Iy d 1 1)]) qR vT sR (by decide) rfl (by kernel_rfl) ?_)))
 intro w11 a j
 have e:=((hS0.new h).new i).new j
 refine st (zP (parts':=[(0,(Iy a 1 1))]) (v:=.agg #[(Iy a 1 1),(Iz)]) rfl (by simp+zetaDelta [Instr.build,Instr.fill,Ev.cells,go_sem,Mv.cells,Fld.cells,Typ.cells,Prj.cells,Dcl.cells,Cel.cells,AskR.cells,CelS.cells,Ev.cells,Ent.cells,Sta.cells,Cmd.cells]) (stn (zq (v:=.agg #[(Iy a 1 1),(Iz)]) (c':=#[(Iy a 1 1),(Iz)]) uT rfl rfl (e.b2) (ye ⟨rfl,rfl,trivial⟩) yqc rfl ?_)))
 intro w13 g
 have f:=e.pt2 g
 refine zd (zj (QX (b:=b2) Tryz.results23 kR uT rfl rfl (CellsAt.all (f.b2)) ?_))
 refine⟨a,d,rfl,(f.s3_ab)⟩
abbrev zD:=exR dF 2 ([]:List Ev) ([]:List Ent) 1 10 (⟨0,0,0,1,3,0,7⟩:Cmd)
abbrev zL:=exR dF 2 ([]:List Ev) ([]:List Ent) 1 10 (⟨0,0,0,1,3,1,7⟩:Cmd)
abbrev zO:=exR dF 2 ([]:List Ev) ([]:List Ent) 1 10 (⟨0,0,0,1, -1, -1,7⟩:Cmd)
abbrev kX154:=(⟨0,0,0,1,3,0,7⟩:Cmd)
abbrev kX155:=(⟨0,0,0,1,3,1,7⟩:Cmd)
abbrev kX156:=(⟨0,0,0,1, -1, -1,7⟩:Cmd)
set_option maxHeartbeats 8000000 in
set_option maxRecDepth 20000 in
theorem Ya {G:Nat→Prop}{W w:World}{Rs:List HP}(hKN:RdS W G (.slice (some ⟨0,0,none⟩) 6 6) kindsL)(hS0:Sep G W Rs w):Ret Tryz.prog 7 [] w (fun r w'=>r=(.bool true:Value)∧Sep G W Rs w'):=by
 have hKNs:_*8≤_:=hKN.small
 refine zi (args:=[]) Tryz.func7 rfl rfl ?_
 refine za (R0 fun _=>st (aS (.bool false) (zd (za (R0 fun _=>st (cL qT (xq hS0) ?_))))))
 rintro _ w3 ⟨bJ,ao,rfl,iL⟩
 have hD:Sep _ _ ((RowE (α:=Fld) (shr G W) 110 (Iy ao 1 1) [(⟨1,1,true,[]⟩:Fld)])::_) _:=Sep.blkRow (src:=(shr G W)) (l:=[(⟨1,1,true,[]⟩:Fld)]) (css:=[(⟨1,1,true,[]⟩:Fld).cells (Iz)]) (iL.mv1) rfl ⟨fun _ _=>⟨_,rfl,(RdS.nil _ _),(show Fld.Ok (⟨1,1,true,[]⟩:Fld)from⟨by decide,by decide⟩)⟩,trivial⟩ yqa (show 1≤maxLen by decide)
 have iM:=hD.r0
 have hr7s:_*48≤_:=iM.2
 obtain⟨G8,hF,cR,hG,hH⟩:=hD.lend
 have bK:=RowE.rdB hF cR
 have hrd14s:_*48≤_:=bK.small
 have cS:Sep G8 w3 ((RowE (α:=Typ) (shr G8 w3) 53 (Iy bJ 1 1) [(⟨[(⟨1,1,true,[]⟩:Fld)]⟩:Typ)])::Rs) w3:=Sep.blkRow (src:=(shr G8 w3)) (l:=[(⟨[(⟨1,1,true,[]⟩:Fld)]⟩:Typ)]) (css:=[(⟨[(⟨1,1,true,[]⟩:Fld)]⟩:Typ).cells (Iy ao 1 1)]) hG rfl ⟨fun _ _=>⟨_,rfl,bK,(show Typ.Ok (⟨[(⟨1,1,true,[]⟩:Fld)]⟩:Typ)from⟨⟩)⟩,trivial⟩ yqa (show 1≤maxLen by decide)
 have hI:=cS.r0
 have hr16s:_*24≤_:=hI.2
 obtain⟨G17,hJ,cT,hK,hL⟩:=cS.lend
 have bL:=RowE.rdB hJ cT
 have hrd23s:_*24≤_:=bL.small
 refine st (cL Tryz.call10 (Qh (d:=dF) (n:=2) (l:=([]:List Ev)) (vl:=(Iz)) bL (RdS.nil _ _) (⟨⟩:Dcl.Ok dF) yqe (RdS.nil _ _) (RdS.base (RdS.base hKN cR) cT) hK (Xu) ((Nat.zero_le _))) ?_)
 rintro _ iN ⟨A,B,rfl,hM⟩
 let iT:=(ViewO B dF ([]:List Ent) ([]:List Ent))
 have hN:=hL _ _ hM
 have hO:=hH _ _ hN
 refine st (mV (.tuple #[Ix A 0,Ix B 0]) (st (zk (vs:=[Ix A 0,Ix B 0]) (i:=0) (v:=Ix A 0) rfl rfl (st (zk (vs:=[Ix A 0,Ix B 0]) (i:=1) (v:=Ix B 0) rfl rfl (st (aS (Ix A 0) (st (aS (Ix B 0) (zd (za (za ?_))))))))))))
 have hP:Sep G W ((RowE (α:=Fld) (shr G W) 110 (Iy ao 1 1) [(⟨1,1,true,[]⟩:Fld)])::(SetO A 2 ([]:List Ev))::iT::Rs) iN:=(hO.s4_acd)
 refine zz kr (st (mV (Ix A 0) (st (Zj (b:=A) (o:=0) kY rfl (st (mV (.bool false) (sty rfl rfl (mV (Ix B 0) (sty rfl rfl (Zj (b:=B) (o:=0) Tryz.underlying34 rfl (st (zU (v:=.bool false) rfl rfl (zd (zg rfl (zl (za (R0 fun _=>?_)))))))))))))))))
 have cU:Cmd.Ok kX154:=⟨(show InR (0)from dc),(show InR (0)from dc),(show InR (0)from dc),(show InR (1)from dc),(show InR (3)from dc),(show InR (0)from dc),(show InR (7)from dc)⟩
 refine st (zP (parts':=[(3,Iv 1),(4,Iv 3),(6,Iv 7)]) (v:=.agg (kX154.cells).toArray) rfl (by simp+zetaDelta [Instr.build,Instr.fill,Ev.cells,go_sem,Mv.cells,Fld.cells,Typ.cells,Prj.cells,Dcl.cells,Cel.cells,AskR.cells,CelS.cells,Ev.cells,Ent.cells,Sta.cells,Cmd.cells]) (st (zt Tryz.zeroValue28 ?_)))
 intro w35 Z hQ
 have cV:=hP.new hQ
 refine stn (zq (v:=.agg (kX154.cells).toArray) (c':=(kX154.cells).toArray) lT rfl rfl (cV.b0) (ye ⟨rfl,rfl,rfl,rfl,rfl,rfl,rfl,trivial⟩) yqc rfl ?_)
 intro w37 hR
 refine zd (za ?_)
 refine WD6 ((fun R S T U=>WF [fun vals O=>Sep G W (R::S::T::U::Rs) O,fun vals O=> ∃(z:Nat) (x:Nat),(vals 0=(.agg #[(Iy z 1 1),Iz]:Value))∧Sep G W ((Blk z #[(Iy x 1 1)] 53)::(Blk x #[Iv 1,Iv 1,.bool true,Iz] 110)::R::S::T::U::Rs) O,fun _ _=>True,fun vals O=> ∃(z:Nat) (x:Nat) (e:Value),(vals 0=(.agg #[(Iy z 1 1),Iz]:Value))∧(vals 4=(.tuple #[.agg (zD.1.cells e).toArray,.bool (zD.2.1),Iv (zD.2.2)]:Value))∧Sep G W ((RowE (α:=Fld) (shr G W) 110 (Iy x 1 1) [(⟨1,1,true,[]⟩:Fld)])::T::U::(DepO e (zD.1.deps))::R::S::Rs) O,fun vals O=> ∃(C:Nat),(vals 9=(Ix C 0:Value))∧Sep G W ((Blk C #[Iv 0,Iv 0,Iv 0,(Iz),Iv 0,Iv 0,Iv 0,Iv 0,Iv 0,Iv 0] 41)::R::S::T::U::Rs) O,fun vals O=> ∃(z:Nat) (x:Nat) (C:Nat),(vals 0=(.agg #[(Iy z 1 1),Iz]:Value))∧(vals 9=(Ix C 0:Value))∧Sep G W ((Blk z #[(Iy x 1 1)] 53)::(Blk x #[Iv 1,Iv 1,.bool true,Iz] 110)::(Blk C #[Iv 0,Iv 0,Iv 0,(Iz),Iv 0,Iv 0,Iv 0,Iv 0,Iv 0,Iv 0] 41)::R::S::T::U::Rs) O,fun _ _=>True,fun vals O=> ∃(z:Nat) (x:Nat) (e:Value) (C:Nat),(vals 0=(.agg #[(Iy z 1 1),Iz]:Value))∧(vals 4=(.tuple #[.agg (zD.1.cells e).toArray,.bool (zD.2.1),Iv (zD.2.2)]:Value))∧(vals 9=(Ix C 0:Value))∧Sep G W ((Blk C #[Iv 0,Iv 0,Iv 0,(Iz),Iv 0,Iv 0,Iv 0,Iv 0,Iv 0,Iv 0] 41)::(RowE (α:=Fld) (shr G W) 110 (Iy x 1 1) [(⟨1,1,true,[]⟩:Fld)])::T::U::(DepO e (zD.1.deps))::R::S::Rs) O,fun _ _=>True,fun _ _=>True,fun _ _=>True,fun _ _=>True,fun _ _=>True,fun _ _=>True,fun _ _=>True,fun vals O=> ∃(z:Nat) (x:Nat) (e:Value) (C:Nat),(vals 0=(.agg #[(Iy z 1 1),Iz]:Value))∧(vals 4=(.tuple #[.agg (zD.1.cells e).toArray,.bool (zD.2.1),Iv (zD.2.2)]:Value))∧(vals 9=(Ix C 0:Value))∧Sep G W ((Blk C (zD.1.cells e).toArray 41)::(RowE (α:=Fld) (shr G W) 110 (Iy x 1 1) [(⟨1,1,true,[]⟩:Fld)])::T::U::(DepO e (zD.1.deps))::R::S::Rs) O]) (Blk Z (kX154.cells).toArray 28) (RowE (α:=Fld) (shr G W) 110 (Iy ao 1 1) [(⟨1,1,true,[]⟩:Fld)]) (SetO A 2 ([]:List Ev)) iT) (AF [fun _=>True,Vl 1 (Ix A 0),Vl 2 (Ix B 0),Vl 3 (.agg (kX154.cells).toArray),fun _=>True,fun vals=> ∀(e:Value),vals 4=(.tuple #[.agg (zD.1.cells e).toArray,.bool (zD.2.1),Iv (zD.2.2)]:Value)→vals 5=(.tuple #[.agg (zD.1.cells e).toArray,.bool (zD.2.1),Iv (zD.2.2)]:Value),fun vals=> ∀(e:Value),vals 4=(.tuple #[.agg (zD.1.cells e).toArray,.bool (zD.2.1),Iv (zD.2.2)]:Value)→vals 6=(.agg (zD.1.cells e).toArray:Value),Vl 7 (.bool (zD.2.1)),Vl 8 (Iv (zD.2.2)),fun _=>True,fun _=>True,Vl 11 (.bool (zD.2.1)),Vl 12 (Iv (zD.2.2))]) [[],[],[],[],(rg 4),(rg 5),(rg 6),(rg 6),(rg 6),[],[0,1,2,3,4,5,6,9],[0,1,2,3,4,5,6,7,9,10],(rg 12)] [0,4,9,10] [[0,4],[0,1,4,5],[0,1,4,5],[0,1,4,5],[1,5],[3,7],[3,7],[3,7,15],[3,7,15],[0,1,3],[7],[15],[15]] (cV.pt0 hR) ⟨?_,fun _ _ _ _ _ _=>obl rfl (mV (Ix A 0) dR),fun _ _ _ _ _ _=>obl rfl (mV (Ix B 0) dR),?_,?_,?_,?_,?_,?_,?_,?_,fun _ _ _ _ _ ei=>obl rfl (ya (v:=.bool (zD.2.1)) (ei 7 dc) dR),fun _ _ _ _ _ ej=>obl rfl (ya (v:=Iv (zD.2.2)) (ej 8 dc) dR),trivial⟩ ?_ (hlocA:=xb ⟨dT,dA,dA,dA,dT,fun vals u y h=>fun e H=>(y 5 (.inl rfl)).trans (h e ((y 4 (.inr dc)).symm.trans H)),fun vals u y h=>fun e H=>(y 6 (.inl rfl)).trans (h e ((y 4 (.inr dc)).symm.trans H)),dA,dA,dT,dT,dA,dA,trivial⟩)
 intro hS vals w184 ek bM hA185
 have aP:hS∈[0,4]:=ek
 simp only[yB]at aP
 rcases aP with rfl|rfl
 have el:Sep _ _ _ _:=bM
 refine obl rfl ((cL qT (xq el) ?_))
 rintro _ w191 ⟨z,x,rfl,em⟩
 exact fun u y m=>⟨(exiA z (exiA x (zv y em))),trivial⟩
 obtain⟨C,N,en⟩:=bM
 refine obl rfl ((cL qT (xq en) ?_))
 rintro _ w196 ⟨z,x,rfl,eo⟩
 exact fun u y m=>⟨(exiA z (exiA x (exiA C (zv y (zv ((m 9 dc).trans N) eo))))),trivial⟩
 intro hT vals w209 er ab hA210
 have aQ:hT∈[0,1,4,5]:=er
 simp only[yB]at aQ
 rcases aQ with rfl|rfl|rfl|rfl
 have es:Sep _ _ _ _:=ab
 exact obl rfl (zf (k:=7) mT lT rfl rfl (CellsAt.all (es.b0)) dR)
 obtain⟨z,x,M,et⟩:=ab
 exact obl rfl (zf (k:=7) mT lT rfl rfl (CellsAt.all (et.b2)) dR)
 obtain⟨C,N,eu⟩:=ab
 exact obl rfl (zf (k:=7) mT lT rfl rfl (CellsAt.all (eu.b1)) dR)
 obtain⟨z,x,C,M,N,ew⟩:=ab
 exact obl rfl (zf (k:=7) mT lT rfl rfl (CellsAt.all (ew.b3)) dR)
 intro hU vals aA ex bN V
 have aR:hU∈[1,5]:=ex
 simp only[yB]at aR
 rcases aR with rfl|rfl
 obtain⟨z,x,M,ey⟩:=bN
 refine obl rfl ?_
 have bO:Sep _ _ ((RowE (α:=Fld) (shr G W) 110 (Iy x 1 1) [(⟨1,1,true,[]⟩:Fld)])::_) _:=Sep.blkRow (src:=(shr G W)) (l:=[(⟨1,1,true,[]⟩:Fld)]) (css:=[(⟨1,1,true,[]⟩:Fld).cells (Iz)]) (ey.mv1) rfl ⟨fun _ _=>⟨_,rfl,(RdS.nil _ _),(show Fld.Ok (⟨1,1,true,[]⟩:Fld)from⟨by decide,by decide⟩)⟩,trivial⟩ yqa (show 1≤maxLen by decide)
 have ez:=bO.r0
 have hr228s:_*48≤_:=ez.2
 obtain⟨cW,eA,bP,eB,eC⟩:=bO.lend
 have aT:=RowE.rdB eA bP
 have hrd235s:_*48≤_:=aT.small
 have bQ:Sep _ _ ((RowE (α:=Typ) (shr cW aA) 53 (Iy z 1 1) [(⟨[(⟨1,1,true,[]⟩:Fld)]⟩:Typ)])::_) _:=Sep.blkRow (src:=(shr cW aA)) (l:=[(⟨[(⟨1,1,true,[]⟩:Fld)]⟩:Typ)]) (css:=[(⟨[(⟨1,1,true,[]⟩:Fld)]⟩:Typ).cells (Iy x 1 1)]) eB rfl ⟨fun _ _=>⟨_,rfl,aT,(show Typ.Ok (⟨[(⟨1,1,true,[]⟩:Fld)]⟩:Typ)from⟨⟩)⟩,trivial⟩ yqa (show 1≤maxLen by decide)
 have eD:=bQ.r0
 have hr237s:_*24≤_:=eD.2
 obtain⟨G238,eE,bR,eF,eG⟩:=bQ.lend
 have aU:=RowE.rdB eE bR
 have hrd244s:_*24≤_:=aU.small
 obtain⟨G246,bS,bT,eH,eI⟩:=(eF.mv2).lend
 obtain⟨vv252,m253,R254,hb255,eJ,hr257⟩:=SetO.sh bS
 have hsm258:(zr 2 ([]:List Ev)).length*8≤140737488355328:=eJ.small
 refine(zG (f:=11) (vals:=[.agg (dF.cells (Iy z 1 1) (Iz)).toArray,Ix A 0,Ix B 0,Iv 1,Iv 10,.agg (kX154.cells).toArray]) (cap:=[]) rfl (yK ⟨M,(V 1 dc),(V 2 dc),rfl,rfl,(V 3 dc),trivial⟩) tT (ZN (d:=dF) (o:=1) (start:=10) (c:=kX154) (RdS.base aU bT) (RdS.nil _ _) (⟨⟩:Dcl.Ok dF) bS dc dc cU (RdS.base (RdS.base (RdS.base hKN bP) bR) bT) (eH.mv2) (Xu) ((Inv.nil dF)) ((Nat.zero_le _)) (List.Pairwise.nil) ((Good.nil (n:=2)).srt) ((Nat.zero_le _)) (dc)) ?_)
 rintro _ w261 ⟨e,rfl,eK⟩
 have eL:=eI _ _ eK
 have eM:=eG _ _ eL
 have eN:=eC _ _ eM
 exact fun u y m=>⟨(exiA z (exiA x (exiA e (zv ((m 0 dc).trans M) (zv y (eN.s7_acdefg)))))),trivial⟩
 obtain⟨z,x,C,M,N,eO⟩:=bN
 refine obl rfl ?_
 have bU:Sep _ _ ((RowE (α:=Fld) (shr G W) 110 (Iy x 1 1) [(⟨1,1,true,[]⟩:Fld)])::_) _:=Sep.blkRow (src:=(shr G W)) (l:=[(⟨1,1,true,[]⟩:Fld)]) (css:=[(⟨1,1,true,[]⟩:Fld).cells (Iz)]) (eO.mv1) rfl ⟨fun _ _=>⟨_,rfl,(RdS.nil _ _),(show Fld.Ok (⟨1,1,true,[]⟩:Fld)from⟨by decide,by decide⟩)⟩,trivial⟩ yqa (show 1≤maxLen by decide)
 have eP:=bU.r0
 have hr273s:_*48≤_:=eP.2
 obtain⟨cX,eQ,bV,eR,eS⟩:=bU.lend
 have aV:=RowE.rdB eQ bV
 have hrd280s:_*48≤_:=aV.small
 have bW:Sep _ _ ((RowE (α:=Typ) (shr cX aA) 53 (Iy z 1 1) [(⟨[(⟨1,1,true,[]⟩:Fld)]⟩:Typ)])::_) _:=Sep.blkRow (src:=(shr cX aA)) (l:=[(⟨[(⟨1,1,true,[]⟩:Fld)]⟩:Typ)]) (css:=[(⟨[(⟨1,1,true,[]⟩:Fld)]⟩:Typ).cells (Iy x 1 1)]) eR rfl ⟨fun _ _=>⟨_,rfl,aV,(show Typ.Ok (⟨[(⟨1,1,true,[]⟩:Fld)]⟩:Typ)from⟨⟩)⟩,trivial⟩ yqa (show 1≤maxLen by decide)
 have eT:=bW.r0
 have hr282s:_*24≤_:=eT.2
 obtain⟨G283,eU,bX,eV,eW⟩:=bW.lend
 have aW:=RowE.rdB eU bX
 have hrd289s:_*24≤_:=aW.small
 obtain⟨G291,bY,bZ,eX,eY⟩:=(eV.mv3).lend
 obtain⟨vv297,m298,R299,hb300,eZ,hr302⟩:=SetO.sh bY
 have hsm303:(zr 2 ([]:List Ev)).length*8≤140737488355328:=eZ.small
 refine(zG (f:=11) (vals:=[.agg (dF.cells (Iy z 1 1) (Iz)).toArray,Ix A 0,Ix B 0,Iv 1,Iv 10,.agg (kX154.cells).toArray]) (cap:=[]) rfl (yK ⟨M,(V 1 dc),(V 2 dc),rfl,rfl,(V 3 dc),trivial⟩) tT (ZN (d:=dF) (o:=1) (start:=10) (c:=kX154) (RdS.base aW bZ) (RdS.nil _ _) (⟨⟩:Dcl.Ok dF) bY dc dc cU (RdS.base (RdS.base (RdS.base hKN bV) bX) bZ) (eX.mv3) (Xu) ((Inv.nil dF)) ((Nat.zero_le _)) (List.Pairwise.nil) ((Good.nil (n:=2)).srt) ((Nat.zero_le _)) (dc)) ?_)
 rintro _ w306 ⟨e,rfl,fa⟩
 have fb:=eY _ _ fa
 have fc:=eW _ _ fb
 have fd:=eS _ _ fc
 exact fun u y m=>⟨(exiA z (exiA x (exiA e (exiA C (zv ((m 0 dc).trans M) (zv y (zv ((m 9 dc).trans N) ((fd.s8_acdefgh).mv4)))))))),trivial⟩
 intro hV vals w314 fe ca hA315
 have aX:hV∈[3,7]:=fe
 simp only[yB]at aX
 rcases aX with rfl|rfl
 obtain⟨z,x,e,M,D,hS318⟩:=ca
 refine obl rfl (zV (v:=.tuple #[.agg (zD.1.cells e).toArray,.bool (zD.2.1),Iv (zD.2.2)]) D (fun u y m=>⟨rfl,?_⟩))
 intro ae H
 rw[m 4 (by decide)]at H;cases D.symm.trans H
 exact y
 obtain⟨z,x,e,C,M,D,N,hS319⟩:=ca
 refine obl rfl (zV (v:=.tuple #[.agg (zD.1.cells e).toArray,.bool (zD.2.1),Iv (zD.2.2)]) D (fun u y m=>⟨rfl,?_⟩))
 intro ae H
 rw[m 4 (by decide)]at H;cases D.symm.trans H
 exact y
 intro hW vals w321 ff cb cc
 have aY:hW∈[3,7]:=ff
 simp only[yB]at aY
 rcases aY with rfl|rfl
 obtain⟨z,x,e,M,D,hS325⟩:=cb
 let hv:=(zD.1.cells e)
 have hX:vals 5=(.tuple #[.agg hv.toArray,.bool (zD.2.1),Iv (zD.2.2)]:Value):=cc 5 dc e D
 refine obl rfl (zk (vs:=[.agg hv.toArray,.bool (zD.2.1),Iv (zD.2.2)]) (i:=0) (v:=.agg hv.toArray) hX rfl (fun u y m=>⟨rfl,?_⟩))
 intro ae H
 rw[m 4 (by decide)]at H;cases D.symm.trans H
 exact y
 obtain⟨z,x,e,C,M,D,N,hS327⟩:=cb
 let hE:=(zD.1.cells e)
 have hY:vals 5=(.tuple #[.agg hE.toArray,.bool (zD.2.1),Iv (zD.2.2)]:Value):=cc 5 dc e D
 refine obl rfl (zk (vs:=[.agg hE.toArray,.bool (zD.2.1),Iv (zD.2.2)]) (i:=0) (v:=.agg hE.toArray) hY rfl (fun u y m=>⟨rfl,?_⟩))
 intro ae H
 rw[m 4 (by decide)]at H;cases D.symm.trans H
 exact y
 intro hZ vals w330 fg aB aC
 have aZ:hZ∈[3,7,15]:=fg
 simp only[yB]at aZ
 rcases aZ with rfl|rfl|rfl
 obtain⟨z,x,e,M,D,hS334⟩:=aB
 let jb:=(zD.1.cells e)
 have ia:vals 5=(.tuple #[.agg jb.toArray,.bool (zD.2.1),Iv (zD.2.2)]:Value):=aC 5 dc e D
 exact obl rfl (zk (vs:=[.agg jb.toArray,.bool (zD.2.1),Iv (zD.2.2)]) (i:=1) (v:=.bool (zD.2.1)) ia rfl dR)
 obtain⟨z,x,e,C,M,D,N,hS336⟩:=aB
 let jc:=(zD.1.cells e)
 have ib:vals 5=(.tuple #[.agg jc.toArray,.bool (zD.2.1),Iv (zD.2.2)]:Value):=aC 5 dc e D
 exact obl rfl (zk (vs:=[.agg jc.toArray,.bool (zD.2.1),Iv (zD.2.2)]) (i:=1) (v:=.bool (zD.2.1)) ib rfl dR)
 obtain⟨z,x,e,C,M,D,N,hS338⟩:=aB
 let jd:=(zD.1.cells e)
 have ic:vals 5=(.tuple #[.agg jd.toArray,.bool (zD.2.1),Iv (zD.2.2)]:Value):=aC 5 dc e D
 exact obl rfl (zk (vs:=[.agg jd.toArray,.bool (zD.2.1),Iv (zD.2.2)]) (i:=1) (v:=.bool (zD.2.1)) ic rfl dR)
 intro id vals w341 fh aD aE
 have ba:id∈[3,7,15]:=fh
 simp only[yB]at ba
 rcases ba with rfl|rfl|rfl
 obtain⟨z,x,e,M,D,hS345⟩:=aD
 let je:=(zD.1.cells e)
 have ie:vals 5=(.tuple #[.agg je.toArray,.bool (zD.2.1),Iv (zD.2.2)]:Value):=aE 5 dc e D
 exact obl rfl (zk (vs:=[.agg je.toArray,.bool (zD.2.1),Iv (zD.2.2)]) (i:=2) (v:=Iv (zD.2.2)) ie rfl dR)
 obtain⟨z,x,e,C,M,D,N,hS347⟩:=aD
 let jf:=(zD.1.cells e)
 have ig:vals 5=(.tuple #[.agg jf.toArray,.bool (zD.2.1),Iv (zD.2.2)]:Value):=aE 5 dc e D
 exact obl rfl (zk (vs:=[.agg jf.toArray,.bool (zD.2.1),Iv (zD.2.2)]) (i:=2) (v:=Iv (zD.2.2)) ig rfl dR)
 obtain⟨z,x,e,C,M,D,N,hS349⟩:=aD
 let jg:=(zD.1.cells e)
 have ih:vals 5=(.tuple #[.agg jg.toArray,.bool (zD.2.1),Iv (zD.2.2)]:Value):=aE 5 dc e D
 exact obl rfl (zk (vs:=[.agg jg.toArray,.bool (zD.2.1),Iv (zD.2.2)]) (i:=2) (v:=Iv (zD.2.2)) ih rfl dR)
 intro ii vals w352 fi aF hA353
 have bb:ii∈[0,1,3]:=fi
 simp only[yB]at bb
 rcases bb with rfl|rfl|rfl
 have fj:Sep _ _ _ _:=aF
 refine obl rfl ((zt nT ?_))
 intro w359 C fk
 exact fun u y m=>⟨(exiA C (zv y (fj.new fk))),trivial⟩
 obtain⟨z,x,M,fl⟩:=aF
 refine obl rfl ((zt nT ?_))
 intro w364 C fm
 exact fun u y m=>⟨(exiA z (exiA x (exiA C (zv ((m 0 dc).trans M) (zv y ((fl.new fm).s7_bcadefg)))))),trivial⟩
 obtain⟨z,x,e,M,D,fn⟩:=aF
 refine obl rfl ((zt nT ?_))
 intro w370 C fo
 exact fun u y m=>⟨(exiA z (exiA x (exiA e (exiA C (zv ((m 0 dc).trans M) (zv ((m 4 dc).trans D) (zv y (fn.new fo)))))))),trivial⟩
 intro ij vals w373 fp fq fr
 have bc:ij∈[7]:=fp
 simp only[yB]at bc
 subst bc
 obtain⟨z,x,e,C,M,D,N,aG⟩:=fq
 let iO:=(zD.1.cells e)
 refine obl rfl ?_
 have ik:vals 6=(.agg iO.toArray:Value):=fr 6 dc e D
 refine(zq (v:=.agg iO.toArray) (c':=iO.toArray) kT N ik (aG.b0) (ye ⟨rfl,rfl,rfl,(aG.depSl (i:=4) rfl).one,rfl,rfl,rfl,rfl,rfl,rfl,trivial⟩) yqc rfl ?_)
 intro w379 fs
 exact fun u y m=>⟨(exiA z (exiA x (exiA e (exiA C (zv ((m 0 dc).trans M) (zv ((m 4 dc).trans D) (zv ((m 9 dc).trans N) (aG.pt0 fs)))))))),trivial⟩
 intro vals w394 ft cd
 obtain⟨z,x,e,C,M,D,N,ce⟩:=ft
 let iU:=(Blk C (zD.1.cells e).toArray 41)
 have il:=cd 11 dc
 have im:=cd 12 dc
 refine zZ (kv:=[(0,.bool false),(15,.agg #[(Iy bJ 1 1),Iz]),(16,.tuple #[Ix A 0,Ix B 0]),(14,.tuple #[Ix A 0,Ix B 0]),(17,Ix A 0),(18,Ix B 0),(1,Ix A 0),(2,Ix B 0),(19,Ix A 0),(20,.bool false),(21,.bool false),(22,Ix B 0),(23,.bool false),(24,.bool false),(25,.agg (kX154.cells).toArray),(3,Ix Z 0),(4,Ix C 0),(5,.bool (zD.2.1)),(6,Iv (zD.2.2))]) ⟨rfl,rfl,rfl,rfl,rfl,rfl,rfl,rfl,rfl,rfl,rfl,rfl,rfl,rfl,rfl,rfl,(by exact N),(by exact il),(by exact im),trivial⟩ (fun ρw394=>(zd (za (R0 fun _=>st (Yk rfl ?_)))))
 refine stn (yz (v:=Iv 1) (c:=[Iv 0,Iv 0,Iv 0,Iv 1,Iv 3,Iv 0,Iv 7]) (c':=[Iv 0,Iv 0,Iv 0,Iv 1,Iv 3,Iv 1,Iv 7]) mR rfl rfl (ce.b5) rfl rfl rfl ?_)
 intro w400 fu
 have cf:Cmd.Ok kX155:=⟨(show InR (0)from dc),(show InR (0)from dc),(show InR (0)from dc),(show InR (1)from dc),(show InR (3)from dc),(show InR (1)from dc),(show InR (7)from dc)⟩
 refine zd (za ?_)
 refine WD6 ((fun TT R S T U=>WF [fun vals O=>Sep G W (R::S::T::U::TT) O,fun vals O=> ∃(q:Nat) (p:Nat),(vals 0=(.agg #[(Iy q 1 1),Iz]:Value))∧Sep G W ((Blk q #[(Iy p 1 1)] 53)::(Blk p #[Iv 1,Iv 1,.bool true,Iz] 110)::R::S::T::U::TT) O,fun _ _=>True,fun vals O=> ∃(q:Nat) (p:Nat) (g:Value),(vals 0=(.agg #[(Iy q 1 1),Iz]:Value))∧(vals 4=(.tuple #[.agg (zL.1.cells g).toArray,.bool (zL.2.1),Iv (zL.2.2)]:Value))∧Sep G W ((RowE (α:=Fld) (shr G W) 110 (Iy p 1 1) [(⟨1,1,true,[]⟩:Fld)])::T::U::(DepO g (zL.1.deps))::R::S::TT) O,fun vals O=> ∃(I:Nat),(vals 9=(Ix I 0:Value))∧Sep G W ((Blk I #[Iv 0,Iv 0,Iv 0,(Iz),Iv 0,Iv 0,Iv 0,Iv 0,Iv 0,Iv 0] 41)::R::S::T::U::TT) O,fun vals O=> ∃(q:Nat) (p:Nat) (I:Nat),(vals 0=(.agg #[(Iy q 1 1),Iz]:Value))∧(vals 9=(Ix I 0:Value))∧Sep G W ((Blk q #[(Iy p 1 1)] 53)::(Blk p #[Iv 1,Iv 1,.bool true,Iz] 110)::(Blk I #[Iv 0,Iv 0,Iv 0,(Iz),Iv 0,Iv 0,Iv 0,Iv 0,Iv 0,Iv 0] 41)::R::S::T::U::TT) O,fun _ _=>True,fun vals O=> ∃(q:Nat) (p:Nat) (g:Value) (I:Nat),(vals 0=(.agg #[(Iy q 1 1),Iz]:Value))∧(vals 4=(.tuple #[.agg (zL.1.cells g).toArray,.bool (zL.2.1),Iv (zL.2.2)]:Value))∧(vals 9=(Ix I 0:Value))∧Sep G W ((Blk I #[Iv 0,Iv 0,Iv 0,(Iz),Iv 0,Iv 0,Iv 0,Iv 0,Iv 0,Iv 0] 41)::(RowE (α:=Fld) (shr G W) 110 (Iy p 1 1) [(⟨1,1,true,[]⟩:Fld)])::T::U::(DepO g (zL.1.deps))::R::S::TT) O,fun _ _=>True,fun _ _=>True,fun _ _=>True,fun _ _=>True,fun _ _=>True,fun _ _=>True,fun _ _=>True,fun vals O=> ∃(q:Nat) (p:Nat) (g:Value) (I:Nat),(vals 0=(.agg #[(Iy q 1 1),Iz]:Value))∧(vals 4=(.tuple #[.agg (zL.1.cells g).toArray,.bool (zL.2.1),Iv (zL.2.2)]:Value))∧(vals 9=(Ix I 0:Value))∧Sep G W ((Blk I (zL.1.cells g).toArray 41)::(RowE (α:=Fld) (shr G W) 110 (Iy p 1 1) [(⟨1,1,true,[]⟩:Fld)])::T::U::(DepO g (zL.1.deps))::R::S::TT) O]) ((DepO e (zD.1.deps))::(Blk Z (kX155.cells).toArray 28)::(RowE (α:=Fld) (shr G W) 110 (Iy ao 1 1) [(⟨1,1,true,[]⟩:Fld)])::Rs) iU (RowE (α:=Fld) (shr G W) 110 (Iy x 1 1) [(⟨1,1,true,[]⟩:Fld)]) (SetO A 2 ([]:List Ev)) iT) (AF [fun _=>True,Vl 1 (Ix A 0),Vl 2 (Ix B 0),Vl 3 (.agg (kX155.cells).toArray),fun _=>True,fun vals=> ∀(g:Value),vals 4=(.tuple #[.agg (zL.1.cells g).toArray,.bool (zL.2.1),Iv (zL.2.2)]:Value)→vals 5=(.tuple #[.agg (zL.1.cells g).toArray,.bool (zL.2.1),Iv (zL.2.2)]:Value),fun vals=> ∀(g:Value),vals 4=(.tuple #[.agg (zL.1.cells g).toArray,.bool (zL.2.1),Iv (zL.2.2)]:Value)→vals 6=(.agg (zL.1.cells g).toArray:Value),Vl 7 (.bool (zL.2.1)),Vl 8 (Iv (zL.2.2)),fun _=>True,fun _=>True,Vl 11 (.bool (zL.2.1)),Vl 12 (Iv (zL.2.2))]) [[],[],[],[],(rg 4),(rg 5),(rg 6),(rg 6),(rg 6),[],[0,1,2,3,4,5,6,9],[0,1,2,3,4,5,6,7,9,10],(rg 12)] [0,4,9,10] [[0,4],[0,1,4,5],[0,1,4,5],[0,1,4,5],[1,5],[3,7],[3,7],[3,7,15],[3,7,15],[0,1,3],[7],[15],[15]] (ce.pt5 fu) ⟨?_,fun _ _ _ _ _ _=>obl rfl (mV (Ix A 0) dR),fun _ _ _ _ _ _=>obl rfl (mV (Ix B 0) dR),?_,?_,?_,?_,?_,?_,?_,?_,fun _ _ _ _ _ fv=>obl rfl (ya (v:=.bool (zL.2.1)) (fv 7 dc) dR),fun _ _ _ _ _ fw=>obl rfl (ya (v:=Iv (zL.2.2)) (fw 8 dc) dR),trivial⟩ ?_ (hlocA:=xb ⟨dT,dA,dA,dA,dT,fun vals u y h=>fun g H=>(y 5 (.inl rfl)).trans (h g ((y 4 (.inr dc)).symm.trans H)),fun vals u y h=>fun g H=>(y 6 (.inl rfl)).trans (h g ((y 4 (.inr dc)).symm.trans H)),dA,dA,dT,dT,dA,dA,trivial⟩)
 intro io vals w548 fx cg hA549
 have bd:io∈[0,4]:=fx
 simp only[yB]at bd
 rcases bd with rfl|rfl
 have fy:Sep _ _ _ _:=cg
 refine obl rfl ((cL qT (xq fy) ?_))
 rintro _ w555 ⟨q,p,rfl,fz⟩
 exact fun u y m=>⟨(exiA q (exiA p (zv y fz))),trivial⟩
 obtain⟨I,P,fA⟩:=cg
 refine obl rfl ((cL qT (xq fA) ?_))
 rintro _ w560 ⟨q,p,rfl,fB⟩
 exact fun u y m=>⟨(exiA q (exiA p (exiA I (zv y (zv ((m 9 dc).trans P) fB))))),trivial⟩
 intro ip vals w573 fC ac hA574
 have be:ip∈[0,1,4,5]:=fC
 simp only[yB]at be
 rcases be with rfl|rfl|rfl|rfl
 have fE:Sep _ _ _ _:=ac
 exact obl rfl (zf (k:=7) mT lT rfl rfl (CellsAt.all (fE.b5)) dR)
 obtain⟨q,p,K,fF⟩:=ac
 exact obl rfl (zf (k:=7) mT lT rfl rfl (CellsAt.all (fF.b7)) dR)
 obtain⟨I,P,fG⟩:=ac
 exact obl rfl (zf (k:=7) mT lT rfl rfl (CellsAt.all (fG.b6)) dR)
 obtain⟨q,p,I,K,P,fH⟩:=ac
 exact obl rfl (zf (k:=7) mT lT rfl rfl (CellsAt.all (fH.b8)) dR)
 intro iq vals aH fI ch X
 have bf:iq∈[1,5]:=fI
 simp only[yB]at bf
 rcases bf with rfl|rfl
 obtain⟨q,p,K,fJ⟩:=ch
 refine obl rfl ?_
 have ci:Sep _ _ ((RowE (α:=Fld) (shr G W) 110 (Iy p 1 1) [(⟨1,1,true,[]⟩:Fld)])::_) _:=Sep.blkRow (src:=(shr G W)) (l:=[(⟨1,1,true,[]⟩:Fld)]) (css:=[(⟨1,1,true,[]⟩:Fld).cells (Iz)]) (fJ.mv1) rfl ⟨fun _ _=>⟨_,rfl,(RdS.nil _ _),(show Fld.Ok (⟨1,1,true,[]⟩:Fld)from⟨by decide,by decide⟩)⟩,trivial⟩ yqa (show 1≤maxLen by decide)
 have fK:=ci.r0
 have hr592s:_*48≤_:=fK.2
 obtain⟨cY,fL,cj,fM,fN⟩:=ci.lend
 have bg:=RowE.rdB fL cj
 have hrd599s:_*48≤_:=bg.small
 have ck:Sep _ _ ((RowE (α:=Typ) (shr cY aH) 53 (Iy q 1 1) [(⟨[(⟨1,1,true,[]⟩:Fld)]⟩:Typ)])::_) _:=Sep.blkRow (src:=(shr cY aH)) (l:=[(⟨[(⟨1,1,true,[]⟩:Fld)]⟩:Typ)]) (css:=[(⟨[(⟨1,1,true,[]⟩:Fld)]⟩:Typ).cells (Iy p 1 1)]) fM rfl ⟨fun _ _=>⟨_,rfl,bg,(show Typ.Ok (⟨[(⟨1,1,true,[]⟩:Fld)]⟩:Typ)from⟨⟩)⟩,trivial⟩ yqa (show 1≤maxLen by decide)
 have fO:=ck.r0
 have hr601s:_*24≤_:=fO.2
 obtain⟨G602,fP,cl,fQ,fR⟩:=ck.lend
 have bh:=RowE.rdB fP cl
 have hrd608s:_*24≤_:=bh.small
 obtain⟨G610,cm,cn,fS,fT⟩:=(fQ.mv2).lend
 obtain⟨vv616,m617,R618,hb619,fU,hr621⟩:=SetO.sh cm
 have hsm622:(zr 2 ([]:List Ev)).length*8≤140737488355328:=fU.small
 refine(zG (f:=11) (vals:=[.agg (dF.cells (Iy q 1 1) (Iz)).toArray,Ix A 0,Ix B 0,Iv 1,Iv 10,.agg (kX155.cells).toArray]) (cap:=[]) rfl (yK ⟨K,(X 1 dc),(X 2 dc),rfl,rfl,(X 3 dc),trivial⟩) tT (ZN (d:=dF) (o:=1) (start:=10) (c:=kX155) (RdS.base bh cn) (RdS.nil _ _) (⟨⟩:Dcl.Ok dF) cm dc dc cf (RdS.base (RdS.base (RdS.base hKN cj) cl) cn) (fS.mv2) (Xu) ((Inv.nil dF)) ((Nat.zero_le _)) (List.Pairwise.nil) ((Good.nil (n:=2)).srt) ((Nat.zero_le _)) (dc)) ?_)
 rintro _ w625 ⟨g,rfl,fV⟩
 have fW:=fT _ _ fV
 have fX:=fR _ _ fW
 have fY:=fN _ _ fX
 exact fun u y m=>⟨(exiA q (exiA p (exiA g (zv ((m 0 dc).trans K) (zv y (fY.s10_acdefghij)))))),trivial⟩
 obtain⟨q,p,I,K,P,fZ⟩:=ch
 refine obl rfl ?_
 have co:Sep _ _ ((RowE (α:=Fld) (shr G W) 110 (Iy p 1 1) [(⟨1,1,true,[]⟩:Fld)])::_) _:=Sep.blkRow (src:=(shr G W)) (l:=[(⟨1,1,true,[]⟩:Fld)]) (css:=[(⟨1,1,true,[]⟩:Fld).cells (Iz)]) (fZ.mv1) rfl ⟨fun _ _=>⟨_,rfl,(RdS.nil _ _),(show Fld.Ok (⟨1,1,true,[]⟩:Fld)from⟨by decide,by decide⟩)⟩,trivial⟩ yqa (show 1≤maxLen by decide)
 have ga:=co.r0
 have hr637s:_*48≤_:=ga.2
 obtain⟨cZ,gc,cp,gd,ge⟩:=co.lend
 have bi:=RowE.rdB gc cp
 have hrd644s:_*48≤_:=bi.small
 have cq:Sep _ _ ((RowE (α:=Typ) (shr cZ aH) 53 (Iy q 1 1) [(⟨[(⟨1,1,true,[]⟩:Fld)]⟩:Typ)])::_) _:=Sep.blkRow (src:=(shr cZ aH)) (l:=[(⟨[(⟨1,1,true,[]⟩:Fld)]⟩:Typ)]) (css:=[(⟨[(⟨1,1,true,[]⟩:Fld)]⟩:Typ).cells (Iy p 1 1)]) gd rfl ⟨fun _ _=>⟨_,rfl,bi,(show Typ.Ok (⟨[(⟨1,1,true,[]⟩:Fld)]⟩:Typ)from⟨⟩)⟩,trivial⟩ yqa (show 1≤maxLen by decide)
 have gf:=cq.r0
 have hr646s:_*24≤_:=gf.2
 obtain⟨G647,gg,cr,gh,gi⟩:=cq.lend
 have bj:=RowE.rdB gg cr
 have hrd653s:_*24≤_:=bj.small
 obtain⟨G655,cs,ct,gj,gk⟩:=(gh.mv3).lend
 obtain⟨vv661,m662,R663,hb664,gl,hr666⟩:=SetO.sh cs
 have hsm667:(zr 2 ([]:List Ev)).length*8≤140737488355328:=gl.small
 refine(zG (f:=11) (vals:=[.agg (dF.cells (Iy q 1 1) (Iz)).toArray,Ix A 0,Ix B 0,Iv 1,Iv 10,.agg (kX155.cells).toArray]) (cap:=[]) rfl (yK ⟨K,(X 1 dc),(X 2 dc),rfl,rfl,(X 3 dc),trivial⟩) tT (ZN (d:=dF) (o:=1) (start:=10) (c:=kX155) (RdS.base bj ct) (RdS.nil _ _) (⟨⟩:Dcl.Ok dF) cs dc dc cf (RdS.base (RdS.base (RdS.base hKN cp) cr) ct) (gj.mv3) (Xu) ((Inv.nil dF)) ((Nat.zero_le _)) (List.Pairwise.nil) ((Good.nil (n:=2)).srt) ((Nat.zero_le _)) (dc)) ?_)
 rintro _ w670 ⟨g,rfl,gm⟩
 have gn:=gk _ _ gm
 have go:=gi _ _ gn
 have gp:=ge _ _ go
 exact fun u y m=>⟨(exiA q (exiA p (exiA g (exiA I (zv ((m 0 dc).trans K) (zv y (zv ((m 9 dc).trans P) ((gp.s11_acdefghijk).mv4)))))))),trivial⟩
 intro ir vals w678 gq cu hA679
 have bk:ir∈[3,7]:=gq
 simp only[yB]at bk
 rcases bk with rfl|rfl
 obtain⟨q,p,g,K,E,hS682⟩:=cu
 refine obl rfl (zV (v:=.tuple #[.agg (zL.1.cells g).toArray,.bool (zL.2.1),Iv (zL.2.2)]) E (fun u y m=>⟨rfl,?_⟩))
 intro af H
 rw[m 4 (by decide)]at H;cases E.symm.trans H
 exact y
 obtain⟨q,p,g,I,K,E,P,hS683⟩:=cu
 refine obl rfl (zV (v:=.tuple #[.agg (zL.1.cells g).toArray,.bool (zL.2.1),Iv (zL.2.2)]) E (fun u y m=>⟨rfl,?_⟩))
 intro af H
 rw[m 4 (by decide)]at H;cases E.symm.trans H
 exact y
 intro it vals w685 gr cv cw
 have bl:it∈[3,7]:=gr
 simp only[yB]at bl
 rcases bl with rfl|rfl
 obtain⟨q,p,g,K,E,hS689⟩:=cv
 let iP:=(zL.1.cells g)
 have iu:vals 5=(.tuple #[.agg iP.toArray,.bool (zL.2.1),Iv (zL.2.2)]:Value):=cw 5 dc g E
 refine obl rfl (zk (vs:=[.agg iP.toArray,.bool (zL.2.1),Iv (zL.2.2)]) (i:=0) (v:=.agg iP.toArray) iu rfl (fun u y m=>⟨rfl,?_⟩))
 intro af H
 rw[m 4 (by decide)]at H;cases E.symm.trans H
 exact y
 obtain⟨q,p,g,I,K,E,P,hS691⟩:=cv
 let iQ:=(zL.1.cells g)
 have iv:vals 5=(.tuple #[.agg iQ.toArray,.bool (zL.2.1),Iv (zL.2.2)]:Value):=cw 5 dc g E
 refine obl rfl (zk (vs:=[.agg iQ.toArray,.bool (zL.2.1),Iv (zL.2.2)]) (i:=0) (v:=.agg iQ.toArray) iv rfl (fun u y m=>⟨rfl,?_⟩))
 intro af H
 rw[m 4 (by decide)]at H;cases E.symm.trans H
 exact y
 intro iw vals w694 gs aI aJ
 have bm:iw∈[3,7,15]:=gs
 simp only[yB]at bm
 rcases bm with rfl|rfl|rfl
 obtain⟨q,p,g,K,E,hS698⟩:=aI
 let jh:=(zL.1.cells g)
 have ix:vals 5=(.tuple #[.agg jh.toArray,.bool (zL.2.1),Iv (zL.2.2)]:Value):=aJ 5 dc g E
 exact obl rfl (zk (vs:=[.agg jh.toArray,.bool (zL.2.1),Iv (zL.2.2)]) (i:=1) (v:=.bool (zL.2.1)) ix rfl dR)
 obtain⟨q,p,g,I,K,E,P,hS700⟩:=aI
 let ji:=(zL.1.cells g)
 have iy:vals 5=(.tuple #[.agg ji.toArray,.bool (zL.2.1),Iv (zL.2.2)]:Value):=aJ 5 dc g E
 exact obl rfl (zk (vs:=[.agg ji.toArray,.bool (zL.2.1),Iv (zL.2.2)]) (i:=1) (v:=.bool (zL.2.1)) iy rfl dR)
 obtain⟨q,p,g,I,K,E,P,hS702⟩:=aI
 let jj:=(zL.1.cells g)
 have iz:vals 5=(.tuple #[.agg jj.toArray,.bool (zL.2.1),Iv (zL.2.2)]:Value):=aJ 5 dc g E
 exact obl rfl (zk (vs:=[.agg jj.toArray,.bool (zL.2.1),Iv (zL.2.2)]) (i:=1) (v:=.bool (zL.2.1)) iz rfl dR)
 intro iA vals w705 gt aK aL
 have bn:iA∈[3,7,15]:=gt
 simp only[yB]at bn
 rcases bn with rfl|rfl|rfl
 obtain⟨q,p,g,K,E,hS709⟩:=aK
 let jk:=(zL.1.cells g)
 have iB:vals 5=(.tuple #[.agg jk.toArray,.bool (zL.2.1),Iv (zL.2.2)]:Value):=aL 5 dc g E
 exact obl rfl (zk (vs:=[.agg jk.toArray,.bool (zL.2.1),Iv (zL.2.2)]) (i:=2) (v:=Iv (zL.2.2)) iB rfl dR)
 obtain⟨q,p,g,I,K,E,P,hS711⟩:=aK
 let jl:=(zL.1.cells g)
 have iC:vals 5=(.tuple #[.agg jl.toArray,.bool (zL.2.1),Iv (zL.2.2)]:Value):=aL 5 dc g E
 exact obl rfl (zk (vs:=[.agg jl.toArray,.bool (zL.2.1),Iv (zL.2.2)]) (i:=2) (v:=Iv (zL.2.2)) iC rfl dR)
 obtain⟨q,p,g,I,K,E,P,hS713⟩:=aK
 let jm:=(zL.1.cells g)
 have iD:vals 5=(.tuple #[.agg jm.toArray,.bool (zL.2.1),Iv (zL.2.2)]:Value):=aL 5 dc g E
 exact obl rfl (zk (vs:=[.agg jm.toArray,.bool (zL.2.1),Iv (zL.2.2)]) (i:=2) (v:=Iv (zL.2.2)) iD rfl dR)
 intro iE vals w716 gu aM hA717
 have bp:iE∈[0,1,3]:=gu
 simp only[yB]at bp
 rcases bp with rfl|rfl|rfl
 have gv:Sep _ _ _ _:=aM
 refine obl rfl ((zt nT ?_))
 intro w723 I gw
 exact fun u y m=>⟨(exiA I (zv y (gv.new gw))),trivial⟩
 obtain⟨q,p,K,gx⟩:=aM
 refine obl rfl ((zt nT ?_))
 intro w728 I gy
 exact fun u y m=>⟨(exiA q (exiA p (exiA I (zv ((m 0 dc).trans K) (zv y ((gx.new gy).s10_bcadefghij)))))),trivial⟩
 obtain⟨q,p,g,K,E,gz⟩:=aM
 refine obl rfl ((zt nT ?_))
 intro w734 I gA
 exact fun u y m=>⟨(exiA q (exiA p (exiA g (exiA I (zv ((m 0 dc).trans K) (zv ((m 4 dc).trans E) (zv y (gz.new gA)))))))),trivial⟩
 intro iF vals w737 gB gC gD
 have bq:iF∈[7]:=gB
 simp only[yB]at bq
 subst bq
 obtain⟨q,p,g,I,K,E,P,aN⟩:=gC
 let iR:=(zL.1.cells g)
 refine obl rfl ?_
 have iG:vals 6=(.agg iR.toArray:Value):=gD 6 dc g E
 refine(zq (v:=.agg iR.toArray) (c':=iR.toArray) kT P iG (aN.b0) (ye ⟨rfl,rfl,rfl,(aN.depSl (i:=4) rfl).one,rfl,rfl,rfl,rfl,rfl,rfl,trivial⟩) yqc rfl ?_)
 intro w743 gE
 exact fun u y m=>⟨(exiA q (exiA p (exiA g (exiA I (zv ((m 0 dc).trans K) (zv ((m 4 dc).trans E) (zv ((m 9 dc).trans P) (aN.pt0 gE)))))))),trivial⟩
 intro vals w758 gF gG
 obtain⟨q,p,g,I,K,E,P,cx⟩:=gF
 have iH:=gG 12 dc
 refine zZ (kv:=[(0,.bool false),(15,.agg #[(Iy bJ 1 1),Iz]),(16,.tuple #[Ix A 0,Ix B 0]),(14,.tuple #[Ix A 0,Ix B 0]),(17,Ix A 0),(18,Ix B 0),(1,Ix A 0),(2,Ix B 0),(19,Ix A 0),(20,.bool false),(21,.bool false),(22,Ix B 0),(23,.bool false),(24,.bool false),(25,.agg (kX154.cells).toArray),(3,Ix Z 0),(4,Ix C 0),(5,.bool (zD.2.1)),(6,Iv (zD.2.2)),(35,Ix Z 5),(9,Iv (zL.2.2))]) ⟨rfl,rfl,rfl,rfl,rfl,rfl,rfl,rfl,rfl,rfl,rfl,rfl,rfl,rfl,rfl,rfl,rfl,rfl,rfl,rfl,(by exact iH),trivial⟩ (fun ρw758=>?_)
 refine zd (za (R0 fun _=>st (Yk rfl (stn (yz (v:=Iv (-1)) (c:=[Iv 0,Iv 0,Iv 0,Iv 1,Iv 3,Iv 1,Iv 7]) (c':=[Iv 0,Iv 0,Iv 0,Iv 1,Iv 3,Iv (-1),Iv 7]) mR rfl rfl (cx.b8) rfl rfl rfl ?_)))))
 intro w763 gH
 have ok765:Cmd.Ok (⟨0,0,0,1,3, -1,7⟩:Cmd):=⟨(show InR (0)from dc),(show InR (0)from dc),(show InR (0)from dc),(show InR (1)from dc),(show InR (3)from dc),(show InR (-1)from dc),(show InR (7)from dc)⟩
 have cy:=cx.pt8 gH
 refine zd (za (R0 fun _=>st (XA rfl (stn (yz (v:=Iv (-1)) (c:=[Iv 0,Iv 0,Iv 0,Iv 1,Iv 3,Iv (-1),Iv 7]) (c':=[Iv 0,Iv 0,Iv 0,Iv 1,Iv (-1),Iv (-1),Iv 7]) mR rfl rfl (cy.b8) rfl rfl rfl ?_)))))
 intro w767 gI
 have cz:Cmd.Ok kX156:=⟨(show InR (0)from dc),(show InR (0)from dc),(show InR (0)from dc),(show InR (1)from dc),(show InR (-1)from dc),(show InR (-1)from dc),(show InR (7)from dc)⟩
 refine zd (za ?_)
 refine WD6 ((fun TT R S T U=>WF [fun vals O=>Sep G W (R::S::T::U::TT) O,fun vals O=> ∃(s:Nat) (t:Nat),(vals 0=(.agg #[(Iy s 1 1),Iz]:Value))∧Sep G W ((Blk s #[(Iy t 1 1)] 53)::(Blk t #[Iv 1,Iv 1,.bool true,Iz] 110)::R::S::T::U::TT) O,fun _ _=>True,fun vals O=> ∃(s:Nat) (t:Nat) (j:Value),(vals 0=(.agg #[(Iy s 1 1),Iz]:Value))∧(vals 4=(.tuple #[.agg (zO.1.cells j).toArray,.bool (zO.2.1),Iv (zO.2.2)]:Value))∧Sep G W ((RowE (α:=Fld) (shr G W) 110 (Iy t 1 1) [(⟨1,1,true,[]⟩:Fld)])::T::U::(DepO j (zO.1.deps))::R::S::TT) O,fun vals O=> ∃(J:Nat),(vals 9=(Ix J 0:Value))∧Sep G W ((Blk J #[Iv 0,Iv 0,Iv 0,(Iz),Iv 0,Iv 0,Iv 0,Iv 0,Iv 0,Iv 0] 41)::R::S::T::U::TT) O,fun vals O=> ∃(s:Nat) (t:Nat) (J:Nat),(vals 0=(.agg #[(Iy s 1 1),Iz]:Value))∧(vals 9=(Ix J 0:Value))∧Sep G W ((Blk s #[(Iy t 1 1)] 53)::(Blk t #[Iv 1,Iv 1,.bool true,Iz] 110)::(Blk J #[Iv 0,Iv 0,Iv 0,(Iz),Iv 0,Iv 0,Iv 0,Iv 0,Iv 0,Iv 0] 41)::R::S::T::U::TT) O,fun _ _=>True,fun vals O=> ∃(s:Nat) (t:Nat) (j:Value) (J:Nat),(vals 0=(.agg #[(Iy s 1 1),Iz]:Value))∧(vals 4=(.tuple #[.agg (zO.1.cells j).toArray,.bool (zO.2.1),Iv (zO.2.2)]:Value))∧(vals 9=(Ix J 0:Value))∧Sep G W ((Blk J #[Iv 0,Iv 0,Iv 0,(Iz),Iv 0,Iv 0,Iv 0,Iv 0,Iv 0,Iv 0] 41)::(RowE (α:=Fld) (shr G W) 110 (Iy t 1 1) [(⟨1,1,true,[]⟩:Fld)])::T::U::(DepO j (zO.1.deps))::R::S::TT) O,fun _ _=>True,fun _ _=>True,fun _ _=>True,fun _ _=>True,fun _ _=>True,fun _ _=>True,fun _ _=>True,fun vals O=> ∃(s:Nat) (t:Nat) (j:Value) (J:Nat),(vals 0=(.agg #[(Iy s 1 1),Iz]:Value))∧(vals 4=(.tuple #[.agg (zO.1.cells j).toArray,.bool (zO.2.1),Iv (zO.2.2)]:Value))∧(vals 9=(Ix J 0:Value))∧Sep G W ((Blk J (zO.1.cells j).toArray 41)::(RowE (α:=Fld) (shr G W) 110 (Iy t 1 1) [(⟨1,1,true,[]⟩:Fld)])::T::U::(DepO j (zO.1.deps))::R::S::TT) O]) ((DepO g (zL.1.deps))::iU::(RowE (α:=Fld) (shr G W) 110 (Iy x 1 1) [(⟨1,1,true,[]⟩:Fld)])::(DepO e (zD.1.deps))::(Blk Z (kX156.cells).toArray 28)::(RowE (α:=Fld) (shr G W) 110 (Iy ao 1 1) [(⟨1,1,true,[]⟩:Fld)])::Rs) (Blk I (zL.1.cells g).toArray 41) (RowE (α:=Fld) (shr G W) 110 (Iy p 1 1) [(⟨1,1,true,[]⟩:Fld)]) (SetO A 2 ([]:List Ev)) iT) (AF [fun _=>True,Vl 1 (Ix A 0),Vl 2 (Ix B 0),Vl 3 (.agg (kX156.cells).toArray),fun _=>True,fun vals=> ∀(j:Value),vals 4=(.tuple #[.agg (zO.1.cells j).toArray,.bool (zO.2.1),Iv (zO.2.2)]:Value)→vals 5=(.tuple #[.agg (zO.1.cells j).toArray,.bool (zO.2.1),Iv (zO.2.2)]:Value),fun vals=> ∀(j:Value),vals 4=(.tuple #[.agg (zO.1.cells j).toArray,.bool (zO.2.1),Iv (zO.2.2)]:Value)→vals 6=(.agg (zO.1.cells j).toArray:Value),Vl 7 (.bool (zO.2.1)),Vl 8 (Iv (zO.2.2)),fun _=>True,fun _=>True,Vl 11 (.bool (zO.2.1)),Vl 12 (Iv (zO.2.2))]) [[],[],[],[],(rg 4),(rg 5),(rg 6),(rg 6),(rg 6),[],[0,1,2,3,4,5,6,9],[0,1,2,3,4,5,6,7,9,10],(rg 12)] [0,4,9,10] [[0,4],[0,1,4,5],[0,1,4,5],[0,1,4,5],[1,5],[3,7],[3,7],[3,7,15],[3,7,15],[0,1,3],[7],[15],[15]] (cy.pt8 gI) ⟨?_,fun _ _ _ _ _ _=>obl rfl (mV (Ix A 0) dR),fun _ _ _ _ _ _=>obl rfl (mV (Ix B 0) dR),?_,?_,?_,?_,?_,?_,?_,?_,fun _ _ _ _ _ da=>obl rfl (ya (v:=.bool (zO.2.1)) (da 7 dc) dR),fun _ _ _ _ _ db=>obl rfl (ya (v:=Iv (zO.2.2)) (db 8 dc) dR),trivial⟩ ?_ (hlocA:=xb ⟨dT,dA,dA,dA,dT,fun vals u y h=>fun j H=>(y 5 (.inl rfl)).trans (h j ((y 4 (.inr dc)).symm.trans H)),fun vals u y h=>fun j H=>(y 6 (.inl rfl)).trans (h j ((y 4 (.inr dc)).symm.trans H)),dA,dA,dT,dT,dA,dA,trivial⟩)
 intro iI vals w915 gJ cC hA916
 have br:iI∈[0,4]:=gJ
 simp only[yB]at br
 rcases br with rfl|rfl
 have gK:Sep _ _ _ _:=cC
 refine obl rfl ((cL qT (xq gK) ?_))
 rintro _ w922 ⟨s,t,rfl,gL⟩
 exact fun u y m=>⟨(exiA s (exiA t (zv y gL))),trivial⟩
 obtain⟨J,Q,gM⟩:=cC
 refine obl rfl ((cL qT (xq gM) ?_))
 rintro _ w927 ⟨s,t,rfl,gN⟩
 exact fun u y m=>⟨(exiA s (exiA t (exiA J (zv y (zv ((m 9 dc).trans Q) gN))))),trivial⟩
 intro iJ vals w940 gO ad hA941
 have bs:iJ∈[0,1,4,5]:=gO
 simp only[yB]at bs
 rcases bs with rfl|rfl|rfl|rfl
 have gP:Sep _ _ _ _:=ad
 exact obl rfl (zf (k:=7) mT lT rfl rfl (CellsAt.all (gP.b8)) dR)
 obtain⟨s,t,L,gQ⟩:=ad
 exact obl rfl (zf (k:=7) mT lT rfl rfl (CellsAt.all (gQ.b10)) dR)
 obtain⟨J,Q,gR⟩:=ad
 exact obl rfl (zf (k:=7) mT lT rfl rfl (CellsAt.all (gR.b9)) dR)
 obtain⟨s,t,J,L,Q,gS⟩:=ad
 exact obl rfl (zf (k:=7) mT lT rfl rfl (CellsAt.all (gS.b11)) dR)
 intro iK vals aO gT cD Y
 have bt:iK∈[1,5]:=gT
 simp only[yB]at bt
 rcases bt with rfl|rfl
 obtain⟨s,t,L,gU⟩:=cD
 refine obl rfl ?_
 have cE:Sep _ _ ((RowE (α:=Fld) (shr G W) 110 (Iy t 1 1) [(⟨1,1,true,[]⟩:Fld)])::_) _:=Sep.blkRow (src:=(shr G W)) (l:=[(⟨1,1,true,[]⟩:Fld)]) (css:=[(⟨1,1,true,[]⟩:Fld).cells (Iz)]) (gU.mv1) rfl ⟨fun _ _=>⟨_,rfl,(RdS.nil _ _),(show Fld.Ok (⟨1,1,true,[]⟩:Fld)from⟨by decide,by decide⟩)⟩,trivial⟩ yqa (show 1≤maxLen by decide)
 have gV:=cE.r0
 have hr959s:_*48≤_:=gV.2
 obtain⟨dd,gW,cF,gX,gY⟩:=cE.lend
 have bu:=RowE.rdB gW cF
 have hrd966s:_*48≤_:=bu.small
 have cG:Sep _ _ ((RowE (α:=Typ) (shr dd aO) 53 (Iy s 1 1) [(⟨[(⟨1,1,true,[]⟩:Fld)]⟩:Typ)])::_) _:=Sep.blkRow (src:=(shr dd aO)) (l:=[(⟨[(⟨1,1,true,[]⟩:Fld)]⟩:Typ)]) (css:=[(⟨[(⟨1,1,true,[]⟩:Fld)]⟩:Typ).cells (Iy t 1 1)]) gX rfl ⟨fun _ _=>⟨_,rfl,bu,(show Typ.Ok (⟨[(⟨1,1,true,[]⟩:Fld)]⟩:Typ)from⟨⟩)⟩,trivial⟩ yqa (show 1≤maxLen by decide)
 have gZ:=cG.r0
 have hr968s:_*24≤_:=gZ.2
 obtain⟨G969,ha,cH,hb,hc⟩:=cG.lend
 have bv:=RowE.rdB ha cH
 have hrd975s:_*24≤_:=bv.small
 obtain⟨G977,cI,cJ,hd,he⟩:=(hb.mv2).lend
 obtain⟨vv983,m984,R985,hb986,hf,hr988⟩:=SetO.sh cI
 have hsm989:(zr 2 ([]:List Ev)).length*8≤140737488355328:=hf.small
 refine(zG (f:=11) (vals:=[.agg (dF.cells (Iy s 1 1) (Iz)).toArray,Ix A 0,Ix B 0,Iv 1,Iv 10,.agg (kX156.cells).toArray]) (cap:=[]) rfl (yK ⟨L,(Y 1 dc),(Y 2 dc),rfl,rfl,(Y 3 dc),trivial⟩) tT (ZN (d:=dF) (o:=1) (start:=10) (c:=kX156) (RdS.base bv cJ) (RdS.nil _ _) (⟨⟩:Dcl.Ok dF) cI dc dc cz (RdS.base (RdS.base (RdS.base hKN cF) cH) cJ) (hd.mv2) (Xu) ((Inv.nil dF)) ((Nat.zero_le _)) (List.Pairwise.nil) ((Good.nil (n:=2)).srt) ((Nat.zero_le _)) (dc)) ?_)
 rintro _ w992 ⟨j,rfl,hg⟩
 have hh:=he _ _ hg
 have hi:=hc _ _ hh
 have hj:=gY _ _ hi
 exact fun u y m=>⟨(exiA s (exiA t (exiA j (zv ((m 0 dc).trans L) (zv y (hj.s13_acdefghijklm)))))),trivial⟩
 obtain⟨s,t,J,L,Q,hk⟩:=cD
 refine obl rfl ?_
 have bw:Sep _ _ ((RowE (α:=Fld) (shr G W) 110 (Iy t 1 1) [(⟨1,1,true,[]⟩:Fld)])::_) _:=Sep.blkRow (src:=(shr G W)) (l:=[(⟨1,1,true,[]⟩:Fld)]) (css:=[(⟨1,1,true,[]⟩:Fld).cells (Iz)]) (hk.mv1) rfl ⟨fun _ _=>⟨_,rfl,(RdS.nil _ _),(show Fld.Ok (⟨1,1,true,[]⟩:Fld)from⟨by decide,by decide⟩)⟩,trivial⟩ yqa (show 1≤maxLen by decide)
 have de:=bw.r0
 have hr1004s:_*48≤_:=de.2
 obtain⟨cK,df,bx,dg,dh⟩:=bw.lend
 have ap:=RowE.rdB df bx
 have hrd1011s:_*48≤_:=ap.small
 have bz:Sep _ _ ((RowE (α:=Typ) (shr cK aO) 53 (Iy s 1 1) [(⟨[(⟨1,1,true,[]⟩:Fld)]⟩:Typ)])::_) _:=Sep.blkRow (src:=(shr cK aO)) (l:=[(⟨[(⟨1,1,true,[]⟩:Fld)]⟩:Typ)]) (css:=[(⟨[(⟨1,1,true,[]⟩:Fld)]⟩:Typ).cells (Iy t 1 1)]) dg rfl ⟨fun _ _=>⟨_,rfl,ap,(show Typ.Ok (⟨[(⟨1,1,true,[]⟩:Fld)]⟩:Typ)from⟨⟩)⟩,trivial⟩ yqa (show 1≤maxLen by decide)
 have di:=bz.r0
 have hr1013s:_*24≤_:=di.2
 obtain⟨G1014,dj,bA,dk,dl⟩:=bz.lend
 have aq:=RowE.rdB dj bA
 have hrd1020s:_*24≤_:=aq.small
 obtain⟨G1022,bB,bC,dm,dp⟩:=(dk.mv3).lend
 obtain⟨vv1028,m1029,R1030,hb1031,dq,hr1033⟩:=SetO.sh bB
 have hsm1034:(zr 2 ([]:List Ev)).length*8≤140737488355328:=dq.small
 refine(zG (f:=11) (vals:=[.agg (dF.cells (Iy s 1 1) (Iz)).toArray,Ix A 0,Ix B 0,Iv 1,Iv 10,.agg (kX156.cells).toArray]) (cap:=[]) rfl (yK ⟨L,(Y 1 dc),(Y 2 dc),rfl,rfl,(Y 3 dc),trivial⟩) tT (ZN (d:=dF) (o:=1) (start:=10) (c:=kX156) (RdS.base aq bC) (RdS.nil _ _) (⟨⟩:Dcl.Ok dF) bB dc dc cz (RdS.base (RdS.base (RdS.base hKN bx) bA) bC) (dm.mv3) (Xu) ((Inv.nil dF)) ((Nat.zero_le _)) (List.Pairwise.nil) ((Good.nil (n:=2)).srt) ((Nat.zero_le _)) (dc)) ?_)
 rintro _ w1037 ⟨j,rfl,dr⟩
 have ds:=dp _ _ dr
 have dt:=dl _ _ ds
 have du:=dh _ _ dt
 exact fun u y m=>⟨(exiA s (exiA t (exiA j (exiA J (zv ((m 0 dc).trans L) (zv y (zv ((m 9 dc).trans Q) ((du.s14_acdefghijklmn).mv4)))))))),trivial⟩
 intro hl vals w1045 dv bD hA1046
 have ar:hl∈[3,7]:=dv
 simp only[yB]at ar
 rcases ar with rfl|rfl
 obtain⟨s,t,j,L,F,hS1049⟩:=bD
 refine obl rfl (zV (v:=.tuple #[.agg (zO.1.cells j).toArray,.bool (zO.2.1),Iv (zO.2.2)]) F (fun u y m=>⟨rfl,?_⟩))
 intro ag H
 rw[m 4 (by decide)]at H;cases F.symm.trans H
 exact y
 obtain⟨s,t,j,J,L,F,Q,hS1050⟩:=bD
 refine obl rfl (zV (v:=.tuple #[.agg (zO.1.cells j).toArray,.bool (zO.2.1),Iv (zO.2.2)]) F (fun u y m=>⟨rfl,?_⟩))
 intro ag H
 rw[m 4 (by decide)]at H;cases F.symm.trans H
 exact y
 intro hm vals w1052 dw bE bF
 have au:hm∈[3,7]:=dw
 simp only[yB]at au
 rcases au with rfl|rfl
 obtain⟨s,t,j,L,F,hS1056⟩:=bE
 let bo:=(zO.1.cells j)
 have hn:vals 5=(.tuple #[.agg bo.toArray,.bool (zO.2.1),Iv (zO.2.2)]:Value):=bF 5 dc j F
 refine obl rfl (zk (vs:=[.agg bo.toArray,.bool (zO.2.1),Iv (zO.2.2)]) (i:=0) (v:=.agg bo.toArray) hn rfl (fun u y m=>⟨rfl,?_⟩))
 intro ag H
 rw[m 4 (by decide)]at H;cases F.symm.trans H
 exact y
 obtain⟨s,t,j,J,L,F,Q,hS1058⟩:=bE
 let eh:=(zO.1.cells j)
 have ho:vals 5=(.tuple #[.agg eh.toArray,.bool (zO.2.1),Iv (zO.2.2)]:Value):=bF 5 dc j F
 refine obl rfl (zk (vs:=[.agg eh.toArray,.bool (zO.2.1),Iv (zO.2.2)]) (i:=0) (v:=.agg eh.toArray) ho rfl (fun u y m=>⟨rfl,?_⟩))
 intro ag H
 rw[m 4 (by decide)]at H;cases F.symm.trans H
 exact y
 intro hp vals w1061 dx ah ai
 have av:hp∈[3,7,15]:=dx
 simp only[yB]at av
 rcases av with rfl|rfl|rfl
 obtain⟨s,t,j,L,F,hS1065⟩:=ah
 let iV:=(zO.1.cells j)
 have hq:vals 5=(.tuple #[.agg iV.toArray,.bool (zO.2.1),Iv (zO.2.2)]:Value):=ai 5 dc j F
 exact obl rfl (zk (vs:=[.agg iV.toArray,.bool (zO.2.1),Iv (zO.2.2)]) (i:=1) (v:=.bool (zO.2.1)) hq rfl dR)
 obtain⟨s,t,j,J,L,F,Q,hS1067⟩:=ah
 let iW:=(zO.1.cells j)
 have hr:vals 5=(.tuple #[.agg iW.toArray,.bool (zO.2.1),Iv (zO.2.2)]:Value):=ai 5 dc j F
 exact obl rfl (zk (vs:=[.agg iW.toArray,.bool (zO.2.1),Iv (zO.2.2)]) (i:=1) (v:=.bool (zO.2.1)) hr rfl dR)
 obtain⟨s,t,j,J,L,F,Q,hS1069⟩:=ah
 let iX:=(zO.1.cells j)
 have hs:vals 5=(.tuple #[.agg iX.toArray,.bool (zO.2.1),Iv (zO.2.2)]:Value):=ai 5 dc j F
 exact obl rfl (zk (vs:=[.agg iX.toArray,.bool (zO.2.1),Iv (zO.2.2)]) (i:=1) (v:=.bool (zO.2.1)) hs rfl dR)
 intro ht vals w1072 dy aj ak
 have aw:ht∈[3,7,15]:=dy
 simp only[yB]at aw
 rcases aw with rfl|rfl|rfl
 obtain⟨s,t,j,L,F,hS1076⟩:=aj
 let iY:=(zO.1.cells j)
 have hu:vals 5=(.tuple #[.agg iY.toArray,.bool (zO.2.1),Iv (zO.2.2)]:Value):=ak 5 dc j F
 exact obl rfl (zk (vs:=[.agg iY.toArray,.bool (zO.2.1),Iv (zO.2.2)]) (i:=2) (v:=Iv (zO.2.2)) hu rfl dR)
 obtain⟨s,t,j,J,L,F,Q,hS1078⟩:=aj
 let iZ:=(zO.1.cells j)
 have hw:vals 5=(.tuple #[.agg iZ.toArray,.bool (zO.2.1),Iv (zO.2.2)]:Value):=ak 5 dc j F
 exact obl rfl (zk (vs:=[.agg iZ.toArray,.bool (zO.2.1),Iv (zO.2.2)]) (i:=2) (v:=Iv (zO.2.2)) hw rfl dR)
 obtain⟨s,t,j,J,L,F,Q,hS1080⟩:=aj
 let ja:=(zO.1.cells j)
 have hx:vals 5=(.tuple #[.agg ja.toArray,.bool (zO.2.1),Iv (zO.2.2)]:Value):=ak 5 dc j F
 exact obl rfl (zk (vs:=[.agg ja.toArray,.bool (zO.2.1),Iv (zO.2.2)]) (i:=2) (v:=Iv (zO.2.2)) hx rfl dR)
 intro hy vals w1083 dz al hA1084
 have ax:hy∈[0,1,3]:=dz
 simp only[yB]at ax
 rcases ax with rfl|rfl|rfl
 have dB:Sep _ _ _ _:=al
 refine obl rfl ((zt nT ?_))
 intro w1090 J dC
 exact fun u y m=>⟨(exiA J (zv y (dB.new dC))),trivial⟩
 obtain⟨s,t,L,dD⟩:=al
 refine obl rfl ((zt nT ?_))
 intro w1095 J dE
 exact fun u y m=>⟨(exiA s (exiA t (exiA J (zv ((m 0 dc).trans L) (zv y ((dD.new dE).s13_bcadefghijklm)))))),trivial⟩
 obtain⟨s,t,j,L,F,dG⟩:=al
 refine obl rfl ((zt nT ?_))
 intro w1101 J dH
 exact fun u y m=>⟨(exiA s (exiA t (exiA j (exiA J (zv ((m 0 dc).trans L) (zv ((m 4 dc).trans F) (zv y (dG.new dH)))))))),trivial⟩
 intro hz vals w1104 dI dJ dK
 have ay:hz∈[7]:=dI
 simp only[yB]at ay
 subst ay
 obtain⟨s,t,j,J,L,F,Q,am⟩:=dJ
 let fD:=(zO.1.cells j)
 refine obl rfl ?_
 have hA:vals 6=(.agg fD.toArray:Value):=dK 6 dc j F
 refine(zq (v:=.agg fD.toArray) (c':=fD.toArray) kT Q hA (am.b0) (ye ⟨rfl,rfl,rfl,(am.depSl (i:=4) rfl).one,rfl,rfl,rfl,rfl,rfl,rfl,trivial⟩) yqc rfl ?_)
 intro w1110 dL
 exact fun u y m=>⟨(exiA s (exiA t (exiA j (exiA J (zv ((m 0 dc).trans L) (zv ((m 4 dc).trans F) (zv ((m 9 dc).trans Q) (am.pt0 dL)))))))),trivial⟩
 intro vals w1125 dM dN
 obtain⟨s,t,j,J,L,F,Q,dO⟩:=dM
 have hB:=dN 12 dc
 refine zZ (kv:=[(0,.bool false),(15,.agg #[(Iy bJ 1 1),Iz]),(16,.tuple #[Ix A 0,Ix B 0]),(14,.tuple #[Ix A 0,Ix B 0]),(17,Ix A 0),(18,Ix B 0),(1,Ix A 0),(2,Ix B 0),(19,Ix A 0),(20,.bool false),(21,.bool false),(22,Ix B 0),(23,.bool false),(24,.bool false),(25,.agg (kX154.cells).toArray),(3,Ix Z 0),(4,Ix C 0),(5,.bool (zD.2.1)),(6,Iv (zD.2.2)),(35,Ix Z 5),(9,Iv (zL.2.2)),(45,Ix Z 5),(46,Ix Z 4),(12,Iv (zO.2.2))]) ⟨rfl,rfl,rfl,rfl,rfl,rfl,rfl,rfl,rfl,rfl,rfl,rfl,rfl,rfl,rfl,rfl,rfl,rfl,rfl,rfl,rfl,rfl,rfl,(by exact hB),trivial⟩ (fun ρw1125=>?_)
 refine zd (za (yx (by kernel_rfl) (fun _=>(st (zP (parts':=[(0,Iv 1),(1,Iv 1)]) (v:=.agg #[Iv 1,Iv 1]) rfl (by simp+zetaDelta [Instr.build,Instr.fill,Ev.cells,go_sem,Mv.cells,Fld.cells,Typ.cells,Prj.cells,Dcl.cells,Cel.cells,AskR.cells,CelS.cells,Ev.cells,Ent.cells,Sta.cells,Cmd.cells]) (st (zY (k:=1) (parts':=[(0,Iv 0),(1,Iv 0)]) (c:=#[Iv 0,Iv 0]) Tryz.underlying39 mR Tryz.zeroValue3 (by decide) rfl (by kernel_rfl) ?_)))))))
 intro w1132 aa dP
 let iS:=((⟨1,1,11,[0,0],0,0,0,1,3,7⟩:Ev).cells (Iy aa 2 2))
 have bG:Sep _ _ ((RowE (α:=Int) own 3 (Iy aa 2 2) [0,0])::_) _:=Sep.blkRow (src:=own) (l:=[0,0]) (css:=[[Iv 0],[Iv 0]]) (dO.new dP) rfl ⟨fun _ _=>⟨rfl,(by decide)⟩,fun _ _=>⟨rfl,(by decide)⟩,trivial⟩ yqa (show 2≤maxLen by decide)
 have dQ:=bG.r0
 have hr1135s:_*8≤_:=dQ.2
 have dS:Ev.Ok (⟨1,1,11,[0,0],0,0,0,1,3,7⟩:Ev):=⟨(show InR (1)from dc),(show InR (1)from dc),(show InR (11)from dc),(show InR (0)from dc),(show InR (0)from dc),(show InR (0)from dc),(show InR (1)from dc),(show InR (3)from dc),(show InR (7)from dc)⟩
 refine st (zP (parts':=[(0,.agg #[Iv 1,Iv 1]),(1,Iv 11),(2,(Iy aa 2 2)),(6,Iv 1),(7,Iv 3),(8,Iv 7)]) (v:=.agg iS.toArray) rfl (by simp+zetaDelta [Instr.build,Instr.fill,Ev.cells,go_sem,Mv.cells,Fld.cells,Typ.cells,Prj.cells,Dcl.cells,Cel.cells,AskR.cells,CelS.cells,Ev.cells,Ent.cells,Sta.cells,Cmd.cells]) (st (zt nT ?_)))
 intro w1139 b1138 dU
 have bH:=bG.new dU
 refine stn (zq (v:=.agg iS.toArray) (c':=iS.toArray) kT rfl rfl (bH.b0) (ye ⟨rfl,rfl,rfl,rfl,rfl,rfl,rfl,rfl,rfl,rfl,trivial⟩) yqc rfl ?_)
 intro w1141 dV
 have an:=bH.pt0 dV
 refine zd (za (zz kr (st (mV (.bool (zD.2.1)) (st (mV (.bool (zD.2.1)) ?_))))))
 have cM:(zD.2.1)=true:=yqf
 rw[cM]
 refine sty rfl rfl (mV (Iv (zD.2.2)) (sty rfl rfl (yc (k:=.i64) (a:=zD.2.2) (b:=0) rfl rfl ?_)))
 have cN:(decide ((zD.2.2)=0))=true:=yqf
 rw[cN]
 refine st (yj (v:=.bool true) rfl rfl (st (mV (.bool true) (sty rfl rfl (zf (k:=10) oT kT rfl rfl (CellsAt.all (an.b10)) (sty rfl rfl (zf (k:=10) oT kT rfl rfl (CellsAt.all (an.b0)) ?_)))))))
 obtain⟨G1147,dW,hB1150,dX,dY⟩:=(an.mv12).lend
 have bI:=DepO.rd dW
 have hsm1154:(zD.1.deps).length*8≤140737488355328:=bI.small
 obtain⟨G1156,dZ,ea,eb,ec⟩:=(dX.mv1).lend
 have az:=RowE.rd dZ
 have hrd1162s:_*8≤_:=az.small
 refine sty rfl rfl (cL Tryz.call17 (ZG (a:=zD.1) (b:=(⟨1,1,11,[0,0],0,0,0,1,3,7⟩:Ev)) (RdS.base bI ea) (Jt (by constructor<;>decide) dc dc (fun _ h=>absurd h List.not_mem_nil) dc) az dS eb) ?_)
 rintro _ hC ⟨rfl,ed⟩
 have ee:=ec _ _ ed
 have ef:=dY _ _ ee
 have cO:(decide ((zD.1)=(⟨1,1,11,[0,0],0,0,0,1,3,7⟩:Ev)))=true:=yqf
 rw[cO]
 refine st (yj (v:=.bool true) rfl rfl (st (mV (.bool true) (sty rfl rfl (mV (Iv (zL.2.2)) (sty rfl rfl (yc (k:=.i64) (a:=zL.2.2) (b:=11) rfl rfl ?_)))))))
 have cP:(decide ((zL.2.2)=11))=true:=yqf
 rw[cP]
 refine st (yj (v:=.bool true) rfl rfl (st (mV (.bool true) (sty rfl rfl (mV (Iv (zO.2.2)) (sty rfl rfl (yc (k:=.i64) (a:=zO.2.2) (b:=10) rfl rfl ?_)))))))
 have cQ:(decide ((zO.2.2)=10))=true:=yqf
 rw[cQ]
 refine st (yj (v:=.bool true) rfl rfl (st (aS (.bool true) (zd (zj (zK Tryz.results7 (show _=(.bool true:Value)from rfl) ?_))))))
 have eg:Sep G W Rs hC:=ef.sel 15 [] (Nat.le_add_left _ _) rfl rfl
 refine⟨rfl,eg⟩
section
variable {d:Dcl}{n:Nat}{L:List Ev}{V:List Ent}{o start lam:Int}{c:Cmd}
end
theorem Sep.setOks {G:Nat→Prop}{W w:World}{As:List HP}{b n:Nat}{L:List Ev}(h:Sep G W As w){i:Nat}(hi:As[i]? =some (SetO b n L))(hid:(L.map idE).Nodup): ∀e∈L,e.Ok:=by
 obtain⟨f,hA,_⟩:=h.get hi
 obtain⟨vv,m,R,_,_,hr⟩:=SetO.sh hA
 exact zaN hr hid
end
section
set_option maxRecDepth 8000
set_option maxHeartbeats 4000000
open Go.Proofs Go.RowKit
section
variable {d:Dcl}{n:Nat}{L:List Ev}{V:List Ent}{o start:Int}{c f r:Cmd}
end
end
section
set_option maxRecDepth 8000
set_option maxHeartbeats 4000000
open Go.Proofs Go.RowKit
section
variable {d:Dcl}{n:Nat}{L:List Ev}{V:List Ent}{o start lam:Int}{c:Cmd}
theorem Kb (hm:(exR d n L V o start c).2.1=true):xj d c=0∧(yP L c.ckey).isSome=false∧xC c ((yd (c.ctyp,c.cagg) V:Nat):Int)=0∧yX (xN d c.ctyp) (zQ d (c.ctyp,c.cagg) V) c.cfield c.cop c.carg=0∧evN o (zr n L) (max (zS L) start)=0∧exR d n L V o start c=(evY c o (zr n L) (max (zS L) start),true,0):=by
 by_cases h:xj d c=0
 ·cases hk:(yP L c.ckey).isSome with
  |true=>rw[VH h hk]at hm;cases hm
  |false=>
   by_cases hx:xC c ((yd (c.ctyp,c.cagg) V:Nat):Int)=0
   ·by_cases h2:yX (xN d c.ctyp) (zQ d (c.ctyp,c.cagg) V) c.cfield c.cop c.carg=0
    ·have h3:=Qs (n:=n) (o:=o) (start:=start) h hk hx h2
     rw[h3]at hm
     have h4:=of_decide_eq_true hm
     refine⟨h,rfl,hx,h2,h4,?_⟩
     rw[h3,h4]
     unfold evE
     rw[if_pos h4]
     rfl
    ·rw[Qa h hk hx h2]at hm;cases hm
   ·rw[Ql h hk hx]at hm;cases hm
 ·rw[Qq h]at hm;cases hm
theorem VP {v:List Int}(h:evN o v lam=0):0≤o∧o<v.length∧0≤lam∧yt v o≠9223372036854775807∧lam≠9223372036854775807:=by
 unfold evN at h
 split at h
 ·cases h
 rename_i h1
 split at h
 ·cases h
 rename_i h2
 simp only[Bool.or_eq_true,decide_eq_true_eq,not_or]at h1 h2
 exact⟨by omega,by omega,by omega,h2.1,h2.2⟩
theorem JH {i:Nat}(h:i<n):yt (zr n L) (i:Int)=((xM L i:Nat):Int):=by
 unfold yt
 rw[xl,if_neg (by omega),Int.toNat_natCast,WR h]
 omega
theorem Vd {v:List Int}:(evY c o v lam).deps.length=v.length:=by
 show(zT v []).length=_
 rw[YO]
 exact Nat.max_eq_left (Nat.zero_le _)
theorem XD {i:Nat}(h:i<n):(evY c o (zr n L) lam).deps.getD i 0=((xM L i:Nat):Int):=by
 show(zT (zr n L) []).getD i 0=_
 rw[Vs (by rw[xl];exact Nat.lt_of_lt_of_le h (Nat.le_max_left ..)),JH h]
 have:yt [] ((i:Nat):Int)=0:=by unfold yt;rw[if_pos (.inr (by simp))]
 omega
theorem KH (h:xj d c=0):0≤c.cagg∧0≤c.ckey∧ -1≤c.expect:=by
 unfold xj at h
 split at h
 ·cases h
 rename_i h1
 simp only[Bool.or_eq_true,decide_eq_true_eq,not_or]at h1
 omega
theorem KZ (hd:DclOk d)(h:xj d c=0)(hN:evN o (zr n L) lam=0):yv (evY c o (zr n L) lam) n=0:=by
 obtain⟨p1,p2,_⟩:=KH h
 obtain⟨f1,f2,f3⟩:=Yx (YD h)
 obtain⟨e1,e2,e3,e4,e5⟩:=VP hN
 rw[xl]at e2
 have hg:0≤yt (zr n L) o:=(Vq o).1
 have hneg:YG (evY c o (zr n L) lam).deps=false:=by
  rw[negL_iff]
  intro i hi
  rw[Vd,xl]at hi
  rw[XD hi]
  omega
 have hty:=hd.few
 have hfl:=(hd.typ c.ctyp.toNat (by omega)).few
 have hlo:=f3.lo
 have hhi:=f3.hi
 have hop:1≤c.cop∧c.cop≤5:=by rcases f3.kind with h|h|h|h<;>omega
 unfold yv
 rw[hneg,Vd,xl]
 have hq:(evY c o (zr n L) lam).deps.getD o.toNat 0=yt (zr n L) o:=by
  rw[XD (show o.toNat<n by omega),←JH (show o.toNat<n by omega),show((o.toNat:Nat):Int)=o by omega]
 rw[if_neg,if_neg,if_neg,if_neg]
 ·simp only[Bool.or_eq_true,decide_eq_true_eq,not_or]
  show(¬min c.ctyp c.cfield<0∧ ¬8≤c.ctyp)∧ ¬8≤c.cfield
  omega
 ·simp only[Bool.or_eq_true,decide_eq_true_eq,not_or]
  show ¬c.cop<1∧ ¬5<c.cop
  omega
 ·show ¬(!decide ((evY c o (zr n L) lam).deps.getD o.toNat 0=yt (zr n L) o+1-1))=true
  rw[hq,decide_eq_true (show yt (zr n L) o=yt (zr n L) o+1-1 by generalize yt (zr n L) o=z;omega)]
  decide
 ·simp only[Bool.or_eq_true,decide_eq_true_eq,not_or,Bool.not_eq_true',decide_eq_false_iff_not,Bool.false_eq_true,not_false_eq_true,not_true_eq_false,and_true,Decidable.not_not]
  show((¬o<0∧ ¬((n:Nat):Int)≤o)∧ ¬min (yt (zr n L) o+1) (lam+1)<1)∧ ¬min c.cagg c.ckey<0
  refine⟨⟨⟨by omega,by omega⟩,by omega⟩,by omega⟩
theorem UL: ∀{L:List Ev} {x:Ev},x∈L→x.lam≤zS L
 |y::L,x,h=>by
  show _≤max (zS L) y.lam
  rcases List.mem_cons.1 h with rfl|h
  ·omega
  ·have:=UL h;omega
theorem VO {e:Ev}: ∀{L:List Ev},(∀x∈L,x.lam<e.lam)→Zb e L=L++[e]
 |[],_=>rfl
 |y::L,h=>by
  have h1:=h y (List.mem_cons_self ..)
  show(if ltE e y=true then _ else _)=_
  rw[if_neg,VO (fun x hx=>h x (List.mem_cons_of_mem _ hx)),List.cons_append]
  rw[UD,xz]
  omega
theorem Good.low (h:Good n L){x:Ev}(hx:x∈L){i:Nat}(hi:i<n):x.deps.getD i 0≤((xM L i:Nat):Int):=by
 have hk:=h.knw x hx i hi
 rw[Yl]at hk
 rcases hk with hk|⟨z,hz,_,_⟩
 ·omega
 ·obtain⟨h1,h2,h3⟩:=ZL hz
  have:=h.seqle z h1
  rw[h2,h3]at this
  simpa using this
theorem JY (hG:Good n L)(hd:DclOk d)(h:xj d c=0)(hN:evN o (zr n L) (max (zS L) start)=0):xT n L (evY c o (zr n L) (max (zS L) start))=0:=by
 obtain⟨e1,e2,e3,e4,e5⟩:=VP hN
 rw[xl]at e2
 obtain⟨q,rfl⟩: ∃q:Nat,o=q:=⟨o.toNat,by omega⟩
 have hq:q<n:=by omega
 have hv:=JH (L:=L) hq
 refine Jw (KZ hd h hN) ?_ ?_ fun i hi=>?_
 ·show(ym L ((q:Int),yt (zr n L) q+1)).isSome=false
  rw[hv]
  cases hb:(ym L ((q:Int),((xM L q:Nat):Int)+1)).isSome with
  |false=>rfl
  |true=>
   obtain⟨x,_,hx,hid⟩:=WB hb
   have h1:x.origin=q:=congrArg Prod.fst hid
   have h2:x.seq=((xM L q:Nat):Int)+1:=congrArg Prod.snd hid
   have:=hG.seqle x hx
   rw[h1]at this
   simp only[Int.toNat_natCast]at this
   omega
 ·show yt (zr n L) q+1=((xM L ((q:Int)).toNat:Nat):Int)+1
  rw[hv]
  simp
 ·rw[Yl,XD hi]
  by_cases h0:((xM L i:Nat):Int)=0
  ·exact .inl h0
  ·obtain⟨x,hx,hxm,hid⟩:=WB (hG.fill i ((xM L i:Nat):Int) (by omega) (Int.le_refl _))
   refine .inr ⟨x,hx,?_,fun j hj=>?_⟩
   ·have:=UL hxm
    show x.lam<max (zS L) start+1
    omega
   ·have hj':j<n:=by rw[hG.len x hxm]at hj;exact hj
    rw[XD hj']
    exact hG.low hxm hj'
theorem zbA {l:List Ev}: ∀x∈zw d l,x.ev∈l:=by
 induction l using Xc with
 |h0=>exact fun x hx=>absurd hx List.not_mem_nil
 |h1 l e ih=>
  intro x hx
  rw[xE]at hx
  rcases List.mem_append.1 hx with h|h
  ·exact List.mem_append_left _ (ih x h)
  ·rw[List.mem_singleton.1 h];exact List.mem_append_right _ (List.mem_singleton.2 rfl)
theorem zao (hG:Good n L)(hV:V=zw d L)(h:xj d c=0)(hm:yX (xN d c.ctyp) (zQ d (c.ctyp,c.cagg) V) c.cfield c.cop c.carg=0):yp d V (evY c o (zr n L) lam)=(false,0,0):=by
 have hf:xc d c.ctyp c.cfield c.cop c.carg=0:=YD h
 unfold yp
 rw[if_neg (fun h9=>h9 hf),List.find?_eq_none.2 fun x hx=>?_]
 ·exact if_neg (fun h9=>h9 hm)
 ·unfold yf at hx
  obtain⟨y,hy,rfl⟩:=List.mem_map.1 hx
  have hyL:y.ev∈L:=zbA y (hV▸(List.mem_filter.1 hy).1)
  have ho:=hG.org hyL
  have hlt:y.ev.origin.toNat<n:=by have:=(xU (hG.chk _ hyL)).1;omega
  have hb:YL y.ev (evY c o (zr n L) lam)=true:=by
   unfold YL
   rw[decide_eq_true_eq]
   have h1:=hG.seqle _ hyL
   unfold yt
   rw[Vd,xl,if_neg (by omega),XD hlt]
   omega
  unfold xo ZA
  rw[hb]
  simp
theorem JB {e:Ev}{key:Int}(hn:(yP L key).isSome=false)(h0:key≠0)(h1:e.key=key):yP (L++[e]) key=some e:=by
 unfold yP at hn⊢
 rw[List.find?_append,show L.find? (Zk key)=none from Option.not_isSome_iff_eq_none.1 (by rw[hn];decide)]
 have:Zk key e=true:=by unfold Zk;rw[decide_eq_false h0,decide_eq_true h1];rfl
 simp[this]
theorem Kt {e:Ev}(hG:Good n L)(hd:DclOk d)(hm:(exR d n L (zw d L) o start c).2.1=true)(he:(exR d n L (zw d L) o start c).1=e):(0≤c.ctyp∧c.ctyp<d.types.length∧Fits (d.types.getD c.ctyp.toNat default) c.cfield c.cop c.carg)∧xC c ((yd (c.ctyp,c.cagg) (zw d L):Nat):Int)=0∧xT n L e=0∧addL n L e=L++[e]∧(yE d (zw d L) e).void=false∧start<e.lam∧e.origin=o∧
 yd (c.ctyp,c.cagg) (zw d (L++[e]))=yd (c.ctyp,c.cagg) (zw d L)+1∧zQ d (c.ctyp,c.cagg) (zw d (L++[e]))=doL (xN d c.ctyp) (zQ d (c.ctyp,c.cagg) (zw d L)) c.cfield c.cop c.carg∧Good n (L++[e])∧
 (¬c.ckey=0→exR d n (L++[e]) (zw d (L++[e])) o start c=(e,false,0)):=by
 obtain⟨h1,h2,h3,h4,h5,h6⟩:=Kb hm
 have hadd:=JY (start:=start) hG hd h1 h5
 rw[h6]at he
 replace he:evY c o (zr n L) (max (zS L) start)=e:=he
 have hent:yE d (zw d L) e=⟨e,false,0,0⟩:=by
  unfold yE
  rw[←he,zao hG rfl h1 h4]
 have hon:onL (c.ctyp,c.cagg) (⟨e,false,0,0⟩:Ent)=true:=by
  rw[←he]
  unfold onL
  show(!false&&decide (c.ctyp=c.ctyp∧c.cagg=c.cagg))=true
  simp
 rw[he]at hadd
 have hL:addL n L e=L++[e]:=by
  unfold addL
  rw[if_pos hadd]
  refine VO fun x hx=>?_
  have:=UL hx
  rw[←he]
  show x.lam<max (zS L) start+1
  omega
 refine⟨Yx (YD h1),h3,hadd,hL,by rw[hent],?_,by rw[←he];rfl,?_,?_,hL▸hG.addL,fun h7=>?_⟩
 ·rw[←he]
  show start<max (zS L) start+1
  omega
 ·rw[xE,hent,ZW,if_pos hon]
 ·rw[xE,hent,xI,if_pos hon,←he]
  rfl
 ·have hk:=JB (e:=e) h2 h7 (by rw[←he];rfl)
  rw[VH h1 (by rw[hk];rfl),hk]
  rfl
theorem Jr (h: ¬((exR d n L V o start c).2.2=0∧(exR d n L V o start c).2.1=true)): ¬(exR d n L V o start c).2.2=0∨ ¬c.ckey=0∧(exR d n L V o start c).1.key=c.ckey:=by
 by_cases h1:xj d c=0
 ·cases hk:(yP L c.ckey).isSome with
  |true=>
   obtain⟨e,he⟩:=Option.isSome_iff_exists.1 hk
   have h2:=List.find?_some he
   rw[VH h1 hk,he]
   unfold Zk at h2
   simp only[Bool.and_eq_true,Bool.not_eq_true',decide_eq_false_iff_not,decide_eq_true_eq]at h2
   exact .inr h2
  |false=>
   by_cases hx:xC c ((yd (c.ctyp,c.cagg) V:Nat):Int)=0
   ·by_cases h2:yX (xN d c.ctyp) (zQ d (c.ctyp,c.cagg) V) c.cfield c.cop c.carg=0
    ·rw[Qs h1 hk hx h2]at h⊢
     exact .inl fun h9=>h ⟨h9,decide_eq_true h9⟩
    ·rw[Qa h1 hk hx h2];exact .inl h2
   ·rw[Ql h1 hk hx];exact .inl hx
 ·rw[Qq h1];exact .inl h1
theorem Jj {v:Int}(h:xC c v=0):(!decide (c.expect= -1)&& !decide (c.expect=v))=false:=by
 unfold xC at h
 split at h
 ·rename_i h1
  rw[Bool.or_eq_true]at h1
  rcases h1 with h1|h1<;>rw[h1]<;>simp
 ·cases h
end
end
section
set_option maxRecDepth 8000
set_option maxHeartbeats 4000000
open Go.Proofs Go.RowKit
theorem Ja {a b:Cel}(h1:a.n=b.n)(h2:a.set=b.set):a=b:=by cases a;cases b;simp_all
theorem JZ {a b:Sta}(h1:a.ver=b.ver)(h2:a.cls=b.cls):a=b:=by cases a;cases b;simp_all
theorem VE {G:Nat→Prop}{W w:World}{Rs:List HP}{x:Sta}{dx0:Value}(hdx0:RdS W G dx0 x.cls)(ox:x.Ok){y:Sta}{dy0:Value}(hdy0:RdS W G dy0 y.cls)(oy:y.Ok)(hS0:Sep G W Rs w):Ret Tryz.prog 19 [.agg (x.cells dx0).toArray,.agg (y.cells dy0).toArray] w (fun r w'=>r=(.bool (decide (x=y)):Value)∧Sep G W Rs w'):=by
 let bx:=((x.cls.length:Nat):Int)
 have hdx0s:_*32≤_:=hdx0.small
 have hdy0s:_*32≤_:=hdy0.small
 refine zi (args:=[.agg (x.cells dx0).toArray,.agg (y.cells dy0).toArray]) Tryz.func19 rfl rfl ?_
 refine za (R0 fun _=>st (zN (v:=.agg (x.cells dx0).toArray) rfl ?_))
 intro w3 b2 bq
 refine st (zN (v:=.agg (y.cells dy0).toArray) rfl ?_)
 intro w7 O br
 have J:=(hS0.new bq).new br
 refine st (aS (.bool false) (zd (za (za (zz kr (st (ZS rfl (st (lD (Iv (x.ver)) pT rfl (zb (J.b1) rfl) (st (ZS rfl (st (lD (Iv (y.ver)) pT rfl (zb (J.b0) rfl) (st (yh (k:=.i64) (a:=x.ver) (b:=y.ver) rfl rfl (st (mV (.bool (!decide (x.ver=y.ver))) (stc (V:=Ix b2 1) rfl rfl (fun bs=>?_) ?_))))))))))))))))))
 have hl10:=zu bs
 exact yY rfl ⟨rfl,rfl⟩
 refine stc (V:=dx0) rfl rfl (fun aq=>?_) ?_
 have hl12:=zu aq
 exact lD dx0 rT (if_pos aq) (zb (J.b1) rfl) ⟨rfl,rfl⟩
 refine stc (V:=Iw x.cls.length) rfl rfl (fun ar=>?_) ?_
 have hl14:=zu ar
 exact zR (n:=x.cls.length) sT (if_pos ar) hdx0.sl ⟨rfl,rfl⟩
 refine stc (V:=Ix O 1) rfl rfl (fun bm=>?_) ?_
 have hl16:=zu bm
 exact yY rfl ⟨rfl,rfl⟩
 refine stc (V:=dy0) rfl rfl (fun au=>?_) ?_
 have hl18:=zu au
 exact lD dy0 rT (if_pos au) (zb (J.b0) rfl) ⟨rfl,rfl⟩
 refine stc (V:=Iw y.cls.length) rfl rfl (fun av=>?_) ?_
 have hl20:=zu av
 exact zR (n:=y.cls.length) sT (if_pos av) hdy0.sl ⟨rfl,rfl⟩
 refine stc (V:=.bool (!decide (bx=((y.cls.length:Nat):Int)))) rfl rfl (fun P=>?_) ?_
 have hl22:=zu P
 exact yh (k:=.i64) (a:=bx) (b:=((y.cls.length:Nat):Int)) (if_pos P) (if_pos P) ⟨rfl,rfl⟩
 refine st (zp (b:= !decide (x.ver=y.ver)) (b':= !decide (bx=((y.cls.length:Nat):Int))) rfl (fun hbp=>(if_pos hbp)) (zd ?_))
 cases Q:(!decide (x.ver=y.ver))||(!decide (((x.cls.length:Nat):Int)=((y.cls.length:Nat):Int)))
 try simp only[ze]at Q
 refine zg rfl (zl (za (za (R0 fun _=>st (aS (Iv 0) (zd (zx (yq (fun mq σ wq=> ∃(k:Nat) (ρ:Env),mq=x.cls.length-k∧σ=yi ρ [(2,Ix b2 0),(3,Ix O 0),(5,Iw k)]∧(k≤x.cls.length)∧(∀i,i<k→x.cls.getD i default=y.cls.getD i default)∧Sep G W ((Blk O (y.cells dy0).toArray 47)::(Blk b2 (x.cells dx0).toArray 47)::Rs) wq) ⟨0,_,rfl,sSf,Nat.zero_le _,(fun i h=>absurd h (Nat.not_lt_zero i)),J⟩ ?_))))))))
 rintro m25 σ26 w24 ⟨k,ρl1,rfl,rfl,hkk,hm,R⟩
 let bw:=zI W (sb dy0) (so dy0+k*2+1)
 let bv:=zI W (sb dx0) (so dx0+k*2+1)
 let bu:=((x.cls.getD k default).set)=((y.cls.getD k default).set)
 let aw:=((x.cls.getD k default).n)=((y.cls.getD k default).n)
 refine za (za (R0 fun _=>st (mV (Iw k) (st (yY rfl (st (lD dx0 rT rfl (zb (R.b1) rfl) (st (zR (n:=x.cls.length) sT rfl hdx0.sl (st (zJ (k:=.i64) (a:=((k:Nat):Int)) (b:=bx) rfl rfl (zd ?_))))))))))))
 cases K:decide (((k:Nat):Int)<((x.cls.length:Nat):Int))
 have K:=fD K
 refine zg rfl (yr (yg (za (R0 fun _=>st (aS (.bool true) (zd (zj (zK pR (show _=(.bool true:Value)from rfl) ?_))))))))
 refine⟨?_,(R.s2_)⟩
 rw[decide_eq_true (JZ (by omega) (Vr (by omega) (fun i hi=>hm i (by omega))))]
 have K:=tD K
 refine zh rfl (zl (za (zx (za ?_))))
 refine WD4 ((fun TT bl=>WF [fun vals wq=>Sep G W (bl::TT) wq,fun vals wq=>(vals 26=(if(!decide aw)=false then(.bool (decide bu):Value)else undef))∧Sep G W (bl::TT) wq]) ((Blk b2 (x.cells dx0).toArray 47)::Rs) (Blk O (y.cells dy0).toArray 47)) (AF [Vl 0 (Ix b2 1),Vl 1 (dx0),Vl 2 (Iw k),Vl 3 (Ix (sb dx0) (so dx0+k*2)),Vl 4 (Ix (sb dx0) (so dx0+k*2)),Vl 5 (Iv ((x.cls.getD k default).n)),Vl 6 (Ix O 1),Vl 7 (dy0),Vl 8 (Iw k),Vl 9 (Ix (sb dy0) (so dy0+k*2)),Vl 10 (Ix (sb dy0) (so dy0+k*2)),Vl 11 (Iv ((y.cls.getD k default).n)),Vl 12 (.bool (!decide aw)),Vl 13 (.bool (!decide aw)),Vl 14 (if(!decide aw)=false then Ix b2 1 else undef),Vl 15 (if(!decide aw)=false then dx0 else undef),Vl 16 (if(!decide aw)=false then Iw k else undef),Vl 17 (if(!decide aw)=false then Ix (sb dx0) (so dx0+k*2)else undef),Vl 18 (if(!decide aw)=false then Ix (sb dx0) (so dx0+k*2+1)else undef),Vl 19 (if(!decide aw)=false then bv else undef),Vl 20 (if(!decide aw)=false then Ix O 1 else undef),Vl 21 (if(!decide aw)=false then dy0 else undef),Vl 22 (if(!decide aw)=false then Iw k else undef),Vl 23 (if(!decide aw)=false then Ix (sb dy0) (so dy0+k*2)else undef),Vl 24 (if(!decide aw)=false then Ix (sb dy0) (so dy0+k*2+1)else undef),Vl 25 (if(!decide aw)=false then bw else undef),fun _=>True,Vl 27 (if(!decide aw)=false then .bool (!(decide bu))else undef),Vl 28 (.bool ((!decide aw)||(!(decide bu))))]) [[],[0],[],[0,1,2],(rg 4),(rg 5),[],[6],[],[6,7,8],[6,7,8,9],[6,7,8,9,10],(rg 12),(rg 13),(rg 14),(rg 15),(rg 14),(rg 17),(rg 18),(rg 19),(rg 14),[0,1,2,3,4,5,6,7,8,9,10,11,12,13,20],(rg 14),[0,1,2,3,4,5,6,7,8,9,10,11,12,13,20,21,22],[0,1,2,3,4,5,6,7,8,9,10,11,12,13,20,21,22,23],[0,1,2,3,4,5,6,7,8,9,10,11,12,13,20,21,22,23,24],(rg 26),(rg 27),(rg 28)] [26] [(0,0),(0,0),(0,0),(0,0),(0,0),(0,0),(0,0),(0,0),(0,0),(0,0),(0,0),(0,0),(0,0),(0,0),(0,0),(0,0),(0,0),(0,0),(0,0),(0,0),(0,0),(0,0),(0,0),(0,0),(0,0),(0,0),(0,0),(1,1),(1,1)] R ⟨fun _ _ _ _ _ _ _=>obl rfl (yY rfl dR),ob1 0 fun _ _ (aH:Sep _ _ _ _) aI=>obl rfl (lD dx0 rT (aI 0 dc) (zb (aH.b1) rfl) dR),fun _ _ _ _ _ _ _=>obl rfl (mV (Iw k) dR),?_,fun _ _ _ _ _ _ aJ=>obl rfl (Zv (aJ 3 dc) dR),?_,fun _ _ _ _ _ _ _=>obl rfl (yY rfl dR),ob1 0 fun _ _ (aK:Sep _ _ _ _) aL=>obl rfl (lD dy0 rT (aL 6 dc) (zb (aK.b0) rfl) dR),fun _ _ _ _ _ _ _=>obl rfl (mV (Iw k) dR),?_,fun _ _ _ _ _ _ aM=>obl rfl (Zv (aM 9 dc) dR),?_,ob1 0 fun _ _ _ Y=>obl rfl (yh (k:=.i64) (a:=(x.cls.getD k default).n) (b:=(y.cls.getD k default).n) (Y 5 dc) (Y 11 dc) dR),fun _ _ _ _ _ _ aN=>obl rfl (zV (v:=.bool (!decide aw)) (aN 12 dc) dR),?_,?_,?_,?_,?_,?_,?_,?_,?_,?_,?_,?_,?_,?_,fun _ _ _ _ _ _ Z=>obl rfl (zp (b:= !decide aw) (b':= !(decide bu)) (Z 13 dc) (fun hbp=>(Eq.trans (Z 27 dc) (if_pos hbp))) dR),trivial⟩ ?_
 refine ob1 0 fun _ _ _ aa=>(obl rfl ?_)
 have aO:k<x.cls.length:=bo
 exact zm (k:=2) (i:=k) sT nR (aa 1 dc) hdx0.sl (aa 2 dc) aO dR
 refine ob1 0 fun _ _ (aP:Sep _ _ _ _) aQ=>(obl rfl ?_)
 have ab:k<x.cls.length:=bo
 obtain⟨ax,S,hoke364⟩:=hdx0.celD ab
 have hsm366:((x.cls.getD k default).set).length*8≤140737488355328:=S.small
 have ay:=aP.cells ax (hdx0.foot (ne_of_lt ab))
 exact lD (Iv ((x.cls.getD k default).n)) pT (aQ 4 dc) (ay.get (j:=0) rfl) dR
 refine ob1 0 fun _ _ _ ac=>(obl rfl ?_)
 have aR:k<y.cls.length:=bo
 exact zm (k:=2) (i:=k) sT nR (ac 7 dc) hdy0.sl (ac 8 dc) aR dR
 refine ob1 0 fun _ _ (aT:Sep _ _ _ _) aU=>(obl rfl ?_)
 have ad:k<y.cls.length:=bo
 obtain⟨az,T,hoke413⟩:=hdy0.celD ad
 have hsm415:((y.cls.getD k default).set).length*8≤140737488355328:=T.small
 have aA:=aT.cells az (hdy0.foot (ne_of_lt ad))
 exact lD (Iv ((y.cls.getD k default).n)) pT (aU 10 dc) (aA.get (j:=0) rfl) dR
 refine fun _ _ _ _ _ _ aV=>(zX rfl rfl (aV 13 dc) (fun B=>?_) (fun B=>fun c d _=>⟨trivial,d.trans (if_neg B).symm⟩))
 have hl441:=zu B
 exact yY rfl (fun c d _=>⟨rfl,d.trans (if_pos B).symm⟩)
 refine ob1 0 fun _ _ (aW:Sep _ _ _ _) ae=>(zX rfl rfl (ae 13 dc) (fun o=>?_) (fun o=>fun c d _=>⟨trivial,d.trans (if_neg o).symm⟩))
 have hl452:=zu o
 exact lD dx0 rT (Eq.trans (ae 14 dc) (if_pos o)) (zb (aW.b1) rfl) (fun c d _=>⟨rfl,d.trans (if_pos o).symm⟩)
 refine fun _ _ _ _ _ _ aX=>(zX rfl rfl (aX 13 dc) (fun C=>?_) (fun C=>fun c d _=>⟨trivial,d.trans (if_neg C).symm⟩))
 have hl461:=zu C
 exact mV (Iw k) (fun c d _=>⟨rfl,d.trans (if_pos C).symm⟩)
 refine ob1 0 fun _ _ _ L=>(zX rfl rfl (L 13 dc) (fun g=>?_) (fun g=>fun c d _=>⟨trivial,d.trans (if_neg g).symm⟩))
 have hl473:=zu g
 have aY:k<x.cls.length:=bo
 exact zm (k:=2) (i:=k) sT nR (Eq.trans (L 15 dc) (if_pos g)) hdx0.sl (Eq.trans (L 16 dc) (if_pos g)) aY (fun c d _=>⟨rfl,d.trans (if_pos g).symm⟩)
 refine fun _ _ _ _ _ _ af=>(zX rfl rfl (af 13 dc) (fun p=>?_) (fun p=>fun c d _=>⟨trivial,d.trans (if_neg p).symm⟩))
 have hl484:=zu p
 exact xx (Eq.trans (af 17 dc) (if_pos p)) (fun c d _=>⟨rfl,d.trans (if_pos p).symm⟩)
 refine ob1 0 fun _ _ (aZ:Sep _ _ _ _) ag=>(zX rfl rfl (ag 13 dc) (fun q=>?_) (fun q=>fun c d _=>⟨trivial,d.trans (if_neg q).symm⟩))
 have hl495:=zu q
 have ah:k<x.cls.length:=bo
 obtain⟨aB,U,hoke496⟩:=hdx0.celD ah
 have hsm498:((x.cls.getD k default).set).length*8≤140737488355328:=U.small
 have aC:=aZ.cells aB (hdx0.foot (ne_of_lt ah))
 exact lD bv mY (Eq.trans (ag 18 dc) (if_pos q)) (aC.get (j:=1) rfl) (fun c d _=>⟨rfl,d.trans (if_pos q).symm⟩)
 refine fun _ _ _ _ _ _ ba=>(zX rfl rfl (ba 13 dc) (fun D=>?_) (fun D=>fun c d _=>⟨trivial,d.trans (if_neg D).symm⟩))
 have hl508:=zu D
 exact yY rfl (fun c d _=>⟨rfl,d.trans (if_pos D).symm⟩)
 refine ob1 0 fun _ _ (bb:Sep _ _ _ _) ai=>(zX rfl rfl (ai 13 dc) (fun s=>?_) (fun s=>fun c d _=>⟨trivial,d.trans (if_neg s).symm⟩))
 have hl519:=zu s
 exact lD dy0 rT (Eq.trans (ai 20 dc) (if_pos s)) (zb (bb.b0) rfl) (fun c d _=>⟨rfl,d.trans (if_pos s).symm⟩)
 refine fun _ _ _ _ _ _ bc=>(zX rfl rfl (bc 13 dc) (fun E=>?_) (fun E=>fun c d _=>⟨trivial,d.trans (if_neg E).symm⟩))
 have hl528:=zu E
 exact mV (Iw k) (fun c d _=>⟨rfl,d.trans (if_pos E).symm⟩)
 refine ob1 0 fun _ _ _ M=>(zX rfl rfl (M 13 dc) (fun l=>?_) (fun l=>fun c d _=>⟨trivial,d.trans (if_neg l).symm⟩))
 have hl540:=zu l
 have bd:k<y.cls.length:=bo
 exact zm (k:=2) (i:=k) sT nR (Eq.trans (M 21 dc) (if_pos l)) hdy0.sl (Eq.trans (M 22 dc) (if_pos l)) bd (fun c d _=>⟨rfl,d.trans (if_pos l).symm⟩)
 refine fun _ _ _ _ _ _ aj=>(zX rfl rfl (aj 13 dc) (fun t=>?_) (fun t=>fun c d _=>⟨trivial,d.trans (if_neg t).symm⟩))
 have hl551:=zu t
 exact xx (Eq.trans (aj 23 dc) (if_pos t)) (fun c d _=>⟨rfl,d.trans (if_pos t).symm⟩)
 refine ob1 0 fun _ _ (be:Sep _ _ _ _) ak=>(zX rfl rfl (ak 13 dc) (fun u=>?_) (fun u=>fun c d _=>⟨trivial,d.trans (if_neg u).symm⟩))
 have hl562:=zu u
 have al:k<y.cls.length:=bo
 obtain⟨aD,X,hoke563⟩:=hdy0.celD al
 have hsm565:((y.cls.getD k default).set).length*8≤140737488355328:=X.small
 have aE:=be.cells aD (hdy0.foot (ne_of_lt al))
 exact lD bw mY (Eq.trans (ak 24 dc) (if_pos u)) (aE.get (j:=1) rfl) (fun c d _=>⟨rfl,d.trans (if_pos u).symm⟩)
 refine ob1 0 fun vals bn (F:Sep _ _ _ _) N=>(zX rfl rfl (N 13 dc) (fun m=>?_) (fun m c d bt=>?_))
 have hl289:=zu m
 have am:k<x.cls.length:=bo
 obtain⟨aF,H,hoke290⟩:=hdx0.celD am
 have hsm292:((x.cls.getD k default).set).length*8≤140737488355328:=H.small
 have hcw293:=F.cells aF (hdx0.foot (ne_of_lt am))
 have an:k<y.cls.length:=bo
 obtain⟨aG,I,hoke294⟩:=hdy0.celD an
 have hsm296:((y.cls.getD k default).set).length*8≤140737488355328:=I.small
 have hcw297:=F.cells aG (hdy0.foot (ne_of_lt an))
 refine(zG (f:=42) (vals:=[bv,bw]) (cap:=[]) rfl (yK ⟨(Eq.trans (N 19 dc) (if_pos m)),(Eq.trans (N 25 dc) (if_pos m)),trivial⟩) Tryz.call42 (Xv (a:=(x.cls.getD k default).set) (va:=bv) (b:=(y.cls.getD k default).set) (vb:=bw) H I F) ?_)
 rintro _ w298 ⟨rfl,bf⟩
 exact fun c d bt=>⟨(zv (d.trans (if_pos m).symm) bf),trivial⟩
 refine⟨?_,trivial⟩
 show(c 26=(if(!decide aw)=false then(.bool (decide bu):Value)else undef))∧Sep G W ((Blk O (y.cells dy0).toArray 47)::(Blk b2 (x.cells dx0).toArray 47)::Rs) bn
 exact⟨(d.trans (if_neg m).symm),F⟩
 refine ob1 1 fun _ _ bg bh=>?_
 obtain⟨ao,hS573⟩:=bg
 refine zX rfl rfl (bh 13 dc) (fun z=>?_) (fun z=>fun c d _=>⟨trivial,d.trans (if_neg z).symm⟩)
 have hl576:=zu z
 exact yF (a:=decide bu) (Eq.trans ao (if_pos z)) (fun c d _=>⟨rfl,d.trans (if_pos z).symm⟩)
 intro vals w585 bi bj
 obtain⟨ao,ap⟩:=bi
 have bp:=bj 28 dc
 refine zZ (kv:=[(2,Ix b2 0),(3,Ix O 0),(5,Iw k),(20,Iw k),(21,Ix b2 1),(22,dx0),(23,Iw x.cls.length),(24,.bool true),(55,.bool ((!decide aw)||(!(decide bu))))]) ⟨rfl,rfl,rfl,rfl,rfl,rfl,rfl,rfl,(by exact bp),trivial⟩ (fun ρw585=>(zd ?_))
 cases A:(!decide (((x.cls.getD k default).n)=((y.cls.getD k default).n)))||(!(decide (((x.cls.getD k default).set)=((y.cls.getD k default).set))))
 try simp only[ze]at A
 refine zg rfl (zl (R0 fun _=>st (mV (Iw k) ?_)))
 have bk:InR ((k+1:Nat):Int):=bo
 refine st (yb (r:=((k+1:Nat):Int)) (k:=.i64) (a:=((k:Nat):Int)) (b:=1) rfl rfl (by rw[show(((k:Nat):Int)+1:Int)=((k+1:Nat):Int)from bo];exact zM bk) (st (aS (Iw (k+1)) (zd ?_))))
 exact⟨_,by omega,k+1,_,rfl,sSf,by omega,(yV hm (Ja A.1 A.2)),ap⟩
 try simp only[ze]at A
 refine zh rfl (za (R0 fun _=>st (aS (.bool false) (zd (zj (zK pR (show _=(.bool false:Value)from rfl) ?_))))))
 refine⟨?_,(ap.s2_)⟩
 rw[decide_eq_false (fun e=>by subst e;first|omega|(simp at A))]
 try simp only[ze]at Q
 refine zh rfl (za (R0 fun _=>st (aS (.bool false) (zd (zj (zK pR (show _=(.bool false:Value)from rfl) ?_))))))
 refine⟨?_,(J.s2_)⟩
 rw[decide_eq_false (fun e=>by subst e;first|omega|(simp at Q))]
end
end Go.Proofs.YtbbabhaalmkbkaaGreatDoor
