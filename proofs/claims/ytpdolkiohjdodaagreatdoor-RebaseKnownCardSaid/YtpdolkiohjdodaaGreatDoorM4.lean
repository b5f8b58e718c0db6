import Derived.Test.YtpdolkiohjdodaaGreatDoorM3
set_option maxRecDepth 8000
set_option maxHeartbeats 4000000
set_option linter.unusedSimpArgs false
set_option linter.unusedVariables false
set_option linter.unusedSectionVars false
set_option linter.deprecated false
open Go.Proofs.Tryz renaming isAgg3→kT,sizeOf87→lT,underlying81→mT,isAgg22→nT,underlying22→oT,underlying85→pT,isAgg85→qT,sizeOf83→rT,isAgg81→sT,sizeOf90→tT,isAgg53→uT,isAgg87→vT,results29→wT,isAgg184→kR,sizeOf184→lR,call130→mR,results54→nR,underlying46→oR,sizeOf3→pR,isAgg23→qR,underlying23→rR,results28→sR,results53→tR,sizeOf105→uR,sizeOf53→vR,zeroValue179→wR,isAgg83→kY,zeroValue87→lY,sizeOf73→mY,call142→nY,results134→oY,results135→pY,underlying181→qY,underlying3→rY,sizeOf179→sY,results99→tY,results56→uY,call56→vY,isAgg90→wY,zeroValue90→kA,results55→lA,isAgg25→mA,sizeOf25→nA
namespace Go.Proofs.YtpdolkiohjdodaaGreatDoor
variable {G:Nat→Prop}{W w:World}{Rs:List HP}
section
open Go.Proofs Go.RowKit
theorem JW {vl:Value}{l:List Int}{i:Nat}{b:Nat}{x:Int}(hS0:Sep G W ((RowE (α:=Int) own 3 vl l)::(Blk b #[.int .i64 x] 3)::Rs) w)(hi:i≤l.length)(hx:InR x)(hbig:(l.length+1)*8≤140737488355328):Ret Tryz.prog 143 [vl,.int .i64 ((i:Nat):Int),.slice (some ⟨b,0,none⟩) 1 1] w (fun r w'=> ∃(v:Value),r=(v:Value)∧Sep G W ((RowE (α:=Int) own 3 v (l.take i++x::l.drop i))::Rs) w'):=by
 exact Ret.mono (zcv zcZ rfl hS0 hi hx hbig) (fun r w1 h=>⟨r,rfl,h⟩)
theorem zag {vl:Value}{l:List Int}{i:Nat}(hS0:Sep G W ((RowE (α:=Int) own 3 vl l)::Rs) w)(hi:i<l.length):Ret Tryz.prog 144 [vl,.int .i64 ((i:Nat):Int),.int .i64 ((i+1:Nat):Int)] w (fun r w'=> ∃(v:Value),r=(v:Value)∧Sep G W ((RowE (α:=Int) own 3 v (l.take i++l.drop (i+1)))::Rs) w'):=by
 exact Ret.mono (zbM zcQ hS0 hi) (fun r w1 h=>⟨r,rfl,h⟩)
theorem zcX {l:List Int}{i:Nat}{x:Int}(ha:Asc l)(hi:i≤l.length)(hlo: ∀q,q<i→l.getD q 0<x)(hhi: ∀q,i≤q→q<l.length→x≤l.getD q 0)(hn: ¬x∈l):l.take i++x::l.drop i=ZW l x:=by
 have h1: ∀y∈l.take i,y<x:=by
  intro y hy
  obtain⟨q,hq,rfl⟩:=List.getElem_of_mem hy
  rw[List.length_take]at hq
  have:=hlo q (by omega)
  rw[zJ _ (by omega)]at this
  rw[List.getElem_take];exact this
 have h2: ∀y∈l.drop i,x<y:=by
  intro y hy
  obtain⟨q,hq,rfl⟩:=List.getElem_of_mem hy
  rw[List.length_drop]at hq
  have:=hhi (i+q) (by omega) (by omega)
  rw[zJ _ (by omega)]at this
  rw[List.getElem_drop]
  have hne:l[i+q]≠x:=fun e=>hn (e▸List.getElem_mem _)
  omega
 unfold ZW
 rw[if_neg hn]
 have e1:l.filter (fun y=>decide (y<x))=l.take i:=by
  conv=>lhs;rw[←List.take_append_drop i l]
  rw[List.filter_append,List.filter_eq_self.2 (fun y hy=>by simpa using h1 y hy),List.filter_eq_nil_iff.2 (fun y hy=>by have:=h2 y hy;simp;omega),List.append_nil]
 have e2:l.filter (fun y=>decide (x<y))=l.drop i:=by
  conv=>lhs;rw[←List.take_append_drop i l]
  rw[List.filter_append,List.filter_eq_nil_iff.2 (fun y hy=>by have:=h1 y hy;simp;omega),List.filter_eq_self.2 (fun y hy=>by simpa using h2 y hy),List.nil_append]
 rw[e1,e2]
theorem zaA {l:List Int}{i:Nat}{x:Int}(ha:Asc l)(hi:i≤l.length)(hlo: ∀q,q<i→l.getD q 0<x)(hhi: ∀q,i≤q→q<l.length→x≤l.getD q 0)(hn:x∈l):i<l.length∧l.take i++l.drop (i+1)=Zz l x:=by
 have hm:=UP ha hi hlo hhi
 rw[decide_eq_true hn]at hm
 have hm2:=hm.symm
 simp only[Bool.and_eq_true,decide_eq_true_eq]at hm2
 obtain⟨hil,hx⟩:=hm2
 refine⟨hil,?_⟩
 have h1: ∀y∈l.take i,y≠x:=by
  intro y hy
  obtain⟨q,hq,rfl⟩:=List.getElem_of_mem hy
  rw[List.length_take]at hq
  have:=hlo q (by omega)
  rw[zJ _ (by omega)]at this
  rw[List.getElem_take];omega
 have h2: ∀y∈l.drop (i+1),y≠x:=by
  intro y hy
  obtain⟨q,hq,rfl⟩:=List.getElem_of_mem hy
  rw[List.length_drop]at hq
  have:=UU ha (show i<i+1+q by omega) (by omega)
  rw[hx,zJ _ (by omega)]at this
  rw[List.getElem_drop];omega
 unfold Zz
 conv=>rhs;rw[←List.take_append_drop i l]
 rw[List.filter_append,List.filter_eq_self.2 (fun y hy=>by simpa using h1 y hy),List.drop_eq_getElem_cons hil,List.filter_cons,if_neg (by rw[zJ _ hil]at hx;simp[hx]),List.filter_eq_self.2 (fun y hy=>by simpa using h2 y hy)]
theorem Ys (n:Int):InR (IntKind.i64.wrap n):=YK n
theorem XM {fl:Fld}{dm vc:Value}{no arg:Int}{sh:List CelS}(hS0:Sep G W ((RowE (α:=CelS) own 105 vc sh)::Rs) w)(hno:0≤no∧no<sh.length):Ret Tryz.prog 130 [.agg #[.int .i64 (fl.kind),.int .i64 (fl.policy),.bool (fl.floor),dm,vc,.int .i64 (no),.int .i64 (arg)]] w (fun r w'=>r=(.pointer (some ⟨sb vc,so vc+no.toNat*2,none⟩):Value)∧Sep G W ((RowE (α:=CelS) own 105 vc sh)::Rs) w'):=by
 refine zn Tryz.func130 rfl rfl ?_
 have b:=hS0.r0
 refine za (R0 fun _=>st (zX rfl ?_))
 intro w4 b3 c
 have a:=hS0.new c
 refine st (aS (.pointer none) (zb (za (R0 fun _=>st (UW rfl (st (lD vc Tryz.isAgg46 rfl (zd (a.b0) rfl) (st (KR rfl (st (lD (Iv no) kT rfl (zd (a.b0) rfl) ?_)))))))))))
 refine st (zB oR uR rfl b.1 rfl ⟨by omega,by omega⟩ (st (aS (Ix (sb vc) (so vc+no.toNat*2)) (zb (zq (zU Tryz.results130 rfl ?_))))))
 refine⟨rfl,(a.s2_b)⟩
set_option maxHeartbeats 4000000 in
theorem zbX {fl:Fld}{dm vc:Value}{no arg:Int}{l:List Cel}(hS0:Sep G W ((CelW vc 105 3 l)::Rs) w)(hno:0≤no∧no<l.length)(hno0:InR no)(harg:InR arg):Ret Tryz.prog 132 [.agg #[.int .i64 (fl.kind),.int .i64 (fl.policy),.bool (fl.floor),dm,vc,.int .i64 (no),.int .i64 (arg)]] w (fun r w'=>r=(.tuple #[]:Value)∧Sep G W ((CelW vc 105 3 (l.set no.toNat (xd fl (yE l no) 2 arg)))::Rs) w'):=by
 refine zn Tryz.func132 rfl rfl ?_
 obtain⟨a,d,C⟩:=CelW.open hS0
 have T:=C.r0
 have F:Sep G W ((RowE (α:=CelS) own 105 vc a)::(Star (SetRows 3 a l))::Rs) w:=C
 refine za (R0 fun _=>st (zX rfl ?_))
 intro w7 H U
 refine zb ?_
 refine WD4 ((fun TT g D=>WF [fun vals h=>Sep G W (g::D::TT) h,fun vals h=>(vals 1=(Ix (sb vc) (so vc+no.toNat*2):Value))∧Sep G W (D::g::TT) h,fun vals h=>(vals 1=(Ix (sb vc) (so vc+no.toNat*2):Value))∧Sep G W ((RowE own 105 vc (a.set no.toNat (⟨arg,(a.gd no.toNat).v⟩:CelS)))::g::TT) h]) ((Star (SetRows 3 a l))::Rs) (Blk H #[Iv (fl.kind),Iv (fl.policy),.bool (fl.floor),dm,vc,Iv no,Iv arg] 184) (RowE own 105 vc a)) (AF [Vl 0 (.agg #[Iv (fl.kind),Iv (fl.policy),.bool (fl.floor),dm,vc,Iv no,Iv arg]),fun _=>True,Vl 2 (Ix H 6),Vl 3 (Iv arg),Vl 4 (Ix (sb vc) (so vc+no.toNat*2)),Vl 5 (Ix (sb vc) (so vc+no.toNat*2)),fun _=>True]) [[],[0],[],[2],(rg 4),(rg 5),(rg 6)] [1,6] [(0,0),(0,0),(0,1),(0,1),(1,1),(1,1),(1,1)] (F.new U) ⟨ob1 0 fun _ _ (I:Sep _ _ _ _) _=>obl rfl (zh kR lR rfl rfl (zo (I.b0)) dR),?_,fun _ _ _ _ _ _ _=>obl rfl (Zb rfl dR),?_,?_,fun _ _ _ _ _ _ x=>obl rfl (xa (x 4 dc) dR),?_,zl⟩ ?_
 refine ob1 0 fun vals _ (J:Sep _ _ _ _) K=>(obl rfl ?_)
 refine(zW (vals:=[.agg #[Iv (fl.kind),Iv (fl.policy),.bool (fl.floor),dm,vc,Iv no,Iv arg]]) rfl (yM ⟨(K 0 dc),zl⟩) mR (XM (J.mv1) bo) ?_)
 rintro _ w25 ⟨rfl,n⟩
 have L:=n.r0
 exact fun y V E=>⟨(zA V n),zl⟩
 refine fun e _ _ X Y p q=>?_
 have hkk:=xE X Y
 rcases hkk with rfl|rfl
 have M:=p
 exact obl rfl (lD (Iv arg) kT (q 2 dc) (zd (M.b0) rfl) dR)
 obtain⟨c,N⟩:=p
 exact obl rfl (lD (Iv arg) kT (q 2 dc) (zd (N.b1) rfl) dR)
 refine ob1 1 fun _ _ O _=>?_
 obtain⟨c,hS99⟩:=O
 exact obl rfl (zm c dR)
 refine ob1 1 fun _ _ P s=>?_
 obtain⟨c,Q⟩:=P
 refine obl rfl ?_
 have R:=Q.emp1
 refine(yJ (α:=CelS) (j:=no.toNat) (o:=0) (us:=[Iv arg]) (x1:=(⟨arg,(a.getD no.toNat default).v⟩:CelS)) R pR bo (s 5 (by decide)) (s 3 (by decide)) rfl (yQ rfl) (yo ⟨rfl,zl⟩) (fun _ _ _ hel _=>(by rw[←zJ default (by omega)]at hel;obtain⟨rfl,hok⟩:=hel;exact⟨rfl,⟨(show InR (arg)from(by omega)),hok.one⟩⟩)) ?_)
 intro w66 t
 have S:=t.r0
 exact fun y V E=>⟨(zA ((E 1 dc).trans c) t),zl⟩
 intro vals w107 z hA109
 obtain⟨c,A⟩:=z
 refine yg (kv:=[(0,.agg #[Iv (fl.kind),Iv (fl.policy),.bool (fl.floor),dm,vc,Iv no,Iv arg]),(1,Ix H 0)]) sEv (fun ρw107=>(zb (Xe Tryz.results132 ?_)))
 have B:Sep _ _ ((CelW vc 105 3 (l.set no.toNat ⟨arg,(l.gd no.toNat).set⟩))::_) _:=CelW.closeN d.1 d.2 om (A.s3_acb)
 refine⟨rfl,(B.s2_a)⟩
set_option maxHeartbeats 4000000 in
theorem zbZ {fl:Fld}{dm vc:Value}{no arg:Int}{l:List Cel}(hS0:Sep G W ((CelW vc 105 3 l)::Rs) w)(hno:0≤no∧no<l.length)(hno0:InR no)(harg:InR arg):Ret Tryz.prog 129 [.agg #[.int .i64 (fl.kind),.int .i64 (fl.policy),.bool (fl.floor),dm,vc,.int .i64 (no),.int .i64 (arg)]] w (fun r w'=>r=(.tuple #[]:Value)∧Sep G W ((CelW vc 105 3 (l.set no.toNat (xd fl (yE l no) 1 arg)))::Rs) w'):=by
 refine zn Tryz.func129 rfl rfl ?_
 let n:=Ix (sb vc) (so vc+no.toNat*2)
 obtain⟨c,e,U⟩:=CelW.open hS0
 have ah:=U.r0
 have Y:Sep G W ((RowE (α:=CelS) own 105 vc c)::(Star (SetRows 3 c l))::Rs) w:=U
 refine za (R0 fun _=>st (zX rfl ?_))
 intro w7 Z ai
 refine zb ?_
 refine WD4 ((fun TT x V=>WF [fun vals y=>Sep G W (x::V::TT) y,fun vals y=>(vals 1=(Ix (sb vc) (so vc+no.toNat*2):Value))∧Sep G W (V::x::TT) y,fun vals y=>(vals 1=(Ix (sb vc) (so vc+no.toNat*2):Value))∧Sep G W ((RowE own 105 vc (c.set no.toNat (⟨IntKind.i64.wrap (((c.gd no.toNat).n)+arg),(c.gd no.toNat).v⟩:CelS)))::x::TT) y]) ((Star (SetRows 3 c l))::Rs) (Blk Z #[Iv (fl.kind),Iv (fl.policy),.bool (fl.floor),dm,vc,Iv no,Iv arg] 184) (RowE own 105 vc c)) (AF [Vl 0 (.agg #[Iv (fl.kind),Iv (fl.policy),.bool (fl.floor),dm,vc,Iv no,Iv arg]),fun _=>True,Vl 2 n,Vl 3 n,Vl 4 (Iv ((c.gd no.toNat).n)),Vl 5 (Ix Z 6),Vl 6 (Iv arg),Vl 7 (Iv (IntKind.i64.wrap (((c.gd no.toNat).n)+arg))),Vl 8 n,Vl 9 n,fun _=>True]) [[],[0],[0,1],[0,1,2],(rg 4),[],[5],(rg 7),(rg 8),(rg 9),(rg 10)] [1,10] [(0,0),(0,0),(1,1),(1,1),(1,1),(0,1),(0,1),(1,1),(1,1),(1,1),(1,1)] (Y.new ai) ⟨ob1 0 fun _ _ (C:Sep _ _ _ _) _=>obl rfl (zh kR lR rfl rfl (zo (C.b0)) dR),?_,?_,fun _ _ _ _ _ _ D=>obl rfl (xa (D 2 dc) dR),?_,fun _ _ _ _ _ _ _=>obl rfl (Zb rfl dR),?_,?_,?_,fun _ _ _ _ _ _ E=>obl rfl (xa (E 8 dc) dR),?_,zl⟩ ?_
 refine ob1 0 fun vals _ (aa:Sep _ _ _ _) ab=>(obl rfl ?_)
 refine(zW (vals:=[.agg #[Iv (fl.kind),Iv (fl.policy),.bool (fl.floor),dm,vc,Iv no,Iv arg]]) rfl (yM ⟨(ab 0 dc),zl⟩) mR (XM (aa.mv1) bo) ?_)
 rintro _ w25 ⟨rfl,z⟩
 have ac:=z.r0
 exact fun F hv X=>⟨(zA hv z),zl⟩
 refine ob1 1 fun _ _ H _=>?_
 obtain⟨d,hS116⟩:=H
 exact obl rfl (zm d dR)
 refine ob1 1 fun _ _ I J=>?_
 obtain⟨d,K⟩:=I
 refine obl rfl ?_
 have L:no.toNat<c.length:=bo
 obtain⟨_,_,A,rfl,hoke132⟩:=K.rowAtD (i:=0) (j:=no.toNat) rfl L
 exact lD (Iv ((c.gd no.toNat).n)) kT (J 3 dc) (A.get (j:=0) rfl) dR
 refine fun g _ _ ad ae h p=>?_
 have hkk:=xE ad ae
 rcases hkk with rfl|rfl
 have M:=h
 exact obl rfl (lD (Iv arg) kT (p 5 dc) (zd (M.b0) rfl) dR)
 obtain⟨d,N⟩:=h
 exact obl rfl (lD (Iv arg) kT (p 5 dc) (zd (N.b1) rfl) dR)
 refine ob1 1 fun _ _ O q=>?_
 obtain⟨d,hS156⟩:=O
 exact obl rfl (zO (r:=IntKind.i64.wrap (((c.gd no.toNat).n)+arg)) (q 4 dc) (q 6 dc) rfl dR)
 refine ob1 1 fun _ _ P _=>?_
 obtain⟨d,hS165⟩:=P
 exact obl rfl (zm d dR)
 refine ob1 1 fun _ _ af B=>?_
 obtain⟨d,ag⟩:=af
 refine obl rfl ?_
 have Q:=ag.emp1
 refine(yJ (α:=CelS) (j:=no.toNat) (o:=0) (us:=[Iv (IntKind.i64.wrap (((c.getD no.toNat default).n)+arg))]) (x1:=(⟨IntKind.i64.wrap (((c.getD no.toNat default).n)+arg),(c.getD no.toNat default).v⟩:CelS)) Q pR bo (B 9 (by decide)) (B 7 (by decide)) rfl (yQ rfl) (yo ⟨rfl,zl⟩) (fun _ _ _ hel _=>(by rw[←zJ default (by omega)]at hel;obtain⟨rfl,hok⟩:=hel;exact⟨rfl,⟨(show InR (IntKind.i64.wrap (((c.getD no.toNat default).n)+arg))from(Ys _)),hok.one⟩⟩)) ?_)
 intro w99 s
 have R:=s.r0
 exact fun F hv X=>⟨(zA ((X 1 dc).trans d) s),zl⟩
 intro vals w173 S hA175
 obtain⟨d,T⟩:=S
 refine yg (kv:=[(0,.agg #[Iv (fl.kind),Iv (fl.policy),.bool (fl.floor),dm,vc,Iv no,Iv arg]),(1,Ix Z 0)]) sEv (fun ρw173=>(zb (Xe Tryz.results129 ?_)))
 have t:Sep _ _ ((CelW vc 105 3 (l.set no.toNat ⟨IntKind.i64.wrap (((c.gd no.toNat).n)+arg),(l.gd no.toNat).set⟩))::_) _:=CelW.closeN e.1 e.2 om (T.s3_acb)
 rw[e.2 _ (by omega)]at t
 refine⟨rfl,(t.s2_a)⟩
set_option maxHeartbeats 4000000 in
theorem zaR {fl:Fld}{dm vc:Value}{no arg:Int}{l:List Cel}(hS0:Sep G W ((CelW vc 105 3 l)::Rs) w)(hno:0≤no∧no<l.length)(hno0:InR no)(harg:InR arg)(hdm:RdS W G dm fl.moves)(hmv:0≤arg∧arg<fl.moves.length):Ret Tryz.prog 137 [.agg #[.int .i64 (fl.kind),.int .i64 (fl.policy),.bool (fl.floor),dm,vc,.int .i64 (no),.int .i64 (arg)]] w (fun r w'=>r=(.tuple #[]:Value)∧Sep G W ((CelW vc 105 3 (l.set no.toNat (xd fl (yE l no) 5 arg)))::Rs) w'):=by
 refine zn Tryz.func137 rfl rfl ?_
 obtain⟨d,p,al⟩:=CelW.open hS0
 have aE:=al.r0
 have ao:Sep G W ((RowE (α:=CelS) own 105 vc d)::(Star (SetRows 3 d l))::Rs) w:=al
 refine za (R0 fun _=>st (zX rfl ?_))
 intro w7 J aF
 refine zb ?_
 refine WD4 ((fun TT K am=>WF [fun vals L=>Sep G W (K::am::TT) L,fun vals L=>(vals 1=(Ix (sb vc) (so vc+no.toNat*2):Value))∧Sep G W (am::K::TT) L,fun vals L=>(vals 1=(Ix (sb vc) (so vc+no.toNat*2):Value))∧Sep G W ((RowE own 105 vc (d.set no.toNat (⟨(fl.moves.gd arg.toNat).to,(d.gd no.toNat).v⟩:CelS)))::K::TT) L]) ((Star (SetRows 3 d l))::Rs) (Blk J #[Iv (fl.kind),Iv (fl.policy),.bool (fl.floor),dm,vc,Iv no,Iv arg] 184) (RowE own 105 vc d)) (AF [Vl 0 (.agg #[Iv (fl.kind),Iv (fl.policy),.bool (fl.floor),dm,vc,Iv no,Iv arg]),fun _=>True,Vl 2 (Ix J 0),Vl 3 (Ix J 3),Vl 4 dm,Vl 5 (Ix J 6),Vl 6 (Iv arg),Vl 7 (Ix (sb dm) (so dm+arg.toNat*4)),Vl 8 (Ix (sb dm) (so dm+arg.toNat*4+1)),Vl 9 (Iv ((fl.moves.gd arg.toNat).to)),Vl 10 (Ix (sb vc) (so vc+no.toNat*2)),Vl 11 (Ix (sb vc) (so vc+no.toNat*2)),fun _=>True]) [[],[0],[],[2],[2,3],[],[5],[2,3,4,5,6],[2,3,4,5,6,7],[2,3,4,5,6,7,8],(rg 10),(rg 11),(rg 12)] [1,12] [(0,0),(0,0),(0,1),(0,1),(0,1),(0,1),(0,1),(0,1),(0,1),(0,1),(1,1),(1,1),(1,1)] (ao.new aF) ⟨ob1 0 fun _ _ (S:Sep _ _ _ _) _=>obl rfl (zh kR lR rfl rfl (zo (S.b0)) dR),?_,fun _ _ _ _ _ _ _=>obl rfl (WO rfl dR),fun _ _ _ _ _ _ T=>obl rfl (yT (T 2 dc) dR),?_,fun _ _ _ _ _ _ _=>obl rfl (Zb rfl dR),?_,?_,fun _ _ _ _ _ _ U=>obl rfl (Kh (U 7 dc) dR),?_,?_,fun _ _ _ _ _ _ V=>obl rfl (xa (V 10 dc) dR),?_,zl⟩ ?_
 refine ob1 0 fun vals _ (ap:Sep _ _ _ _) aq=>(obl rfl ?_)
 refine(zW (vals:=[.agg #[Iv (fl.kind),Iv (fl.policy),.bool (fl.floor),dm,vc,Iv no,Iv arg]]) rfl (yM ⟨(aq 0 dc),zl⟩) mR (XM (ap.mv1) bo) ?_)
 rintro _ w25 ⟨rfl,M⟩
 have ar:=M.r0
 exact fun X hv an=>⟨(zA hv M),zl⟩
 refine fun e _ _ au av q s=>?_
 have hkk:=xE au av
 rcases hkk with rfl|rfl
 have Y:=q
 exact obl rfl (lD dm qT (s 3 dc) (zd (Y.b0) rfl) dR)
 obtain⟨a,Z⟩:=q
 exact obl rfl (lD dm qT (s 3 dc) (zd (Z.b1) rfl) dR)
 refine fun g _ _ ay az t x=>?_
 have hkk:=xE ay az
 rcases hkk with rfl|rfl
 have aa:=t
 exact obl rfl (lD (Iv arg) kT (x 5 dc) (zd (aa.b0) rfl) dR)
 obtain⟨a,ab⟩:=t
 exact obl rfl (lD (Iv arg) kT (x 5 dc) (zd (ab.b1) rfl) dR)
 refine fun h _ _ aA aB y c=>?_
 have hkk:=xE aA aB
 rcases hkk with rfl|rfl
 refine obl rfl ?_
 exact zB pT tT (c 4 dc) hdm.sl (c 6 dc) ⟨by omega,by omega⟩ dR
 obtain⟨a,hS178⟩:=y
 refine obl rfl ?_
 exact zB pT tT (c 4 dc) hdm.sl (c 6 dc) ⟨by omega,by omega⟩ dR
 refine fun n _ _ aC aD z A=>?_
 have hkk:=xE aC aD
 rcases hkk with rfl|rfl
 have ac:=z
 refine obl rfl ?_
 have B:arg.toNat<fl.moves.length:=bo
 obtain⟨N,hoke197⟩:=hdm.mvD B
 have O:=ac.cells N (hdm.foot (ne_of_lt B))
 exact lD (Iv ((fl.moves.gd arg.toNat).to)) kT (A 8 dc) (O.get rfl) dR
 obtain⟨a,ad⟩:=z
 refine obl rfl ?_
 have C:arg.toNat<fl.moves.length:=bo
 obtain⟨P,hoke202⟩:=hdm.mvD C
 have Q:=ad.cells P (hdm.foot (ne_of_lt C))
 exact lD (Iv ((fl.moves.gd arg.toNat).to)) kT (A 8 dc) (Q.get rfl) dR
 refine ob1 1 fun _ _ ae _=>?_
 obtain⟨a,hS211⟩:=ae
 exact obl rfl (zm a dR)
 refine ob1 1 fun _ _ af D=>?_
 obtain⟨a,E⟩:=af
 refine obl rfl ?_
 have F:arg.toNat<fl.moves.length:=bo
 obtain⟨R,I⟩:=hdm.mvD F
 have ag:=E.emp1
 refine(yJ (α:=CelS) (j:=no.toNat) (o:=0) (us:=[Iv ((fl.moves.getD arg.toNat default).to)]) (x1:=(⟨(fl.moves.getD arg.toNat default).to,(d.getD no.toNat default).v⟩:CelS)) ag pR bo (D 11 (by decide)) (D 9 (by decide)) rfl (yQ rfl) (yo ⟨rfl,zl⟩) (fun _ _ _ hel _=>(by rw[←zJ default (by omega)]at hel;obtain⟨rfl,hok⟩:=hel;exact⟨rfl,⟨(show InR ((fl.moves.getD arg.toNat default).to)from I.to),hok.one⟩⟩)) ?_)
 intro w115 H
 have ah:=H.r0
 exact fun X hv an=>⟨(zA ((an 1 dc).trans a) H),zl⟩
 intro vals w219 ai hA221
 obtain⟨a,aj⟩:=ai
 refine yg (kv:=[(0,.agg #[Iv (fl.kind),Iv (fl.policy),.bool (fl.floor),dm,vc,Iv no,Iv arg]),(1,Ix J 0)]) sEv (fun ρw219=>(zb (Xe Tryz.results137 ?_)))
 have ak:Sep _ _ ((CelW vc 105 3 (l.set no.toNat ⟨(fl.moves.gd arg.toNat).to,(l.gd no.toNat).set⟩))::_) _:=CelW.closeN p.1 p.2 om (aj.s3_acb)
 refine⟨rfl,(ak.s2_a)⟩
theorem zaF {l:List Int}{x:Int}(h: ¬x∈l):Zz l x=l:=by
 unfold Zz
 exact List.filter_eq_self.2 (fun y hy=>by simp only[decide_eq_true_eq];intro e;exact h (e▸hy))
theorem QO {fl:Fld}{c:Cel}{arg:Int}(h:arg∈c.set):xd fl c 3 arg=c:=by
 unfold xd;rw[if_neg (by decide),if_neg (by decide),if_pos rfl,Wq h]
theorem Ku {fl:Fld}{c:Cel}{arg:Int}(h: ¬arg∈c.set):xd fl c 4 arg=c:=by
 unfold xd;rw[if_neg (by decide),if_neg (by decide),if_neg (by decide),if_pos rfl,zaF h]
theorem zaE {fl:Fld}{c:Cel}{arg:Int}:xd fl c 3 arg=⟨c.n,ZW c.set arg⟩:=rfl
theorem zad {fl:Fld}{c:Cel}{arg:Int}:xd fl c 4 arg=⟨c.n,Zz c.set arg⟩:=rfl
set_option maxHeartbeats 4000000 in
theorem zbB {fl:Fld}{dm vc:Value}{no arg:Int}{l:List Cel}(hS0:Sep G W ((CelW vc 105 3 l)::Rs) w)(hno:0≤no∧no<l.length)(hno0:InR no)(harg:InR arg)(hasc:Asc (yE l no).set)(hfew:(yE l no).set.length≤1000):Ret Tryz.prog 134 [.agg #[.int .i64 (fl.kind),.int .i64 (fl.policy),.bool (fl.floor),dm,vc,.int .i64 (no),.int .i64 (arg)]] w (fun r w'=>r=(.tuple #[]:Value)∧Sep G W ((CelW vc 105 3 (l.set no.toNat (xd fl (yE l no) 3 arg)))::Rs) w'):=by
 refine zn Tryz.func134 rfl rfl ?_
 let bx:=Ix (sb vc) (so vc+no.toNat*2+1)
 let n:=Ix (sb vc) (so vc+no.toNat*2)
 obtain⟨e,E,aY⟩:=CelW.open hS0
 have bt:=aY.r0
 have ba:Sep G W ((RowE (α:=CelS) own 105 vc e)::(Star (SetRows 3 e l))::Rs) w:=aY
 refine za (R0 fun _=>st (zX rfl ?_))
 intro w7 I bu
 let bw:=Blk I #[Iv (fl.kind),Iv (fl.policy),.bool (fl.floor),dm,vc,Iv no,Iv arg] 184
 have aZ:=ba.new bu
 refine zb (za (R0 fun _=>st (zh kR lR rfl rfl (zo (aZ.b0)) ?_)))
 refine st (zW (vals:=[.agg #[Iv (fl.kind),Iv (fl.policy),.bool (fl.floor),dm,vc,Iv no,Iv arg]]) rfl rfl mR (XM (aZ.mv1) bo) ?_)
 rintro _ bv ⟨rfl,Z⟩
 have bb:=Z.r0
 have aa:Sep G W ((RowE (α:=Int) own 3 ((e.gd no.toNat).v) ((l.gd no.toNat).set))::(Star ((SetRows 3 e l).set no.toNat Emp))::(RowE own 105 vc e)::(Blk I #[Iv (fl.kind),Iv (fl.policy),.bool (fl.floor),dm,vc,Iv no,Iv arg] 184)::Rs) bv:=Sep.takeStar (Z.mv2) (SetRows.get om om)
 have bc:=aa.r0
 refine st (aS n (zb (za ?_)))
 refine WD4 ((fun TT L=>WF [fun vals H=>Sep G W (L::TT) H,fun vals H=> ∃d,(vals 6=(.tuple #[Iw d,.bool (decide (arg∈((l.gd no.toNat).set)))]:Value))∧(d≤((l.gd no.toNat).set).length∧(∀q,q<d→((l.gd no.toNat).set).getD q 0<arg)∧(∀q,d≤q→q<((l.gd no.toNat).set).length→arg≤((l.gd no.toNat).set).getD q 0))∧Sep G W (L::TT) H]) ((Star ((SetRows 3 e l).set no.toNat Emp))::(RowE own 105 vc e)::bw::Rs) (RowE own 3 ((e.gd no.toNat).v) ((l.gd no.toNat).set))) (AF [Vl 0 n,Vl 1 n,Vl 2 bx,Vl 3 ((e.gd no.toNat).v),Vl 4 (Ix I 6),Vl 5 (Iv arg),fun _=>True,fun vals=> ∀(d:Nat),vals 6=(.tuple #[Iw d,.bool (decide (arg∈((l.gd no.toNat).set)))]:Value)→vals 7=(.tuple #[Iw d,.bool (decide (arg∈((l.gd no.toNat).set)))]:Value),fun vals=> ∀(d:Nat),vals 6=(.tuple #[Iw d,.bool (decide (arg∈((l.gd no.toNat).set)))]:Value)→vals 8=(Iw d:Value),Vl 9 (.bool (decide (arg∈((l.gd no.toNat).set)))),fun vals=> ∀(d:Nat),vals 6=(.tuple #[Iw d,.bool (decide (arg∈((l.gd no.toNat).set)))]:Value)→vals 10=(Iw d:Value),Vl 11 (.bool (decide (arg∈((l.gd no.toNat).set))))]) [[],[0],[0,1],[0,1,2],[],[4],(rg 6),(rg 7),(rg 8),(rg 8),(rg 9),(rg 11)] [6] [(0,0),(0,0),(0,0),(0,0),(0,0),(0,0),(0,0),(1,1),(1,1),(1,1),(1,1),(1,1)] aa ⟨fun _ _ _ _ _ _ _=>obl rfl (mV n dR),fun _ _ _ _ _ _ ag=>obl rfl (zm (ag 0 dc) dR),fun _ _ _ _ _ _ ah=>obl rfl (yY (ah 1 dc) dR),?_,fun _ _ _ _ _ _ _=>obl rfl (Zb rfl dR),ob1 0 fun _ _ (ai:Sep _ _ _ _) aj=>obl rfl (lD (Iv arg) kT (aj 4 dc) (zd (ai.b3) rfl) dR),?_,?_,?_,?_,?_,fun _ _ _ _ _ _ ak=>obl rfl (zM (ak 9 dc) dR),zl⟩ ?_ (hlocA:=xi ⟨dA,dA,dA,dA,dA,dA,dT,fun vals y A h=>fun d z=>(A 7 (.inl rfl)).trans (h d ((A 6 (.inr dc)).symm.trans z)),fun vals y A h=>fun d z=>(A 8 (.inl rfl)).trans (h d ((A 6 (.inr dc)).symm.trans z)),dA,fun vals y A h=>fun d z=>(A 10 (.inl rfl)).trans (h d ((A 6 (.inr dc)).symm.trans z)),dA,zl⟩)
 refine ob1 0 fun _ _ (al:Sep _ _ _ _) am=>(obl rfl ?_)
 have an:no.toNat<e.length:=bo
 obtain⟨_,_,ab,rfl,hoke148⟩:=al.rowAtD (i:=2) (j:=no.toNat) rfl an
 exact lD ((e.gd no.toNat).v) uT (am 2 dc) (ab.get (j:=1) rfl) dR
 refine ob1 0 fun vals _ (bd:Sep _ _ _ _) ac=>(obl rfl ?_)
 obtain⟨G69,be,hB72,bf,bg⟩:=bd.lend
 have M:=RowE.rd be
 refine(zW (vals:=[(e.gd no.toNat).v,Iv arg]) rfl (yM ⟨(ac 3 dc),(ac 5 dc),zl⟩) nY (Wb M om bf hasc) ?_)
 rintro _ w78 ⟨d,rfl,p,bh⟩
 have bi:=bg _ _ bh
 exact fun y A B=>⟨(exiA d (zA A (zA p bi))),zl⟩
 refine ob1 1 fun _ _ ao _=>?_
 obtain⟨d,t,p,hS170⟩:=ao
 refine obl rfl (zP t (fun y A B=>⟨rfl,?_⟩))
 intro N z
 rw[B 6 (by decide)]at z;cases t.symm.trans z
 exact A
 refine ob1 1 fun vals _ ap aq=>?_
 obtain⟨d,t,p,hS177⟩:=ap
 have bj:=aq 7 dc d t
 refine obl rfl (zz bj rfl (fun y A B=>⟨rfl,?_⟩))
 intro N z
 rw[B 6 (by decide)]at z;cases t.symm.trans z
 exact A
 refine ob1 1 fun vals _ ar au=>?_
 obtain⟨d,t,p,hS185⟩:=ar
 have bk:=au 7 dc d t
 exact obl rfl (zz bk rfl dR)
 refine ob1 1 fun vals _ av aw=>?_
 obtain⟨d,t,p,hS193⟩:=av
 have bl:=aw 8 dc d t
 refine obl rfl (zM bl (fun y A B=>⟨rfl,?_⟩))
 intro N z
 rw[B 6 (by decide)]at z;cases t.symm.trans z
 exact A
 intro vals bm ax O
 obtain⟨d,t,p,P⟩:=ax
 have bn:=O 10 dc d t
 have bp:=O 11 dc
 refine yg (kv:=[(0,.agg #[Iv (fl.kind),Iv (fl.policy),.bool (fl.floor),dm,vc,Iv no,Iv arg]),(1,Ix I 0),(5,.agg #[Iv (fl.kind),Iv (fl.policy),.bool (fl.floor),dm,vc,Iv no,Iv arg]),(6,Ix (sb vc) (so vc+no.toNat*2)),(2,Ix (sb vc) (so vc+no.toNat*2)),(3,Iw d),(4,.bool (decide (arg∈((l.gd no.toNat).set))))]) ⟨rfl,rfl,rfl,rfl,rfl,(by exact bn),(by exact bp),zl⟩ (fun ρw202=>(zb (za (R0 fun _=>st (mV (.bool (decide (arg∈((l.gd no.toNat).set)))) (st (yD rfl (zb ?_))))))))
 cases C: !(decide (arg∈((l.gd no.toNat).set)))
 have C:=zQ C
 refine ze rfl (zp (Xe oY ?_))
 have ay:Sep _ _ ((CelW vc 105 3 l)::_) _:=CelW.close0 E.1 E.2 om P
 have az:Sep G W ((CelW vc 105 3 (l.set no.toNat (xd fl (yE l no) 3 arg)))::bw::Rs) bm:=by
  rw[QO (show arg∈(yE l no).set from C),show l.set no.toNat (yE l no)=l from ZH default (by omega)]
  exact ay
 refine⟨rfl,(az.s2_a)⟩
 have C:=yn C
 refine zg rfl ?_
 refine WD4 ((fun TT L Q ad=>WF [fun vals H=>Sep G W (L::Q::ad::TT) H,fun vals H=> ∃g,(vals 8=((Iy g 1 1):Value))∧Sep G W ((Blk g #[Iv arg] 3)::L::Q::ad::TT) H,fun vals H=> ∃g m,(vals 8=((Iy g 1 1):Value))∧(vals 9=m)∧Sep G W ((RowE own 3 m (((l.gd no.toNat).set).take d++arg::((l.gd no.toNat).set).drop d))::Q::ad::TT) H,fun vals H=> ∃g m,(vals 8=((Iy g 1 1):Value))∧(vals 9=m)∧Sep G W ((RowE own 105 vc (e.set no.toNat (⟨(e.gd no.toNat).n,m⟩:CelS)))::(RowE own 3 m (((l.gd no.toNat).set).take d++arg::((l.gd no.toNat).set).drop d))::Q::TT) H]) (bw::Rs) (RowE own 3 ((e.gd no.toNat).v) ((l.gd no.toNat).set)) (Star ((SetRows 3 e l).set no.toNat Emp)) (RowE own 105 vc e)) (AF [Vl 0 n,Vl 1 n,Vl 2 n,Vl 3 bx,Vl 4 ((e.gd no.toNat).v),Vl 5 (Iw d),Vl 6 (Ix I 6),Vl 7 (Iv arg),fun _=>True,fun _=>True,Vl 10 n,Vl 11 bx,fun _=>True]) [[],[],[1],[1,2],[1,2,3],[],[],[6],[6,7],[1,2,3,4,5,6,7,8],(rg 10),(rg 11),(rg 12)] [8,9,12] [(0,2),(0,1),(0,1),(0,1),(0,1),(0,1),(0,0),(0,0),(0,0),(1,1),(2,2),(2,2),(2,2)] P ⟨fun _ _ _ _ _ _ _=>obl rfl (mV n dR),fun _ _ _ _ _ _ _=>obl rfl (mV n dR),fun _ _ _ _ _ _ aA=>obl rfl (zm (aA 1 dc) dR),fun _ _ _ _ _ _ aB=>obl rfl (yY (aB 2 dc) dR),?_,fun _ _ _ _ _ _ _=>obl rfl (mV (Iw d) dR),fun _ _ _ _ _ _ _=>obl rfl (Zb rfl dR),ob1 0 fun _ _ (aC:Sep _ _ _ _) aD=>obl rfl (lD (Iv arg) kT (aD 6 dc) (zd (aC.b3) rfl) dR),?_,?_,fun _ _ _ _ _ _ aE=>obl rfl (zm (aE 0 dc) dR),fun _ _ _ _ _ _ aF=>obl rfl (yY (aF 10 dc) dR),?_,zl⟩ ?_
 refine fun J _ _ bq br R S=>?_
 have hkk:=xE bq br
 rcases hkk with rfl|rfl
 have aG:=R
 refine obl rfl ?_
 have aH:no.toNat<e.length:=bo
 obtain⟨_,_,ae,rfl,hoke358⟩:=aG.rowAtD (i:=2) (j:=no.toNat) rfl aH
 exact lD ((e.gd no.toNat).v) uT (S 3 dc) (ae.get (j:=1) rfl) dR
 obtain⟨g,D,aI⟩:=R
 refine obl rfl ?_
 have aJ:no.toNat<e.length:=bo
 obtain⟨_,_,af,rfl,hoke362⟩:=aI.rowAtD (i:=3) (j:=no.toNat) rfl aJ
 exact lD ((e.gd no.toNat).v) uT (S 3 dc) (af.get (j:=1) rfl) dR
 refine ob1 0 fun _ _ (aK:Sep _ _ _ _) aL=>(obl rfl ((zH (k:=1) (parts':=[(0,Iv arg)]) (c:=#[Iv arg]) Tryz.underlying53 pR Tryz.zeroValue3 dc (Za ⟨rfl,(aL 7 dc),zl⟩) kr ?_)))
 intro w278 g aM
 exact fun y A B=>⟨(exiA g (zA A (aK.new aM))),zl⟩
 refine ob1 1 fun vals _ aN T=>?_
 obtain⟨g,D,aO⟩:=aN
 refine obl rfl ((zW (vals:=[(e.gd no.toNat).v,Iw d,(Iy g 1 1)]) rfl (yM ⟨(T 4 dc),(T 5 dc),D,zl⟩) Tryz.call143 (JW (aO.mv1) (p.1) harg ((by have h9:((l.gd no.toNat).set).length≤1000:=hfew;omega))) ?_))
 rintro m w292 ⟨_,rfl,U⟩
 have aP:=U.r0
 exact fun y A B=>⟨(exiA g (exiA m (zA ((B 8 dc).trans D) (zA A U)))),zl⟩
 refine ob1 2 fun _ _ aQ aR=>?_
 obtain⟨g,m,D,K,V⟩:=aQ
 refine obl rfl ?_
 have F:=V.r0
 have aT:=(V.mv2).emp1
 refine(yJ (α:=CelS) (j:=no.toNat) (o:=1) (us:=[m]) (x1:=(⟨(e.getD no.toNat default).n,m⟩:CelS)) aT vR bo (aR 11 (by decide)) K (congrArg Array.toList (xw F.1.one)) (yQ rfl) (yo ⟨F.1.one,zl⟩) (fun _ _ _ hel _=>(by rw[←zJ default (by omega)]at hel;obtain⟨rfl,hok⟩:=hel;exact⟨rfl,⟨hok.n,F.1.one⟩⟩)) ?_)
 intro w318 X
 have aU:=X.r0
 exact fun y A B=>⟨(exiA g (exiA m (zA ((B 8 dc).trans D) (zA ((B 9 dc).trans K) X)))),zl⟩
 intro vals bs aV hA400
 obtain⟨g,m,D,K,aW⟩:=aV
 refine yg (kv:=[(0,.agg #[Iv (fl.kind),Iv (fl.policy),.bool (fl.floor),dm,vc,Iv no,Iv arg]),(1,Ix I 0),(5,.agg #[Iv (fl.kind),Iv (fl.policy),.bool (fl.floor),dm,vc,Iv no,Iv arg]),(6,Ix (sb vc) (so vc+no.toNat*2)),(2,Ix (sb vc) (so vc+no.toNat*2)),(3,Iw d),(4,.bool (decide (arg∈((l.gd no.toNat).set)))),(17,.bool (decide (arg∈((l.gd no.toNat).set)))),(18,.bool true)]) sEv (fun ρw398=>(zb (Xe oY ?_)))
 have Y:Sep _ _ ((CelW vc 105 3 (l.set no.toNat (⟨(l.gd no.toNat).n,(((l.gd no.toNat).set).take d++arg::((l.gd no.toNat).set).drop d)⟩:Cel)))::_) _:=CelW.close (i:=no.toNat) (s:=(⟨(e.gd no.toNat).n,m⟩:CelS)) E.1 E.2 om (E.2 _ om) (aW.s4_bcad)
 have aX:Sep G W ((CelW vc 105 3 (l.set no.toNat (xd fl (yE l no) 3 arg)))::bw::Rs) bs:=by
  rw[zaE];rw[zcX (l:=(l.getD no.toNat default).set) hasc p.1 p.2.1 p.2.2 C]at Y
  exact Y
 refine⟨rfl,(aX.s2_a)⟩
set_option maxHeartbeats 4000000 in
theorem zbx {fl:Fld}{dm vc:Value}{no arg:Int}{l:List Cel}(hS0:Sep G W ((CelW vc 105 3 l)::Rs) w)(hno:0≤no∧no<l.length)(hno0:InR no)(harg:InR arg)(hasc:Asc (yE l no).set):Ret Tryz.prog 135 [.agg #[.int .i64 (fl.kind),.int .i64 (fl.policy),.bool (fl.floor),dm,vc,.int .i64 (no),.int .i64 (arg)]] w (fun r w'=>r=(.tuple #[]:Value)∧Sep G W ((CelW vc 105 3 (l.set no.toNat (xd fl (yE l no) 4 arg)))::Rs) w'):=by
 refine zn Tryz.func135 rfl rfl ?_
 let n:=Ix (sb vc) (so vc+no.toNat*2)
 obtain⟨g,A,aq⟩:=CelW.open hS0
 have hsh2l:=A.1
 have aM:=aq.r0
 have hr4s:_*32≤_:=aM.2
 have av:Sep G W ((RowE (α:=CelS) own 105 vc g)::(Star (SetRows 3 g l))::Rs) w:=aq
 refine za (R0 fun _=>st (zX rfl ?_))
 intro w7 M aN
 let ay:=Blk M #[Iv (fl.kind),Iv (fl.policy),.bool (fl.floor),dm,vc,Iv no,Iv arg] 184
 have ar:=av.new aN
 refine zb (za (R0 fun _=>st (zh kR lR rfl rfl (zo (ar.b0)) ?_)))
 refine st (zW (vals:=[.agg #[Iv (fl.kind),Iv (fl.policy),.bool (fl.floor),dm,vc,Iv no,Iv arg]]) rfl rfl mR (XM (ar.mv1) bo) ?_)
 rintro _ aO ⟨rfl,N⟩
 have aw:=N.r0
 have hr12s:_*32≤_:=aw.2
 have O:Sep G W ((RowE (α:=Int) own 3 ((g.gd no.toNat).v) ((l.gd no.toNat).set))::(Star ((SetRows 3 g l).set no.toNat Emp))::(RowE own 105 vc g)::(Blk M #[Iv (fl.kind),Iv (fl.policy),.bool (fl.floor),dm,vc,Iv no,Iv arg] 184)::Rs) aO:=Sep.takeStar (N.mv2) (SetRows.get om om)
 have ax:=O.r0
 have hr15s:_*8≤_:=ax.2
 refine st (aS n (zb (za ?_)))
 refine WD4 ((fun TT au=>WF [fun vals wq=>Sep G W (au::TT) wq,fun vals wq=> ∃d,(vals 6=(.tuple #[Iw d,.bool (decide (arg∈((l.gd no.toNat).set)))]:Value))∧(d≤((l.gd no.toNat).set).length∧(∀q,q<d→((l.gd no.toNat).set).getD q 0<arg)∧(∀q,d≤q→q<((l.gd no.toNat).set).length→arg≤((l.gd no.toNat).set).getD q 0))∧Sep G W (au::TT) wq]) ((Star ((SetRows 3 g l).set no.toNat Emp))::(RowE own 105 vc g)::ay::Rs) (RowE own 3 ((g.gd no.toNat).v) ((l.gd no.toNat).set))) (AF [Vl 0 n,Vl 1 n,Vl 2 (Ix (sb vc) (so vc+no.toNat*2+1)),Vl 3 ((g.gd no.toNat).v),Vl 4 (Ix M 6),Vl 5 (Iv arg),fun _=>True,fun vals=> ∀(d:Nat),vals 6=(.tuple #[Iw d,.bool (decide (arg∈((l.gd no.toNat).set)))]:Value)→vals 7=(.tuple #[Iw d,.bool (decide (arg∈((l.gd no.toNat).set)))]:Value),fun vals=> ∀(d:Nat),vals 6=(.tuple #[Iw d,.bool (decide (arg∈((l.gd no.toNat).set)))]:Value)→vals 8=(Iw d:Value),Vl 9 (.bool (decide (arg∈((l.gd no.toNat).set)))),fun vals=> ∀(d:Nat),vals 6=(.tuple #[Iw d,.bool (decide (arg∈((l.gd no.toNat).set)))]:Value)→vals 10=(Iw d:Value),Vl 11 (.bool (decide (arg∈((l.gd no.toNat).set))))]) [[],[0],[0,1],[0,1,2],[],[4],(rg 6),(rg 7),(rg 8),(rg 8),(rg 9),(rg 11)] [6] [(0,0),(0,0),(0,0),(0,0),(0,0),(0,0),(0,0),(1,1),(1,1),(1,1),(1,1),(1,1)] O ⟨fun _ _ _ _ _ _ _=>obl rfl (mV n dR),fun _ _ _ _ _ _ S=>obl rfl (zm (S 0 dc) dR),fun _ _ _ _ _ _ T=>obl rfl (yY (T 1 dc) dR),?_,fun _ _ _ _ _ _ _=>obl rfl (Zb rfl dR),ob1 0 fun _ _ (U:Sep _ _ _ _) V=>obl rfl (lD (Iv arg) kT (V 4 dc) (zd (U.b3) rfl) dR),?_,?_,?_,?_,?_,fun _ _ _ _ _ _ X=>obl rfl (zM (X 9 dc) dR),zl⟩ ?_ (hlocA:=xi ⟨dA,dA,dA,dA,dA,dA,dT,fun vals y z h=>fun d p=>(z 7 (.inl rfl)).trans (h d ((z 6 (.inr dc)).symm.trans p)),fun vals y z h=>fun d p=>(z 8 (.inl rfl)).trans (h d ((z 6 (.inr dc)).symm.trans p)),dA,fun vals y z h=>fun d p=>(z 10 (.inl rfl)).trans (h d ((z 6 (.inr dc)).symm.trans p)),dA,zl⟩)
 refine ob1 0 fun _ _ (Y:Sep _ _ _ _) Z=>(obl rfl ?_)
 have aa:no.toNat<g.length:=bo
 obtain⟨_,_,P,rfl,hoke148⟩:=Y.rowAtD (i:=2) (j:=no.toNat) rfl aa
 exact lD ((g.gd no.toNat).v) uT (Z 2 dc) (P.get (j:=1) rfl) dR
 refine ob1 0 fun vals _ (az:Sep _ _ _ _) Q=>(obl rfl ?_)
 obtain⟨G69,aA,hB72,aB,aC⟩:=az.lend
 have F:=RowE.rd aA
 have hrd75s:_*8≤_:=F.small
 refine(zW (vals:=[(g.gd no.toNat).v,Iv arg]) rfl (yM ⟨(Q 3 dc),(Q 5 dc),zl⟩) nY (Wb F om aB hasc) ?_)
 rintro _ w78 ⟨d,rfl,e,aD⟩
 have aE:=aC _ _ aD
 exact fun y z C=>⟨(exiA d (zA z (zA e aE))),zl⟩
 refine ob1 1 fun _ _ ab _=>?_
 obtain⟨d,m,e,hS170⟩:=ab
 refine obl rfl (zP m (fun y z C=>⟨rfl,?_⟩))
 intro H p
 rw[C 6 (by decide)]at p;cases m.symm.trans p
 exact z
 refine ob1 1 fun vals _ ac ad=>?_
 obtain⟨d,m,e,hS177⟩:=ac
 have aF:=ad 7 dc d m
 refine obl rfl (zz aF rfl (fun y z C=>⟨rfl,?_⟩))
 intro H p
 rw[C 6 (by decide)]at p;cases m.symm.trans p
 exact z
 refine ob1 1 fun vals _ ae af=>?_
 obtain⟨d,m,e,hS185⟩:=ae
 have aG:=af 7 dc d m
 exact obl rfl (zz aG rfl dR)
 refine ob1 1 fun vals _ ag ah=>?_
 obtain⟨d,m,e,hS193⟩:=ag
 have aH:=ah 8 dc d m
 refine obl rfl (zM aH (fun y z C=>⟨rfl,?_⟩))
 intro H p
 rw[C 6 (by decide)]at p;cases m.symm.trans p
 exact z
 intro vals aI ai I
 obtain⟨d,m,e,D⟩:=ai
 have aJ:=I 10 dc d m
 have aK:=I 11 dc
 refine yg (kv:=[(0,.agg #[Iv (fl.kind),Iv (fl.policy),.bool (fl.floor),dm,vc,Iv no,Iv arg]),(1,Ix M 0),(5,.agg #[Iv (fl.kind),Iv (fl.policy),.bool (fl.floor),dm,vc,Iv no,Iv arg]),(6,Ix (sb vc) (so vc+no.toNat*2)),(2,Ix (sb vc) (so vc+no.toNat*2)),(3,Iw d),(4,.bool (decide (arg∈((l.gd no.toNat).set))))]) ⟨rfl,rfl,rfl,rfl,rfl,(by exact aJ),(by exact aK),zl⟩ (fun ρw202=>(zb (za (R0 fun _=>st (mV (.bool (decide (arg∈((l.gd no.toNat).set)))) (zb ?_))))))
 cases t:decide (arg∈((l.gd no.toNat).set))
 have t:=fD t
 refine ze rfl (zp (Xe pY ?_))
 have aj:Sep _ _ ((CelW vc 105 3 l)::_) _:=CelW.close0 A.1 A.2 om D
 have ak:Sep G W ((CelW vc 105 3 (l.set no.toNat (xd fl (yE l no) 4 arg)))::ay::Rs) aI:=by
  rw[Ku (show ¬arg∈(yE l no).set from t),show l.set no.toNat (yE l no)=l from ZH default (by omega)]
  exact aj
 refine⟨rfl,(ak.s2_a)⟩
 have t:=tD t
 refine zg rfl (R0 fun _=>st (mV n (st (mV n (st (zm rfl (st (yY rfl ?_))))))))
 have al:no.toNat<g.length:=bo
 obtain⟨_,_,R,rfl,hoke212⟩:=D.rowAtD (i:=2) (j:=no.toNat) rfl al
 refine st (lD ((g.gd no.toNat).v) uT rfl (R.get (j:=1) rfl) (st (mV (Iw d) (st (mV (Iw d) ?_)))))
 have am:InR ((d+1:Nat):Int):=bo
 refine st (zO (r:=((d+1:Nat):Int)) rfl rfl (by rw[show(((d:Nat):Int)+1:Int)=((d+1:Nat):Int)from bo];exact zw am) (st (cL Tryz.call144 (zag D ((zaA (l:=(l.getD no.toNat default).set) hasc e.1 e.2.1 e.2.2 t).1)) ?_)))
 rintro E w216 ⟨_,rfl,J⟩
 have B:=J.r0
 refine st (zm rfl (st (yY rfl ?_)))
 have an:=(J.mv2).emp1
 refine stn (yJ (α:=CelS) (j:=no.toNat) (o:=1) (us:=[E]) (x1:=(⟨(g.getD no.toNat default).n,E⟩:CelS)) an vR bo rfl rfl (congrArg Array.toList (xw B.1.one)) (yQ rfl) (yo ⟨B.1.one,zl⟩) (fun _ _ _ hel _=>(by rw[←zJ default (by omega)]at hel;obtain⟨rfl,hok⟩:=hel;exact⟨rfl,⟨hok.n,B.1.one⟩⟩)) ?_)
 intro aL K
 have ao:=K.r0
 refine zb (Xe pY ?_)
 have L:Sep _ _ ((CelW vc 105 3 (l.set no.toNat (⟨(l.gd no.toNat).n,(((l.gd no.toNat).set).take d++((l.gd no.toNat).set).drop (d+1))⟩:Cel)))::_) _:=CelW.close (i:=no.toNat) (s:=(⟨(g.gd no.toNat).n,E⟩:CelS)) A.1 A.2 om (A.2 _ om) (K.s4_bcad)
 have ap:Sep G W ((CelW vc 105 3 (l.set no.toNat (xd fl (yE l no) 4 arg)))::ay::Rs) aL:=by
  rw[zad];rw[(zaA (l:=(l.getD no.toNat default).set) hasc e.1 e.2.1 e.2.2 t).2]at L
  exact L
 refine⟨rfl,(ap.s2_a)⟩
theorem D_rdo {op:Int}{x:Rul}{fl:Fld}{dm vc:Value}{no arg:Int}{l:List Cel}(hS0:Sep G W ((CelW vc 105 3 l)::Rs) w)(hno:0≤no∧no<l.length)(hno0:InR no)(harg:InR arg)(hx:yi ZO op=some x)(hop:op=1∨op=2∨op=3∨op=4∨op=5)(hdm:RdS W G dm fl.moves)(hak:((op=3∨op=4)→Asc (yE l no).set)∧(op=5→0≤arg∧arg<fl.moves.length))(hfew:op=3→(yE l no).set.length≤1000):Ret Tryz.prog x.does [.agg #[.int .i64 (fl.kind),.int .i64 (fl.policy),.bool (fl.floor),dm,vc,.int .i64 (no),.int .i64 (arg)]] w (fun r w'=>r=(.tuple #[]:Value)∧Sep G W ((CelW vc 105 3 (l.set no.toNat (xd fl (yE l no) op arg)))::Rs) w'):=by
 rcases hop with rfl|rfl|rfl|rfl|rfl<;>cases hx
 ·exact zbZ hS0 hno hno0 harg
 ·exact zbX hS0 hno hno0 harg
 ·exact zbB hS0 hno hno0 harg (hak.1 (.inl rfl)) (hfew rfl)
 ·exact zbx hS0 hno hno0 harg (hak.1 (.inr rfl))
 ·exact zaR hS0 hno hno0 harg hdm (hak.2 rfl)
theorem SetRows.step {Ti:TypeId}{sh:List CelS}{l:List Cel}{k:Nat}(s:CelS)(hlen:sh.length=l.length)(hk:k<l.length):SetRows Ti ((sh.set k s).take (k+1)) (l.take (k+1))=SetRows Ti (sh.take k) (l.take k)++[RowE (α:=Int) own Ti s.v (l.getD k default).set]:=by
 have e1:(sh.set k s).take (k+1)=sh.take k++[s]:=by
  rw[List.take_succ_eq_append_getElem (by rw[List.length_set];omega),List.getElem_set_self,List.take_set_of_le (Nat.le_refl _)]
 have e2:l.take (k+1)=l.take k++[l.getD k default]:=by rw[List.take_succ_eq_append_getElem hk,zJ _ hk]
 rw[e1,e2]
 exact SetRows.snoc s _ (by rw[List.length_take,List.length_take];omega)
theorem zax {sh:List CelS}{l:List Cel}{k:Nat}{v:Value}(hlen:sh.length=l.length)(hn: ∀i,i<l.length→(sh.getD i default).n=(l.getD i default).n)(hk:k<l.length): ∀i,i<l.length→((sh.set k ⟨(sh.getD k default).n,v⟩).getD i default).n=(l.getD i default).n:=by
 intro i hi
 have h:=(Ky (s:=⟨(sh.getD k default).n,v⟩) (c:=l.getD k default) hlen hn (hn k hk) hk).2 i (by rw[List.length_set];exact hi)
 rwa [ZH default hk]at h
theorem zan {t:Typ}{c:List Cel}{f op arg:Int}(hf:f.toNat<c.length)(h:op≠1∧op≠2∧op≠3∧op≠4∧op≠5):doL t c f op arg=c:=by
 unfold doL xd
 rw[if_neg h.1,if_neg h.2.1,if_neg h.2.2.1,if_neg h.2.2.2.1,if_neg h.2.2.2.2]
 exact ZH default hf
set_option maxHeartbeats 4000000 in
theorem D_Do {t:Typ}{dt0:Value}(hdt0:RdS W G dt0 t.fields)(ot:t.Ok){vc:Value}{c:List Cel}(hc:RdS W G vc c){f:Int}(hf:InR f){op:Int}(hop:InR op){arg:Int}(harg:InR arg)(hS0:Sep G W Rs w)(hak:Wy t c f op arg)(hfew:op=3→(yE c f).set.length≤1000):Ret Tryz.prog 99 [.agg (t.cells dt0).toArray,vc,.int .i64 (f),.int .i64 (op),.int .i64 (arg)] w (fun r w'=> ∃(v:Value),r=(v:Value)∧Sep G W ((RowE (α:=Cel) own 105 v (doL t c f op arg))::Rs) w'):=by
 let aP:=zT W (sb dt0) (so dt0+f.toNat*4+3)
 have hcs:_*32≤_:=hc.small
 have hf0:=hak.1;have hf1:=hak.2.1;have hf2:=hak.2.2.1
 refine zn Tryz.func99 rfl rfl ?_
 refine za (R0 fun _=>st (zX rfl ?_))
 intro w3 b2 aO
 let aT:=Blk b2 (t.cells dt0).toArray 83
 refine st (aS Iz (zb (za (R0 fun _=>st (mV vc (st (cL Tryz.call88 (Vk hc (hS0.new aO)) ?_)))))))
 rintro d w6 ⟨_,rfl,aA⟩
 have aQ:=aA.r0
 have hr8s:_*32≤_:=aQ.2
 obtain⟨m,aD,aE,aF⟩:=aA.celShare
 have C:Sep G W ((RowE (α:=CelS) own 105 d m)::aT::Rs) w6:=aF
 have Q:=C.r0
 have hr13s:_*32≤_:=Q.2
 refine st (aS d (zb (za (za (R0 fun _=>st (mV d (st (zC oR rfl Q.1 (st (mV (Iv 0) (zb (zt ?_))))))))))))
 have aG:Sep G W ((Star [])::(RowE (α:=CelS) own 105 d m)::aT::Rs) w6:=C.nilStar
 refine zZ (fun mq σ R=> ∃k shk ρ,mq=c.length-k∧σ=yf ρ [(1,vc),(2,Iv f),(3,Iv op),(4,Iv arg),(5,Ix b2 0),(10,(Iz)),(11,d),(18,Iw m.length),(19,Iw k)]∧(k≤c.length)∧(shk.length=c.length)∧(∀i,i<c.length→(shk.gd i).n=(c.gd i).n)∧Sep G W ((RowE own 105 d shk)::(Star (SetRows 3 (shk.take k) (c.take k)))::(Blk b2 (t.cells dt0).toArray 83)::Rs) R) ⟨0,m,_,rfl,sSf,zY _,aD,(fun i h=>(aE i h).1),(aG.mv1)⟩ ?_
 rintro m17 σ18 aR ⟨k,shk,ρl1,rfl,rfl,hkk,hshl,hshn,g⟩
 have A:=g.r0
 have hr20s:_*32≤_:=A.2
 refine za (R0 fun _=>st (zK rfl rfl (zb (za ?_))))
 cases y:decide (((k:Nat):Int)<((m.length:Nat):Int))
 have y:=fD y
 refine ze rfl (ya (zR (za (za (R0 fun _=>?_)))))
 have hkl:k=c.length:=by omega
 rw[hkl]at g
 rw[List.take_of_length_le (Nat.le_of_eq hshl),List.take_length]at g
 have aH:Sep G W ((CelW d 105 3 c)::aT::Rs) aR:=CelW.mk g ⟨hshl,hshn⟩
 refine st (cL Tryz.call118 (Jf aH) ?_)
 rintro _ w24 ⟨D,rfl,z⟩
 refine st (mV (Iv op) ?_)
 have hops:(op=1∨op=2∨op=3∨op=4∨op=5)∨(op≠1∧op≠2∧op≠3∧op≠4∧op≠5):=by omega
 rcases hops with hop|hop
 obtain⟨rx,hrx⟩:=Ua hop
 refine st (Xh (α:=Rul) (a:=rx) qY rY rfl rfl (z.map_ (i:=0) rfl) hrx ?_)
 rintro _ rfl
 refine st (mV (.tuple #[.agg #[.func (.func rx.may) #[] #[],.func (.func rx.does) #[] #[]],.bool true]) (st (zz rfl rfl (st (zz rfl rfl (st (zG wR ?_)))))))
 intro w28 E aI
 have S:=z.new aI
 refine stn (zy (v:=.agg #[.func (.func rx.may) #[] #[],.func (.func rx.does) #[] #[]]) sY rfl rfl (S.b0) (yo ⟨rfl,rfl,zl⟩) yqc rfl ?_)
 intro w30 aJ
 refine st (aS (.bool true) (zb (za (R0 fun _=>st (mV (.bool true) (zb (zg rfl ?_)))))))
 refine WD4 ((fun TT aB aC=>WF [fun vals R=>Sep G W (aB::aC::(CelW d 105 3 c)::TT) R,fun vals R=>(vals 11=(.tuple #[]:Value))∧Sep G W ((CelW d 105 3 (c.set f.toNat (xd (t.fields.gd f.toNat) (yE c f) op arg)))::aB::aC::TT) R]) (aT::Rs) (Blk E #[.func (.func rx.may) #[] #[],.func (.func rx.does) #[] #[]] 179) (YS D ZO)) (AF [Vl 0 (Ix E 1),Vl 1 (.func (.func rx.does) #[] #[]),Vl 2 (Ix b2 0),Vl 3 dt0,Vl 4 (Iv f),Vl 5 (Ix (sb dt0) (so dt0+f.toNat*4)),Vl 6 (.agg ((t.fields.gd f.toNat).cells aP).toArray),Vl 7 d,Vl 8 (Iv f),Vl 9 (Iv arg),Vl 10 (.agg #[Iv ((t.fields.gd f.toNat).kind),Iv ((t.fields.gd f.toNat).policy),.bool ((t.fields.gd f.toNat).floor),aP,d,Iv f,Iv arg]),fun _=>True]) [[],[0],[],[2],[],[2,3,4],[2,3,4,5],[],[],[],[2,3,4,5,6,7,8,9],(rg 11)] [11] [(0,0),(0,0),(0,0),(0,0),(0,0),(0,0),(0,0),(0,0),(0,0),(0,0),(0,0),(0,0)] (S.pt0 aJ) ⟨fun _ _ _ _ _ _ _=>obl rfl (zct rfl dR),ob1 0 fun _ _ (ac:Sep _ _ _ _) ad=>obl rfl (lD (.func (.func rx.does) #[] #[]) Tryz.isAgg177 (ad 0 dc) (zd (ac.b0) rfl) dR),fun _ _ _ _ _ _ _=>obl rfl (yU rfl dR),ob1 0 fun _ _ (ae:Sep _ _ _ _) af=>obl rfl (lD dt0 sT (af 2 dc) (zd (ae.b3) rfl) dR),fun _ _ _ _ _ _ _=>obl rfl (mV (Iv f) dR),?_,?_,fun _ _ _ _ _ _ _=>obl rfl (mV d dR),fun _ _ _ _ _ _ _=>obl rfl (mV (Iv f) dR),fun _ _ _ _ _ _ _=>obl rfl (mV (Iv arg) dR),?_,?_,zl⟩ ?_
 refine ob1 0 fun _ _ _ F=>(obl rfl ?_)
 have hi178:f.toNat<t.fields.length:=(by have T:=hak.1;have U:=hak.2.1;have V:=hak.2.2.1;omega)
 exact zB (k:=4) (i:=f) mT lT (F 3 dc) hdt0.sl (F 4 dc) ⟨by omega,by omega⟩ dR
 refine ob1 0 fun _ _ (ag:Sep _ _ _ _) ah=>(obl rfl ?_)
 have H:f.toNat<t.fields.length:=(by have T:=hak.1;have U:=hak.2.1;have V:=hak.2.2.1;omega)
 obtain⟨X,B,hoke187⟩:=hdt0.fldD H
 have Y:=ag.cells X (hdt0.foot (ne_of_lt H))
 exact zh vT lT rfl (ah 5 dc) Y dR
 exact fun _ _ _ _ _ _ p=>obl rfl (zV (parts':=[(0,.agg ((t.fields.getD f.toNat default).cells aP).toArray),(1,d),(2,Iv f),(3,Iv arg)]) (v:=.agg #[Iv ((t.fields.getD f.toNat default).kind),Iv ((t.fields.getD f.toNat default).policy),.bool ((t.fields.getD f.toNat default).floor),aP,d,Iv f,Iv arg]) (Za ⟨rfl,(p 6 (by decide)),rfl,(p 7 (by decide)),rfl,(p 8 (by decide)),rfl,(p 9 (by decide)),zl⟩) (by obtain⟨_,_,ai,_⟩:=A.1;rw[show d=Value.slice _ _ _ from ai];simp[Instr.build,Instr.fill,go_sem,YN]) dR)
 refine ob1 0 fun vals _ (aj:Sep _ _ _ _) I=>(obl rfl ?_)
 have J:=aj.mv2
 have K:f.toNat<t.fields.length:=(by have T:=hak.1;have U:=hak.2.1;have V:=hak.2.2.1;omega)
 obtain⟨Z,s,hoke128⟩:=hdt0.fldD K
 refine(zW (vals:=[.agg #[Iv ((t.fields.gd f.toNat).kind),Iv ((t.fields.gd f.toNat).policy),.bool ((t.fields.gd f.toNat).floor),aP,d,Iv f,Iv arg]]) (I 1 dc) (yM ⟨(I 10 dc),zl⟩) (Ue hop hrx).2 (D_rdo J (⟨hak.1,hak.2.2.1⟩) hf harg hrx hop s (⟨hak.2.2.2.1,fun h=>⟨(hak.2.2.2.2 h).1,(hak.2.2.2.2 h).2.1⟩⟩) hfew) ?_)
 rintro _ w132 ⟨rfl,ak⟩
 exact fun vals' hv hv'=>⟨(zA hv ak),zl⟩
 intro vals aK al hA222
 obtain⟨he134,am⟩:=al
 refine yg (kv:=[(1,vc),(2,Iv f),(3,Iv op),(4,Iv arg),(5,Ix b2 0),(10,(Iz)),(11,d),(18,Iw m.length),(19,Iw k),(20,.bool false),(34,.map (some D)),(35,Iv op),(36,.tuple #[.agg #[.func (.func rx.may) #[] #[],.func (.func rx.does) #[] #[]],.bool true]),(33,.tuple #[.agg #[.func (.func rx.may) #[] #[],.func (.func rx.does) #[] #[]],.bool true]),(37,.agg #[.func (.func rx.may) #[] #[],.func (.func rx.does) #[] #[]]),(38,.bool true),(13,Ix E 0),(14,.bool true),(39,.bool true)]) sEv (fun ρw220=>(zb (za (R0 fun _=>st (mV d (st (aS d (zb (zq (zU tY rfl ?_))))))))))
 have an:Sep _ _ ((RowE (α:=Cel) own 105 d (c.set f.toNat (xd (t.fields.gd f.toNat) (yE c f) op arg)))::_) _:=CelW.row am
 have ao:Sep G W ((RowE (α:=Cel) own 105 d (doL t c f op arg))::(Blk E #[.func (.func rx.may) #[] #[],.func (.func rx.does) #[] #[]] 179)::(YS D ZO)::aT::Rs) aK:=an
 refine⟨d,rfl,(ao.s4_a)⟩
 refine st (Xf (α:=Rul) (zc:=[.nilFunc,.nilFunc]) qY rY wR rfl rfl (z.map_ (i:=0) rfl) (Vr hop) (st (mV (.tuple #[.agg #[.nilFunc,.nilFunc],.bool false]) (st (zz rfl rfl (st (zz rfl rfl (st (zG wR ?_)))))))))
 intro w229 aL ap
 have L:=z.new ap
 refine stn (zy (v:=.agg #[.nilFunc,.nilFunc]) sY rfl rfl (L.b0) (yo ⟨rfl,rfl,zl⟩) yqc rfl ?_)
 intro aM aq
 refine st (aS (.bool false) (zb (za (R0 fun _=>st (mV (.bool false) (zb (ze rfl (zp (za (R0 fun _=>st (mV d (st (aS d (zb (zq (zU tY rfl ?_))))))))))))))))
 have ar:Sep _ _ ((RowE (α:=Cel) own 105 d c)::_) _:=CelW.row ((L.pt0 aq).mv2)
 have au:Sep G W ((RowE (α:=Cel) own 105 d (doL t c f op arg))::(Blk aL #[.nilFunc,.nilFunc] 179)::(YS (α:=Rul) D ZO)::(Blk b2 (t.cells dt0).toArray 83)::Rs) aM:=by rw[zan (by omega) hop];exact ar
 refine⟨d,rfl,(au.s4_a)⟩
 have y:=tD y
 refine zg rfl (zp (za (zt (za (R0 fun _=>st (mV (Iw k) (st (aS (Iw k) (zb (R0 fun _=>st (mV d (st (mV (Iw k) (st (mV vc (st (mV (Iw k) ?_)))))))))))))))))
 have av:k<c.length:=(by have T:=hak.1;have U:=hak.2.1;have V:=hak.2.2.1;omega)
 refine st (zf oR uR rfl hc.sl rfl av (st (yY rfl ?_)))
 have M:k<c.length:=(by have T:=hak.1;have U:=hak.2.1;have V:=hak.2.2.1;omega)
 obtain⟨aa,x,hoke239⟩:=hc.celD M
 have ab:=g.cells aa (hc.foot (ne_of_lt M))
 refine st (lD (zT W (sb vc) (so vc+k*2+1)) uT rfl (ab.get (j:=1) rfl) (st (cL Tryz.call85 (Yj x g) ?_)))
 rintro e w244 ⟨_,rfl,N⟩
 have q:=N.r0
 have aw:k<shk.length:=(by have T:=hak.1;have U:=hak.2.1;have V:=hak.2.2.1;omega)
 refine st (zf oR uR rfl A.1 rfl aw (st (yY rfl ?_)))
 have ax:=(N.mv1).emp1
 refine stn (yJ (α:=CelS) (j:=k) (o:=1) (us:=[e]) (x1:=(⟨(shk.getD k default).n,e⟩:CelS)) ax vR bo rfl rfl (congrArg Array.toList (xw q.1.one)) (yQ rfl) (yo ⟨q.1.one,zl⟩) (fun _ _ _ hel _=>(by rw[←zJ default (by omega)]at hel;obtain⟨rfl,hok⟩:=hel;exact⟨rfl,⟨hok.n,q.1.one⟩⟩)) ?_)
 intro aN O
 have ay:=O.r0
 refine zb (R0 fun _=>?_)
 have az:InR ((k+1:Nat):Int):=bo
 refine st (zO (r:=((k+1:Nat):Int)) rfl rfl (by rw[show(((k:Nat):Int)+1:Int)=((k+1:Nat):Int)from bo];exact zw az) (st (mV (Iw (k+1)) (zb ?_))))
 have P:Sep G W ((Star (SetRows 3 (shk.take k) (c.take k)++[(RowE (α:=Int) own 3 e ((c.gd k).set))]))::(RowE own 105 d (shk.set k (⟨(shk.gd k).n,e⟩:CelS)))::aT::Rs) aN:=(O.s4_bcad).snocStar
 rw[←SetRows.step (⟨(shk.getD k default).n,e⟩:CelS) hshl (by omega)]at P
 exact⟨_,by omega,k+1,shk.set k (⟨(shk.getD k default).n,e⟩:CelS),_,rfl,sSf,by omega,by rw[List.length_set];exact hshl,(zax hshl hshn (by omega)),(P.mv1)⟩
theorem ZV {P:Program}{σ:Env}{w:World}{fn:Func}{a u:Tmp}{t:TypeId}{R:Value→World→Prop}{b k:Nat}{cs:List Value}{v':Value}(hr:fn.results=#[.cell a t,.tmp u])(hA: ∀w,(isAgg t).run P w=.ok true w)(hS: ∀w,(sizeOf t).run P w=.ok k w)(hk:cs.length=k)
 (hv:σ a=.pointer (some ⟨b,0,none⟩)) (hc:CellsAt w b 0 cs) (hu:σ u=v') (h:R (.tuple #[.agg cs.toArray,v']) w):Wt P fn R .ret σ w:=by
 subst hk
 refine⟨_,fun tmps ht=>?_,h⟩
 have:=xt (P:=P) (w:=w) b 0 cs 0 #[] (fun j hj=>by simpa using hc j hj)
 have e:tmps[a]?.getD undef=.pointer (some ⟨b,0,none⟩):=by rw[←hv,←ht a];simp
 have e2:tmps[u]?.getD undef=v':=by rw[←hu,←ht u];simp
 simp[results,hr,e,e2,asAddr,loadVar,hA,hS,loadCells,this,go_sem]
def yX (t:Typ)(n:Int):Int:=if n<0∨(t.fields.length:Int)≤n then 0 else(t.fields.getD n.toNat default).kind
def Qx (t:Typ)(f:Fld):Prop:=(1≤f.kind∧f.kind≤4)∧(f.floor=true→f.kind=1)∧ ∀j,j<f.moves.length→(f.moves.getD j default).need= -1∨yX t (f.moves.getD j default).need=1
def zdj (f:Fld):Prop:=(f.kind=4→1≤f.moves.length)∧f.moves.length≤16
def FewT (t:Typ):Prop:=(1≤t.fields.length∧t.fields.length≤8)∧ ∀j,j<t.fields.length→zdj (t.fields.getD j default)
def VW (p:Prj):Prop:=0≤p.pby∧(1≤p.pgroup∧p.pgroup≤3)∧1≤p.pmake∧p.pmake≤5
def Xq (d:Dcl):Prop:=d.projs.length≤8∧ ∀i,i<d.projs.length→VW (d.projs.getD i default)
theorem Jk {t:Typ}{n:Int}(h:yX t n=2):0≤n:=by
 unfold yX at h
 split at h
 ·cases h
 ·omega
def FewD (d:Dcl):Prop:=(1≤d.types.length∧d.types.length≤8)∧ ∀i,i<d.types.length→FewT (d.types.getD i default)
theorem xf {p:Nat→Prop}{k:Nat}(h: ∀i,i<k→p i)(hk:p k): ∀i,i<k+1→p i:=fun i hi=>by
 by_cases e:i=k
 ·rw[e];exact hk
 ·exact h i (by omega)
theorem zds {d:Dcl}(h1:FewD d)(h2: ∀i,i<d.types.length→ ∀j,j<(d.types.getD i default).fields.length→Qx (d.types.getD i default) ((d.types.getD i default).fields.getD j default)):DclOk d:=by
 refine⟨h1.1.1,h1.1.2,fun i hi=>?_⟩
 have f1:=h1.2 i hi
 have f2:=h2 i hi
 refine⟨f1.1.1,f1.1.2,fun j hj=>(f2 j hj).1,fun j hj=>(f2 j hj).2.1,fun j hj=>f1.2 j hj,fun j hj q hq=>?_⟩
 rcases(f2 j hj).2.2 q hq with h|h
 ·exact .inl h
 ·right
  unfold yX at h
  split at h
  ·omega
  ·rename_i hn
   exact⟨by omega,by omega,h⟩
theorem zcK {d:Dcl}{dd0:Value}(hdd0:RdS W G dd0 d.types){dd1:Value}(hdd1:RdS W G dd1 d.projs)(od:d.Ok)(hS0:Sep G W Rs w):Ret Tryz.prog 28 [.agg (d.cells dd0 dd1).toArray] w (fun r w'=> ∃(b:Bool),r=(.bool b:Value)∧Sep G W Rs w'):=by
 refine zn Tryz.func28 rfl rfl ?_
 refine za (R0 fun _=>st (zX rfl ?_))
 intro w3 b2 N
 have s:=hS0.new N
 refine st (aS (.bool false) (zb (za (za (zF kr (st (yH rfl (st (lD dd0 nT rfl (zd (s.b0) rfl) (st (zC oT rfl hdd0.sl (st (xh rfl rfl (st (mV (.bool (decide (20<((d.types.length:Nat):Int)))) (stc (V:=Ix b2 1) rfl rfl (fun O=>?_) ?_))))))))))))))))
 exact xJ rfl rflB
 refine stc (V:=dd1) rfl rfl (fun D=>?_) ?_
 exact lD dd1 qR (ifpC D) (zd (s.b0) rfl) rflB
 refine stc (V:=Iw d.projs.length) rfl rfl (fun E=>?_) ?_
 exact zC rR (ifpC E) hdd1.sl rflB
 refine stc (V:=.bool (decide (20<((d.projs.length:Nat):Int)))) rfl rfl (fun t=>?_) ?_
 exact xh (ifpC t) rfl rflB
 refine st (zI rfl (fun hbp=>(ifpC hbp)) (zb ?_))
 cases u:(decide (20<((d.types.length:Nat):Int)))||(decide (20<((d.projs.length:Nat):Int)))
 try simp only[zi]at u
 refine ze rfl (zp (za (za (R0 fun _=>st (aS (Iv 0) (zb (zt (zZ (fun mq σ F=> ∃k ρ,mq=d.types.length-k∧σ=yf ρ [(1,Ix b2 0),(3,Iw k)]∧(k≤d.types.length)∧Sep G W ((Blk b2 (d.cells dd0 dd1).toArray 25)::Rs) F) ⟨0,_,rfl,sSf,zY _,s⟩ ?_))))))))
 rintro m15 σ16 w14 ⟨k,ρl1,rfl,rfl,hkk,f⟩
 let P:=zT W (sb dd0) (so dd0+k*1+0)
 refine za (za (R0 fun _=>st (mV (Iw k) (st (yH rfl (st (lD dd0 nT rfl (zd (f.b0) rfl) (st (zC oT rfl hdd0.sl (st (zK rfl rfl (zb ?_))))))))))))
 cases h:decide (((k:Nat):Int)<((d.types.length:Nat):Int))
 have h:=fD h
 refine ze rfl (ya (zR (za (R0 fun _=>st (aS (.bool false) (zb (zq (zU sR rfl ?_))))))))
 refine⟨false,rfl,(f.s1_)⟩
 have h:=tD h
 refine zg rfl (zp (za (zt (za (za (R0 fun _=>st (yH rfl (st (lD dd0 nT rfl (zd (f.b0) rfl) (st (mV (Iw k) ?_)))))))))))
 have H:k<d.types.length:=bo
 refine st (zf oT rT rfl hdd0.sl rfl H (st (yU rfl ?_)))
 have l:k<d.types.length:=bo
 obtain⟨m,c,hoke21⟩:=hdd0.typD l
 have y:=f.cells m (hdd0.foot (ne_of_lt l))
 refine st (lD P sT rfl (y.get rfl) (st (zC mT rfl c.sl (st (xh rfl rfl (zb ?_))))))
 cases o:decide (20<((((d.types.getD k default).fields).length:Nat):Int))
 have o:=fD o
 refine ze rfl (zp (za (R0 fun _=>st (aS (Iv 0) (zb (zt (zZ (fun mq σ F=> ∃j ρ,mq=(d.types.getD k default).fields.length-j∧σ=yf ρ [(1,Ix b2 0),(3,Iw k),(4,Iw j)]∧(j≤(d.types.getD k default).fields.length)∧Sep G W ((Blk b2 (d.cells dd0 dd1).toArray 25)::Rs) F) ⟨0,_,rfl,sSf,zY _,f⟩ ?_)))))))
 rintro m27 σ28 w26 ⟨j,ρl2,rfl,rfl,hkj,e⟩
 refine za (za (R0 fun _=>st (mV (Iw j) (st (yH rfl (st (lD dd0 nT rfl (zd (e.b0) rfl) (st (mV (Iw k) ?_)))))))))
 have I:k<d.types.length:=bo
 refine st (zf oT rT rfl hdd0.sl rfl I (st (yU rfl ?_)))
 have z:=e.cells m (hdd0.foot (ne_of_lt l))
 refine st (lD P sT rfl (z.get rfl) (st (zC mT rfl c.sl (st (zK rfl rfl (zb ?_))))))
 cases p:decide (((j:Nat):Int)<((((d.types.getD k default).fields).length:Nat):Int))
 have p:=fD p
 refine ze rfl (ya (zR (R0 fun _=>st (mV (Iw k) ?_))))
 have J:InR ((k+1:Nat):Int):=bo
 refine st (zO (r:=((k+1:Nat):Int)) rfl rfl (by rw[show(((k:Nat):Int)+1:Int)=((k+1:Nat):Int)from bo];exact zw J) (st (aS (Iw (k+1)) (zb ?_))))
 exact⟨_,by omega,k+1,_,rfl,sSf,by omega,e⟩
 have p:=tD p
 refine zg rfl (zp (za (zt (za (R0 fun _=>st (yH rfl (st (lD dd0 nT rfl (zd (e.b0) rfl) (st (mV (Iw k) ?_))))))))))
 have K:k<d.types.length:=bo
 refine st (zf oT rT rfl hdd0.sl rfl K (st (yU rfl ?_)))
 have A:=e.cells m (hdd0.foot (ne_of_lt l))
 refine st (lD P sT rfl (A.get (j:=0) rfl) (st (mV (Iw j) ?_)))
 have L:j<((d.types.getD k default).fields).length:=bo
 refine st (zf mT lT rfl c.sl rfl L (st (yT rfl ?_)))
 have x:j<((d.types.getD k default).fields).length:=bo
 obtain⟨B,g,hoke39⟩:=c.fldD x
 have C:=e.cells B (c.foot (ne_of_lt x))
 refine st (lD (zT W (sb P) (so P+j*4+3)) qT rfl (C.get (j:=3) rfl) (st (zC pT rfl g.sl (st (xh rfl rfl (zb ?_))))))
 cases q:decide (40<((((((d.types.getD k default).fields).getD j default).moves).length:Nat):Int))
 have q:=fD q
 refine ze rfl (zp (R0 fun _=>st (mV (Iw j) ?_)))
 have M:InR ((j+1:Nat):Int):=bo
 refine st (zO (r:=((j+1:Nat):Int)) rfl rfl (by rw[show(((j:Nat):Int)+1:Int)=((j+1:Nat):Int)from bo];exact zw M) (st (aS (Iw (j+1)) (zb ?_))))
 exact⟨_,by omega,j+1,_,rfl,sSf,by omega,e⟩
 have q:=tD q
 refine zg rfl (za (R0 fun _=>st (aS (.bool true) (zb (zq (zU sR rfl ?_))))))
 refine⟨true,rfl,(e.s1_)⟩
 have o:=tD o
 refine zg rfl (za (R0 fun _=>st (aS (.bool true) (zb (zq (zU sR rfl ?_))))))
 refine⟨true,rfl,(f.s1_)⟩
 refine zg rfl (za (R0 fun _=>st (aS (.bool true) (zb (zq (zU sR rfl ?_))))))
 refine⟨true,rfl,(s.s1_)⟩
theorem zaO {t:Typ}{dt0:Value}(hdt0:RdS W G dt0 t.fields)(ot:t.Ok){n:Int}(hn:InR n)(hS0:Sep G W Rs w):Ret Tryz.prog 56 [.agg (t.cells dt0).toArray,.int .i64 (n)] w (fun r w'=>r=(.int .i64 ((yX t n)):Value)∧Sep G W Rs w'):=by
 refine zn Tryz.func56 rfl rfl ?_
 refine za (R0 fun _=>st (zX rfl ?_))
 intro w3 b2 p
 have c:=hS0.new p
 refine st (aS (Iv 0) (zb (za (za (zF kr (st (mV (Iv n) (st (zK rfl rfl (st (mV (.bool (decide (n<0))) (stc (V:=Iv n) rfl rfl (fun q=>?_) ?_))))))))))))
 exact mV (Iv n) rflB
 refine stc (V:=Ix b2 0) rfl rfl (fun s=>?_) ?_
 exact yU rfl rflB
 refine stc (V:=dt0) rfl rfl (fun o=>?_) ?_
 exact lD dt0 sT (ifpC o) (zd (c.b0) rfl) rflB
 refine stc (V:=Iw t.fields.length) rfl rfl (fun f=>?_) ?_
 exact zC mT (ifpC f) hdt0.sl rflB
 refine stc (V:=.bool (decide (((t.fields.length:Nat):Int)≤n))) rfl rfl (fun d=>?_) ?_
 exact xv (ifpC d) (ifpC d) rflB
 refine st (zI rfl (fun hbp=>(ifpC hbp)) (zb ?_))
 cases g:(decide (n<0))||(decide (((t.fields.length:Nat):Int)≤n))
 try simp only[zi]at g
 refine ze rfl (zp (za (R0 fun _=>st (yU rfl (st (lD dt0 sT rfl (zd (c.b0) rfl) (st (mV (Iv n) ?_))))))))
 refine st (zB mT lT rfl hdt0.sl rfl ⟨by omega,by omega⟩ (st (xG rfl ?_)))
 have h:n.toNat<t.fields.length:=bo
 obtain⟨l,e,hoke17⟩:=hdt0.fldD h
 have m:=c.cells l (hdt0.foot (ne_of_lt h))
 refine st (lD (Iv ((t.fields.getD n.toNat default).kind)) kT rfl (m.get (j:=0) rfl) (st (aS (Iv ((t.fields.getD n.toNat default).kind)) (zb (zq (zU uY (show _=(Iv ((t.fields.getD n.toNat default).kind):Value)from rfl) ?_))))))
 refine⟨?_,(c.s1_)⟩
 unfold yX
 rw[ifnC (by omega)]
 try simp only[zi]at g
 refine zg rfl (za (R0 fun _=>st (aS (Iv 0) (zb (zq (zU uY (show _=(Iv 0:Value)from rfl) ?_))))))
 refine⟨?_,(c.s1_)⟩
 unfold yX
 rw[ifpC (by omega)]
theorem zdt {d:Dcl}{dd0:Value}(hdd0:RdS W G dd0 d.types){dd1:Value}(hdd1:RdS W G dd1 d.projs)(od:d.Ok)(hS0:Sep G W Rs w):Ret Tryz.prog 53 [.agg (d.cells dd0 dd1).toArray] w (fun r w'=> ∃(b:Bool),r=(.bool b:Value)∧(b=false→FewD d∧d.projs.length≤8)∧Sep G W Rs w'):=by
 let bj:=((d.types.length:Nat):Int)
 refine zn Tryz.func53 rfl rfl ?_
 refine za (R0 fun _=>st (zX rfl ?_))
 intro w3 b2 be
 have H:=hS0.new be
 refine st (aS (.bool false) (zb (za (za (zF kr (st (yH rfl (st (lD dd0 nT rfl (zd (H.b0) rfl) (st (zC oT rfl hdd0.sl (st (zS rfl rfl (st (mV (.bool (decide (bj=0))) (stc (V:=Ix b2 0) rfl rfl (fun bf=>?_) ?_))))))))))))))))
 exact yH rfl rflB
 refine stc (V:=dd0) rfl rfl (fun aI=>?_) ?_
 exact lD dd0 nT (ifpC aI) (zd (H.b0) rfl) rflB
 refine stc (V:=Iw d.types.length) rfl rfl (fun aJ=>?_) ?_
 exact zC oT (ifpC aJ) hdd0.sl rflB
 refine stc (V:=.bool (decide (8<bj))) rfl rfl (fun R=>?_) ?_
 exact xh (ifpC R) rfl rflB
 refine st (zI rfl (fun hbp=>(ifpC hbp)) (st (mV (.bool ((decide (bj=0))||(decide (8<bj)))) (stc (V:=Ix b2 1) rfl rfl (fun aL=>?_) ?_))))
 have aM:=aL
 try simp only[zi]at aM
 exact xJ rfl rflB
 refine stc (V:=dd1) rfl rfl (fun S=>?_) ?_
 have aN:=S
 try simp only[zi]at aN
 exact lD dd1 qR (ifpC S) (zd (H.b0) rfl) rflB
 refine stc (V:=Iw d.projs.length) rfl rfl (fun T=>?_) ?_
 have aO:=T
 try simp only[zi]at aO
 exact zC rR (ifpC T) hdd1.sl rflB
 refine stc (V:=.bool (decide (8<((d.projs.length:Nat):Int)))) rfl rfl (fun U=>?_) ?_
 have aP:=U
 try simp only[zi]at aP
 exact xh (ifpC U) rfl rflB
 refine st (zI rfl (fun hbp=>(ifpC hbp)) (zb ?_))
 cases X:((decide (((d.types.length:Nat):Int)=0))||(decide (8<((d.types.length:Nat):Int))))||(decide (8<((d.projs.length:Nat):Int)))
 try simp only[zi]at X
 refine ze rfl (zp (za (za (R0 fun _=>st (aS (Iv 0) (zb (zt (zZ (fun mq σ wq=> ∃k ρ,mq=d.types.length-k∧σ=yf ρ [(1,Ix b2 0),(3,Iw k)]∧(k≤d.types.length)∧(∀i,i<k→FewT (d.types.getD i default))∧Sep G W ((Blk b2 (d.cells dd0 dd1).toArray 25)::Rs) wq) ⟨0,_,rfl,sSf,zY _,(fun i h=>absurd h (yO i)),H⟩ ?_))))))))
 rintro m23 σ24 w22 ⟨k,ρl1,rfl,rfl,hkk,hm,m⟩
 let bl:=(d.types.getD k default).fields
 let bi:=((((d.types.getD k default).fields).length:Nat):Int)
 let bg:=zT W (sb dd0) (so dd0+k*1+0)
 refine za (za (R0 fun _=>st (mV (Iw k) (st (yH rfl (st (lD dd0 nT rfl (zd (m.b0) rfl) (st (zC oT rfl hdd0.sl (st (zK rfl rfl (zb ?_))))))))))))
 cases x:decide (((k:Nat):Int)<((d.types.length:Nat):Int))
 have x:=fD x
 refine ze rfl (ya (zR (za (R0 fun _=>st (aS (.bool false) (zb (zq (zU tR rfl ?_))))))))
 refine⟨false,rfl,?_,(m.s1_)⟩
 intro I
 exact⟨⟨by omega,fun i hi=>hm i om⟩,by omega⟩
 have x:=tD x
 refine zg rfl (zp (za (zt (za (R0 fun _=>st (yH rfl (st (lD dd0 nT rfl (zd (m.b0) rfl) (st (mV (Iw k) ?_))))))))))
 have aR:k<d.types.length:=bo
 refine st (zf oT rT rfl hdd0.sl rfl aR (st (yU rfl ?_)))
 have Y:k<d.types.length:=bo
 obtain⟨al,c,hoke29⟩:=hdd0.typD Y
 have am:=m.cells al (hdd0.foot (ne_of_lt Y))
 refine st (lD bg sT rfl (am.get (j:=0) rfl) (st (aS bg (zb (za (za (zF kr (st (mV bg (st (zC mT rfl c.sl (st (zS rfl rfl (st (mV (.bool (decide (bi=0))) (stc (V:=bg) rfl rfl (fun aT=>?_) ?_))))))))))))))))
 exact mV bg rflB
 refine stc (V:=Iw (bl.length)) rfl rfl (fun Z=>?_) ?_
 exact zC mT (ifpC Z) c.sl rflB
 refine stc (V:=.bool (decide (8<bi))) rfl rfl (fun aa=>?_) ?_
 exact xh (ifpC aa) rfl rflB
 refine st (zI rfl (fun hbp=>(ifpC hbp)) (zb ?_))
 cases ab:(decide (((((d.types.getD k default).fields).length:Nat):Int)=0))||(decide (8<((((d.types.getD k default).fields).length:Nat):Int)))
 try simp only[zi]at ab
 refine ze rfl (zp (za (R0 fun _=>st (aS (Iv 0) (zb (zt (zZ (fun mq σ wq=> ∃j ρ,mq=(d.types.getD k default).fields.length-j∧σ=yf ρ [(1,Ix b2 0),(3,Iw k),(4,(zT W (sb dd0) (so dd0+k*1+0))),(5,Iw j)]∧(j≤(d.types.getD k default).fields.length)∧(∀i,i<j→zdj ((d.types.getD k default).fields.getD i default))∧Sep G W ((Blk b2 (d.cells dd0 dd1).toArray 25)::Rs) wq) ⟨0,_,rfl,sSf,zY _,(fun i h=>absurd h (yO i)),m⟩ ?_)))))))
 rintro m41 σ42 w40 ⟨j,ρl2,rfl,rfl,hkj,aK,e⟩
 let bk:=zT W (sb bg) (so bg+j*4+3)
 let aQ:=((d.types.getD k default).fields).getD j default
 let bh:=(((aQ.moves).length:Nat):Int)
 let bm:=(decide (bh=0))||(decide (16<bh))
 refine za (za (R0 fun _=>st (mV (Iw j) (st (mV bg (st (zC mT rfl c.sl (st (zK rfl rfl (zb ?_))))))))))
 cases y:decide (((j:Nat):Int)<((((d.types.getD k default).fields).length:Nat):Int))
 have y:=fD y
 refine ze rfl (ya (zR (R0 fun _=>st (mV (Iw k) ?_))))
 have aU:InR ((k+1:Nat):Int):=bo
 refine st (zO (r:=((k+1:Nat):Int)) rfl rfl (by rw[show(((k:Nat):Int)+1:Int)=((k+1:Nat):Int)from bo];exact zw aU) (st (aS (Iw (k+1)) (zb ?_))))
 exact⟨_,by omega,k+1,_,rfl,sSf,by omega,(xf hm ⟨by omega,fun j9 I=>aK j9 om⟩),e⟩
 have y:=tD y
 refine zg rfl (zp (za (zt (za (zF kr (st (mV bg (st (mV (Iw j) ?_)))))))))
 have aV:j<((d.types.getD k default).fields).length:=bo
 refine st (zf mT lT rfl c.sl rfl aV (st (xG rfl ?_)))
 have o:j<((d.types.getD k default).fields).length:=bo
 let bn:=c.foot (ne_of_lt o)
 obtain⟨l,f,hoke47⟩:=c.fldD o
 have an:=e.cells l bn
 refine st (lD (Iv (aQ.kind)) kT rfl (an.get (j:=0) rfl) (st (zS rfl rfl (st (mV (.bool (decide ((aQ.kind)=4))) (stc (V:=bg) rfl rfl (fun aW=>?_) ?_))))))
 exact mV bg rflB
 refine stc (V:=Iw j) rfl rfl (fun aX=>?_) ?_
 exact mV (Iw j) rflB
 refine stc (V:=Ix (sb bg) (so bg+j*4)) rfl rfl (fun J=>?_) ?_
 have aY:j<((d.types.getD k default).fields).length:=bo
 exact zf mT lT (ifpC J) c.sl (ifpC J) aY rflB
 refine stc (V:=Ix (sb bg) (so bg+j*4+3)) rfl rfl (fun ac=>?_) ?_
 exact yT (ifpC ac) rflB
 refine stc (V:=bk) rfl rfl (fun ad=>?_) ?_
 have ao:=e.cells l bn
 exact lD bk qT (ifpC ad) (ao.get (j:=3) rfl) rflB
 refine stc (V:=Iw ((aQ.moves).length)) rfl rfl (fun ae=>?_) ?_
 exact zC pT (ifpC ae) f.sl rflB
 refine stc (V:=.bool (decide (bh=0))) rfl rfl (fun af=>?_) ?_
 exact zS (ifpC af) rfl rflB
 refine stc (V:=.bool (decide (bh=0))) rfl rfl (fun ag=>?_) ?_
 exact zP (ifpC ag) rflB
 refine yZ (V:=bg) rfl rfl (fun ah=>?_) ?_
 exact mV bg rflB
 refine yZ (V:=Iw j) rfl rfl (fun ai=>?_) ?_
 exact mV (Iw j) rflB
 refine yZ (V:=Ix (sb bg) (so bg+j*4)) rfl rfl (fun p=>?_) ?_
 have aZ:j<((d.types.getD k default).fields).length:=bo
 exact zf mT lT (ifpC ⟨p.1,p.2⟩) c.sl (ifpC ⟨p.1,p.2⟩) aZ rflB
 refine yZ (V:=Ix (sb bg) (so bg+j*4+3)) rfl rfl (fun z=>?_) ?_
 exact yT (ifpC ⟨z.1,z.2⟩) rflB
 refine yZ (V:=bk) rfl rfl (fun A=>?_) ?_
 have ap:=e.cells l bn
 exact lD bk qT (ifpC ⟨A.1,A.2⟩) (ap.get (j:=3) rfl) rflB
 refine yZ (V:=Iw ((aQ.moves).length)) rfl rfl (fun B=>?_) ?_
 exact zC pT (ifpC ⟨B.1,B.2⟩) f.sl rflB
 refine yZ (V:=.bool (decide (16<bh))) rfl rfl (fun C=>?_) ?_
 exact xh (ifpC ⟨C.1,C.2⟩) rfl rflB
 refine stc (V:=.bool bm) rfl rfl (fun K=>?_) ?_
 exact zI (ifpC K) (fun hbp=>(ifpC ⟨K,hbp⟩)) rflB
 refine st (zx rfl (fun hbp=>(ifpC hbp)) (st (mV (.bool ((decide ((aQ.kind)=4))&&bm)) (stc (V:=bg) rfl rfl (fun ba=>?_) ?_))))
 have bb:=ba
 exact mV bg rflB
 refine stc (V:=Iw j) rfl rfl (fun bc=>?_) ?_
 have bd:=bc
 exact mV (Iw j) rflB
 refine stc (V:=Ix (sb bg) (so bg+j*4)) rfl rfl (fun D=>?_) ?_
 have aq:=D
 have ar:j<((d.types.getD k default).fields).length:=bo
 exact zf mT lT (ifpC D) c.sl (ifpC D) ar rflB
 refine stc (V:=Ix (sb bg) (so bg+j*4)) rfl rfl (fun L=>?_) ?_
 have au:=L
 exact xG (ifpC L) rflB
 refine stc (V:=Iv (aQ.kind)) rfl rfl (fun M=>?_) ?_
 have av:=M
 have aj:=e.cells l bn
 exact lD (Iv (aQ.kind)) kT (ifpC M) (aj.get (j:=0) rfl) rflB
 refine stc (V:=.bool (!decide ((aQ.kind)=4))) rfl rfl (fun N=>?_) ?_
 have aw:=N
 exact yy (ifpC N) rfl rflB
 refine stc (V:=.bool (!decide ((aQ.kind)=4))) rfl rfl (fun O=>?_) ?_
 have ax:=O
 exact zP (ifpC O) rflB
 refine yZ (V:=bg) rfl rfl (fun P=>?_) ?_
 have ay:=P.1
 exact mV bg rflB
 refine yZ (V:=Iw j) rfl rfl (fun Q=>?_) ?_
 have az:=Q.1
 exact mV (Iw j) rflB
 refine yZ (V:=Ix (sb bg) (so bg+j*4)) rfl rfl (fun g=>?_) ?_
 have aA:=g.1
 have aB:j<((d.types.getD k default).fields).length:=bo
 exact zf mT lT (ifpC ⟨g.1,g.2⟩) c.sl (ifpC ⟨g.1,g.2⟩) aB rflB
 refine yZ (V:=Ix (sb bg) (so bg+j*4+3)) rfl rfl (fun q=>?_) ?_
 have aC:=q.1
 exact yT (ifpC ⟨q.1,q.2⟩) rflB
 refine yZ (V:=bk) rfl rfl (fun s=>?_) ?_
 have aD:=s.1
 have ak:=e.cells l bn
 exact lD bk qT (ifpC ⟨s.1,s.2⟩) (ak.get (j:=3) rfl) rflB
 refine yZ (V:=Iw ((aQ.moves).length)) rfl rfl (fun t=>?_) ?_
 have aE:=t.1
 exact zC pT (ifpC ⟨t.1,t.2⟩) f.sl rflB
 refine yZ (V:=.bool (!decide (bh=0))) rfl rfl (fun u=>?_) ?_
 have aF:=u.1
 try simp only[zi]at aF
 exact yy (ifpC ⟨u.1,u.2⟩) rfl rflB
 refine stc (V:=.bool ((!decide ((aQ.kind)=4))&&(!decide (bh=0)))) rfl rfl (fun E=>?_) ?_
 have aG:=E
 try simp only[zi]at aG
 exact zx (ifpC E) (fun hbp=>(ifpC ⟨E,hbp⟩)) rflB
 refine st (zI rfl (fun hbp=>(ifpC hbp)) (zb ?_))
 cases F:((decide (((((d.types.getD k default).fields).getD j default).kind)=4))&&((decide (((((((d.types.getD k default).fields).getD j default).moves).length:Nat):Int)=0))||(decide (16<((((((d.types.getD k default).fields).getD j default).moves).length:Nat):Int)))))||((!decide (((((d.types.getD k default).fields).getD j default).kind)=4))&&(!decide (((((((d.types.getD k default).fields).getD j default).moves).length:Nat):Int)=0)))
 try simp only[zi]at F
 refine ze rfl (zp (R0 fun _=>st (mV (Iw j) ?_)))
 have aH:InR ((j+1:Nat):Int):=bo
 refine st (zO (r:=((j+1:Nat):Int)) rfl rfl (by rw[show(((j:Nat):Int)+1:Int)=((j+1:Nat):Int)from bo];exact zw aH) (st (aS (Iw (j+1)) (zb ?_))))
 exact⟨_,by omega,j+1,_,rfl,sSf,by omega,(xf aK (by unfold zdj;have I:=F;omega)),e⟩
 refine zg rfl (za (R0 fun _=>st (aS (.bool true) (zb (zq (zU tR rfl ?_))))))
 refine⟨true,rfl,?_,(e.s1_)⟩
 intro I
 exact absurd I dc
 refine zg rfl (za (R0 fun _=>st (aS (.bool true) (zb (zq (zU tR rfl ?_))))))
 refine⟨true,rfl,?_,(m.s1_)⟩
 intro I
 exact absurd I dc
 refine zg rfl (za (R0 fun _=>st (aS (.bool true) (zb (zq (zU tR rfl ?_))))))
 refine⟨true,rfl,?_,(H.s1_)⟩
 intro I
 exact absurd I dc
theorem D_one {t:Typ}{dt0:Value}(hdt0:RdS W G dt0 t.fields)(ot:t.Ok){f:Fld}{df0:Value}(hdf0:RdS W G df0 f.moves)(of:f.Ok)(hS0:Sep G W Rs w):Ret Tryz.prog 54 [.agg (t.cells dt0).toArray,.agg (f.cells df0).toArray] w (fun r w'=> ∃(e:Int),r=(.int .i64 (e):Value)∧(InR e)∧(e=0→Qx t f)∧Sep G W Rs w'):=by
 let cl:=decide (f.policy=1)
 let ci:=decide (f.policy=3)
 let ch:=decide (f.policy=2)
 let ck:=ch&&(!decide (f.kind=1))
 let cg:=((decide (f.policy=1))||((decide (f.policy=2))&&(!decide (f.kind=1))))||((decide (f.policy=3))&&(decide (f.kind=2)))
 have hdt0s:_*48≤_:=hdt0.small
 have hdf0s:_*32≤_:=hdf0.small
 refine zn (args:=[.agg (t.cells dt0).toArray,.agg (f.cells df0).toArray]) Tryz.func54 rfl rfl ?_
 refine za (R0 fun _=>st (zX (v:=.agg (t.cells dt0).toArray) rfl ?_))
 intro w3 b2 cb
 refine st (zX (v:=.agg (f.cells df0).toArray) rfl ?_)
 intro w7 l cc
 have g:=(hS0.new cb).new cc
 refine st (aS (Iv 0) (zb (za (za (zF kr (st (xG rfl (st (lD (Iv (f.kind)) kT rfl (zd (g.b0) rfl) (st (zK (k:=.i64) (a:=f.kind) (b:=1) rfl rfl (st (mV (.bool (decide (f.kind<1))) (stc (V:=Ix l 0) rfl rfl (fun cd=>?_) ?_))))))))))))))
 have hl10:=fD cd
 exact xG rfl rflB
 refine stc (V:=Iv (f.kind)) rfl rfl (fun ay=>?_) ?_
 have hl12:=fD ay
 exact lD (Iv (f.kind)) kT (ifpC ay) (zd (g.b0) rfl) rflB
 refine stc (V:=.bool (decide (4<f.kind))) rfl rfl (fun az=>?_) ?_
 have hl14:=fD az
 exact xh (k:=.i64) (a:=f.kind) (b:=4) (ifpC az) rfl rflB
 refine st (zI (b:=decide (f.kind<1)) (b':=decide (4<f.kind)) rfl (fun hbp=>(ifpC hbp)) (zb ?_))
 cases aA:(decide (f.kind<1))||(decide (4<f.kind))
 try simp only[zi]at aA
 refine ze rfl (zp (za (zF kr (st (Xs rfl (st (lD (Iv (f.policy)) kT rfl (zd (g.b0) rfl) (st (zS (k:=.i64) (a:=f.policy) (b:=1) rfl rfl (st (mV (.bool cl) (stc (V:=Ix l 1) rfl rfl (fun bH=>?_) ?_))))))))))))
 have hl17:=fD bH
 exact Xs rfl rflB
 refine stc (V:=Iv (f.policy)) rfl rfl (fun aB=>?_) ?_
 have hl19:=fD aB
 exact lD (Iv (f.policy)) kT (ifpC aB) (zd (g.b0) rfl) rflB
 refine stc (V:=.bool ch) rfl rfl (fun aC=>?_) ?_
 have hl21:=fD aC
 exact zS (k:=.i64) (a:=f.policy) (b:=2) (ifpC aC) rfl rflB
 refine stc (V:=.bool ch) rfl rfl (fun aD=>?_) ?_
 have hl23:=fD aD
 exact zP (v:=.bool ch) (ifpC aD) rflB
 refine yZ (V:=Ix l 0) rfl rfl (fun aE=>?_) ?_
 have hl25:=fD aE.1
 have hl26:=tD aE.2
 exact xG rfl rflB
 refine yZ (V:=Iv (f.kind)) rfl rfl (fun F=>?_) ?_
 have hl28:=fD F.1
 have hl29:=tD F.2
 exact lD (Iv (f.kind)) kT (ifpC ⟨F.1,F.2⟩) (zd (g.b0) rfl) rflB
 refine yZ (V:=.bool (!decide (f.kind=1))) rfl rfl (fun H=>?_) ?_
 have hl31:=fD H.1
 have hl32:=tD H.2
 exact yy (k:=.i64) (a:=f.kind) (b:=1) (ifpC ⟨H.1,H.2⟩) rfl rflB
 refine stc (V:=.bool ck) rfl rfl (fun T=>?_) ?_
 have hl34:=fD T
 exact zx (b:=decide (f.policy=2)) (b':= !decide (f.kind=1)) (ifpC T) (fun hbp=>(ifpC ⟨T,hbp⟩)) rflB
 refine st (zI (b:=decide (f.policy=1)) (b':=ch&&(!decide (f.kind=1))) rfl (fun hbp=>(ifpC hbp)) (st (mV (.bool (cl||ck)) (stc (V:=Ix l 1) rfl rfl (fun bI=>?_) ?_))))
 have bJ:=bI
 try simp only[zi]at bJ
 exact Xs rfl rflB
 refine stc (V:=Iv (f.policy)) rfl rfl (fun aF=>?_) ?_
 have bK:=aF
 try simp only[zi]at bK
 exact lD (Iv (f.policy)) kT (ifpC aF) (zd (g.b0) rfl) rflB
 refine stc (V:=.bool ci) rfl rfl (fun aG=>?_) ?_
 have bL:=aG
 try simp only[zi]at bL
 exact zS (k:=.i64) (a:=f.policy) (b:=3) (ifpC aG) rfl rflB
 refine stc (V:=.bool ci) rfl rfl (fun aH=>?_) ?_
 have bM:=aH
 try simp only[zi]at bM
 exact zP (v:=.bool ci) (ifpC aH) rflB
 refine yZ (V:=Ix l 0) rfl rfl (fun aI=>?_) ?_
 have bN:=aI.1
 try simp only[zi]at bN
 have hl45:=tD aI.2
 exact xG rfl rflB
 refine yZ (V:=Iv (f.kind)) rfl rfl (fun I=>?_) ?_
 have bO:=I.1
 try simp only[zi]at bO
 have hl48:=tD I.2
 exact lD (Iv (f.kind)) kT (ifpC ⟨I.1,I.2⟩) (zd (g.b0) rfl) rflB
 refine yZ (V:=.bool (decide (f.kind=2))) rfl rfl (fun J=>?_) ?_
 have bP:=J.1
 try simp only[zi]at bP
 have hl51:=tD J.2
 exact zS (k:=.i64) (a:=f.kind) (b:=2) (ifpC ⟨J.1,J.2⟩) rfl rflB
 refine stc (V:=.bool (ci&&(decide (f.kind=2)))) rfl rfl (fun U=>?_) ?_
 have bQ:=U
 try simp only[zi]at bQ
 exact zx (b:=decide (f.policy=3)) (b':=decide (f.kind=2)) (ifpC U) (fun hbp=>(ifpC ⟨U,hbp⟩)) rflB
 refine st (zI (b:=cl||ck) (b':=ci&&(decide (f.kind=2))) rfl (fun hbp=>(ifpC hbp)) (st (aS (.bool cg) (zb (za (za (zF kr (st (mV (.bool cg) (st (yD (a:=(cl||ck)||(ci&&(decide (f.kind=2)))) rfl (st (mV (.bool (!cg)) (stc (V:=Ix l 2) rfl rfl (fun bR=>?_) ?_))))))))))))))
 have bS:=bR
 try simp only[zi]at bS
 exact Uo rfl rflB
 refine stc (V:=.bool (f.floor)) rfl rfl (fun aJ=>?_) ?_
 have bT:=aJ
 try simp only[zi]at bT
 exact lD (.bool (f.floor)) Tryz.isAgg4 (ifpC aJ) (zd (g.b0) rfl) rflB
 refine stc (V:=.bool (f.floor)) rfl rfl (fun aK=>?_) ?_
 have bU:=aK
 try simp only[zi]at bU
 exact zP (v:=.bool (f.floor)) (ifpC aK) rflB
 refine yZ (V:=Ix l 0) rfl rfl (fun aL=>?_) ?_
 have bV:=aL.1
 try simp only[zi]at bV
 have hl62:=aL.2
 exact xG rfl rflB
 refine yZ (V:=Iv (f.kind)) rfl rfl (fun K=>?_) ?_
 have bW:=K.1
 try simp only[zi]at bW
 have hl65:=K.2
 exact lD (Iv (f.kind)) kT (ifpC ⟨K.1,K.2⟩) (zd (g.b0) rfl) rflB
 refine yZ (V:=.bool (!decide (f.kind=1))) rfl rfl (fun L=>?_) ?_
 have bX:=L.1
 try simp only[zi]at bX
 have hl68:=L.2
 exact yy (k:=.i64) (a:=f.kind) (b:=1) (ifpC ⟨L.1,L.2⟩) rfl rflB
 refine stc (V:=.bool (f.floor&&(!decide (f.kind=1)))) rfl rfl (fun X=>?_) ?_
 have bY:=X
 try simp only[zi]at bY
 exact zx (b:=f.floor) (b':= !decide (f.kind=1)) (ifpC X) (fun hbp=>(ifpC ⟨X,hbp⟩)) rflB
 refine st (zI (b:= !cg) (b':=f.floor&&(!decide (f.kind=1))) rfl (fun hbp=>(ifpC hbp)) (zb ?_))
 cases Y:(!(((decide (f.policy=1))||((decide (f.policy=2))&&(!decide (f.kind=1))))||((decide (f.policy=3))&&(decide (f.kind=2)))))||(f.floor&&(!decide (f.kind=1)))
 try simp only[zi]at Y
 have hfl:f.floor=true→f.kind=1:=by
  intro D
  rcases Y.2 with h7|h7
  ·rw[D]at h7;cases h7
  ·exact h7
 refine ze rfl (zp (za (za (R0 fun _=>st (aS (Iv 0) (zb (zt (zZ (fun mq σ Z=> ∃(k:Nat) (ρ:Env),mq=f.moves.length-k∧σ=yf ρ [(2,Ix b2 0),(3,Ix l 0),(6,Iw k)]∧(k≤f.moves.length)∧Sep G W ((Blk l (f.cells df0).toArray 87)::(Blk b2 (t.cells dt0).toArray 83)::Rs) Z) ⟨0,_,rfl,sSf,zY _,g⟩ ?_))))))))
 rintro m73 σ74 w72 ⟨k,ρl1,rfl,rfl,hkk,E⟩
 let cf:=f.moves.getD k default
 let cj:=decide ((cf.need)=(-1))
 refine za (za (R0 fun _=>st (mV (Iw k) (st (yT rfl (st (lD df0 qT rfl (zd (E.b0) rfl) (st (zC (n:=f.moves.length) pT rfl hdf0.sl (st (zK (k:=.i64) (a:=((k:Nat):Int)) (b:=((f.moves.length:Nat):Int)) rfl rfl (zb ?_))))))))))))
 cases M:decide (((k:Nat):Int)<((f.moves.length:Nat):Int))
 have M:=fD M
 refine ze rfl (ya (zR (za (za (R0 fun _=>st (aS (Iv 0) (zb (zt (zZ (fun mq σ Z=> ∃(j:Nat) (ρ:Env),mq=f.moves.length-j∧σ=yf ρ [(2,Ix b2 0),(3,Ix l 0),(8,Iw j)]∧(j≤f.moves.length)∧(∀i,i<j→(f.moves.getD i default).need= -1∨yX t (f.moves.getD i default).need=1)∧Sep G W ((Blk l (f.cells df0).toArray 87)::(Blk b2 (t.cells dt0).toArray 83)::Rs) Z) ⟨0,_,rfl,sSf,zY _,(fun i h=>absurd h (yO i)),E⟩ ?_)))))))))
 rintro m78 σ79 w77 ⟨j,ρl2,rfl,rfl,hkj,hm,aa⟩
 let aU:=(f.moves.getD j default).need
 refine za (za (R0 fun _=>st (mV (Iw j) (st (yT rfl (st (lD df0 qT rfl (zd (aa.b0) rfl) (st (zC (n:=f.moves.length) pT rfl hdf0.sl (st (zK (k:=.i64) (a:=((j:Nat):Int)) (b:=((f.moves.length:Nat):Int)) rfl rfl (zb ?_))))))))))))
 cases N:decide (((j:Nat):Int)<((f.moves.length:Nat):Int))
 have N:=fD N
 refine ze rfl (ya (zR (za (R0 fun _=>st (aS (Iv 0) (zb (zq (zU nR (show _=(Iv 0:Value)from rfl) ?_))))))))
 refine⟨0,rfl,?_,?_,(aa.s2_)⟩
 decide
 intro D
 exact⟨by omega,hfl,fun i hi=>hm i om⟩
 have N:=tD N
 refine zg rfl (zp (za (zt (za ?_))))
 refine WD4 ((fun TT bG=>WF [fun vals Z=>Sep G W (bG::TT) Z,fun vals Z=>(vals 15=(if(!decide (aU=(-1)))=true then(Iv ((yX t aU)):Value)else undef))∧Sep G W (bG::TT) Z]) ((Blk b2 (t.cells dt0).toArray 83)::Rs) (Blk l (f.cells df0).toArray 87)) (AF [Vl 0 (Ix l 3),Vl 1 df0,Vl 2 (Iw j),Vl 3 (Ix (sb df0) (so df0+j*4)),Vl 4 (Ix (sb df0) (so df0+j*4+2)),Vl 5 (Iv aU),Vl 6 (.bool (!decide (aU=(-1)))),Vl 7 (.bool (!decide (aU=(-1)))),Vl 8 (if(!decide (aU=(-1)))=true then .agg (t.cells dt0).toArray else undef),Vl 9 (if(!decide (aU=(-1)))=true then Ix l 3 else undef),Vl 10 (if(!decide (aU=(-1)))=true then df0 else undef),Vl 11 (if(!decide (aU=(-1)))=true then Iw j else undef),Vl 12 (if(!decide (aU=(-1)))=true then Ix (sb df0) (so df0+j*4)else undef),Vl 13 (if(!decide (aU=(-1)))=true then Ix (sb df0) (so df0+j*4+2)else undef),Vl 14 (if(!decide (aU=(-1)))=true then Iv aU else undef),fun _=>True,Vl 16 (if(!decide (aU=(-1)))=true then .bool (!decide ((yX t aU)=1))else undef),Vl 17 (.bool ((!decide (aU=(-1)))&&(!decide ((yX t aU)=1))))]) [[],[0],[],[0,1,2],(rg 4),(rg 5),(rg 6),(rg 7),(rg 8),(rg 8),[0,1,2,3,4,5,6,7,9],(rg 8),[0,1,2,3,4,5,6,7,9,10,11],[0,1,2,3,4,5,6,7,9,10,11,12],[0,1,2,3,4,5,6,7,9,10,11,12,13],(rg 15),(rg 16),(rg 17)] [15] [(0,0),(0,0),(0,0),(0,0),(0,0),(0,0),(0,0),(0,0),(0,0),(0,0),(0,0),(0,0),(0,0),(0,0),(0,0),(0,0),(1,1),(1,1)] aa ⟨fun _ _ _ _ _ _ _=>obl rfl (yT rfl dR),ob1 0 fun _ _ (aV:Sep _ _ _ _) aW=>obl rfl (lD df0 qT (aW 0 dc) (zd (aV.b0) rfl) dR),fun _ _ _ _ _ _ _=>obl rfl (mV (Iw j) dR),?_,fun _ _ _ _ _ _ aX=>obl rfl (Xp (aX 3 dc) dR),?_,ob1 0 fun _ _ _ aY=>obl rfl (yy (k:=.i64) (a:=(f.moves.getD j default).need) (b:= -1) (aY 5 dc) rfl dR),fun _ _ _ _ _ _ aZ=>obl rfl (zP (v:=.bool (!decide (aU=(-1)))) (aZ 6 dc) dR),?_,?_,?_,?_,?_,?_,?_,?_,?_,fun _ _ _ _ _ _ ac=>obl rfl (zx (b:= !decide (aU=(-1))) (b':= !decide ((yX t aU)=1)) (ac 7 dc) (fun hbp=>(zr (ac 16 dc) (ifpC hbp))) dR),zl⟩ ?_
 refine ob1 0 fun _ _ _ ad=>(obl rfl ?_)
 have ba:j<f.moves.length:=bo
 exact zf (k:=4) (i:=j) pT tT (ad 1 dc) hdf0.sl (ad 2 dc) ba dR
 refine ob1 0 fun _ _ (bb:Sep _ _ _ _) bc=>(obl rfl ?_)
 have ae:j<f.moves.length:=bo
 obtain⟨aM,hoke303⟩:=hdf0.mvD ae
 have aN:=bb.cells aM (hdf0.foot (ne_of_lt ae))
 exact lD (Iv aU) kT (bc 4 dc) (aN.get (j:=2) rfl) dR
 refine ob1 0 fun _ _ (bd:Sep _ _ _ _) be=>(zN rfl rfl (be 7 dc) (fun y=>?_) yd)
 have hl330:=yn y
 exact zh (k:=1) kY rT rfl rfl (zo (bd.b1)) (yc y)
 refine fun _ _ _ _ _ _ bf=>(zN rfl rfl (bf 7 dc) (fun z=>?_) yd)
 have hl339:=yn z
 exact yT rfl (yc z)
 refine ob1 0 fun _ _ (bg:Sep _ _ _ _) af=>(zN rfl rfl (af 7 dc) (fun q=>?_) yd)
 have hl350:=yn q
 exact lD df0 qT (zr (af 9 dc) (ifpC q)) (zd (bg.b0) rfl) (yc q)
 refine fun _ _ _ _ _ _ bh=>(zN rfl rfl (bh 7 dc) (fun A=>?_) yd)
 have hl359:=yn A
 exact mV (Iw j) (yc A)
 refine ob1 0 fun _ _ _ O=>(zN rfl rfl (O 7 dc) (fun m=>?_) yd)
 have hl371:=yn m
 have bi:j<f.moves.length:=bo
 exact zf (k:=4) (i:=j) pT tT (zr (O 10 dc) (ifpC m)) hdf0.sl (zr (O 11 dc) (ifpC m)) bi (yc m)
 refine fun _ _ _ _ _ _ ag=>(zN rfl rfl (ag 7 dc) (fun s=>?_) yd)
 have hl382:=yn s
 exact Xp (zr (ag 12 dc) (ifpC s)) (yc s)
 refine ob1 0 fun _ _ (bj:Sep _ _ _ _) ah=>(zN rfl rfl (ah 7 dc) (fun u=>?_) yd)
 have hl393:=yn u
 have ai:j<f.moves.length:=bo
 obtain⟨aO,hoke394⟩:=hdf0.mvD ai
 have aP:=bj.cells aO (hdf0.foot (ne_of_lt ai))
 exact lD (Iv aU) kT (zr (ah 13 dc) (ifpC u)) (aP.get (j:=2) rfl) (yc u)
 refine ob1 0 fun vals bZ (P:Sep _ _ _ _) Q=>(zN rfl rfl (Q 7 dc) (fun o=>?_) (fun o c d ce=>?_))
 have hl233:=yn o
 have aj:j<f.moves.length:=bo
 obtain⟨aQ,ax⟩:=hdf0.mvD aj
 have hcw236:=P.cells aQ (hdf0.foot (ne_of_lt aj))
 refine(zW (f:=56) (vals:=[.agg (t.cells dt0).toArray,Iv aU]) (cap:=[]) rfl (yM ⟨(zr (Q 8 dc) (ifpC o)),(zr (Q 14 dc) (ifpC o)),zl⟩) vY (zaO (t:=t) (n:=(f.moves.getD j default).need) hdt0 ot ax.need P) ?_)
 rintro _ w237 ⟨rfl,bk⟩
 exact fun c d ce=>⟨(zA (d.trans (ifpC o).symm) bk),zl⟩
 refine⟨?_,zl⟩
 show(c 15=(if(!decide (aU=(-1)))=true then(Iv ((yX t aU)):Value)else undef))∧Sep G W ((Blk l (f.cells df0).toArray 87)::(Blk b2 (t.cells dt0).toArray 83)::Rs) bZ
 exact⟨(d.trans (ifnC o).symm),P⟩
 refine ob1 1 fun _ _ bl bm=>?_
 obtain⟨ak,hS403⟩:=bl
 refine zN rfl rfl (bm 7 dc) (fun x=>?_) yd
 have hl406:=yn x
 exact yy (k:=.i64) (a:=(yX t aU)) (b:=1) (zr ak (ifpC x)) rfl (yc x)
 intro vals w415 bn bp
 obtain⟨ak,al⟩:=bn
 have ca:=bp 17 dc
 refine yg (kv:=[(2,Ix b2 0),(3,Ix l 0),(8,Iw j),(81,Iw j),(82,Ix l 3),(83,df0),(84,Iw f.moves.length),(85,.bool true),(105,.bool ((!decide (aU=(-1)))&&(!decide ((yX t aU)=1))))]) ⟨rfl,rfl,rfl,rfl,rfl,rfl,rfl,rfl,(by exact ca),zl⟩ (fun ρw415=>(zb ?_))
 cases R:(!decide (((f.moves.getD j default).need)=(-1)))&&(!decide ((yX t ((f.moves.getD j default).need))=1))
 try simp only[zi]at R
 refine ze rfl (zp (R0 fun _=>st (mV (Iw j) ?_)))
 have bq:InR ((j+1:Nat):Int):=bo
 refine st (zO (r:=((j+1:Nat):Int)) (k:=.i64) (a:=((j:Nat):Int)) (b:=1) rfl rfl (by rw[show(((j:Nat):Int)+1:Int)=((j+1:Nat):Int)from bo];exact zw bq) (st (aS (Iw (j+1)) (zb ?_))))
 exact⟨_,by omega,j+1,_,rfl,sSf,by omega,(xf hm (by have D:=R;omega)),al⟩
 try simp only[zi]at R
 refine zg rfl (za (R0 fun _=>st (aS (Iv 8) (zb (zq (zU nR (show _=(Iv 8:Value)from rfl) ?_))))))
 refine⟨8,rfl,?_,?_,(al.s2_)⟩
 decide
 intro D
 exact absurd D dc
 have M:=tD M
 refine zg rfl (zp (za (zt (za (R0 fun _=>st (yT rfl (st (lD df0 qT rfl (zd (E.b0) rfl) (st (mV (Iw k) ?_))))))))))
 have br:k<f.moves.length:=bo
 refine st (zf (k:=4) (i:=k) pT tT rfl hdf0.sl rfl br ?_)
 have am:k<f.moves.length:=bo
 obtain⟨aR,hoke424⟩:=hdf0.mvD am
 have aT:=E.cells aR (hdf0.foot (ne_of_lt am))
 refine st (zh (k:=4) wY tT rfl rfl aT (st (zG kA ?_)))
 intro w429 ab bs
 have an:=E.new bs
 refine stn (zy (v:=.agg (cf.cells).toArray) (c':=(cf.cells).toArray) tT rfl rfl (an.b0) (yo ⟨rfl,rfl,rfl,rfl,zl⟩) yqc rfl ?_)
 intro w431 bt
 have p:=an.pt0 bt
 refine zb (za (zF kr (st (QQ rfl (st (lD (Iv (cf.frm)) kT rfl (zd (p.b0) rfl) (st (zK (k:=.i64) (a:=cf.frm) (b:=0) rfl rfl (st (mV (.bool (decide ((cf.frm)<0))) (stc (V:=Ix ab 1) rfl rfl (fun bu=>?_) ?_)))))))))))
 have hl435:=fD bu
 exact Kh rfl rflB
 refine stc (V:=Iv (cf.to)) rfl rfl (fun ao=>?_) ?_
 have hl437:=fD ao
 exact lD (Iv (cf.to)) kT (ifpC ao) (zd (p.b0) rfl) rflB
 refine stc (V:=.bool (decide ((cf.to)<0))) rfl rfl (fun ap=>?_) ?_
 have hl439:=fD ap
 exact zK (k:=.i64) (a:=cf.to) (b:=0) (ifpC ap) rfl rflB
 refine st (zI (b:=decide ((cf.frm)<0)) (b':=decide ((cf.to)<0)) rfl (fun hbp=>(ifpC hbp)) (st (mV (.bool ((decide ((cf.frm)<0))||(decide ((cf.to)<0)))) (stc (V:=Ix ab 2) rfl rfl (fun bv=>?_) ?_))))
 have bw:=bv
 try simp only[zi]at bw
 exact Xp rfl rflB
 refine stc (V:=Iv (cf.need)) rfl rfl (fun aq=>?_) ?_
 have bx:=aq
 try simp only[zi]at bx
 exact lD (Iv (cf.need)) kT (ifpC aq) (zd (p.b0) rfl) rflB
 refine stc (V:=.bool cj) rfl rfl (fun ar=>?_) ?_
 have bz:=ar
 try simp only[zi]at bz
 exact zS (k:=.i64) (a:=cf.need) (b:= -1) (ifpC ar) rfl rflB
 refine stc (V:=.bool cj) rfl rfl (fun au=>?_) ?_
 have bA:=au
 try simp only[zi]at bA
 exact zP (v:=.bool cj) (ifpC au) rflB
 refine yZ (V:=Ix ab 3) rfl rfl (fun av=>?_) ?_
 have bB:=av.1
 try simp only[zi]at bB
 have hl450:=tD av.2
 exact Km rfl rflB
 refine yZ (V:=Iv (cf.least)) rfl rfl (fun B=>?_) ?_
 have bC:=B.1
 try simp only[zi]at bC
 have hl453:=tD B.2
 exact lD (Iv (cf.least)) kT (ifpC ⟨B.1,B.2⟩) (zd (p.b0) rfl) rflB
 refine yZ (V:=.bool (!decide ((cf.least)=0))) rfl rfl (fun C=>?_) ?_
 have bD:=C.1
 try simp only[zi]at bD
 have hl456:=tD C.2
 exact yy (k:=.i64) (a:=cf.least) (b:=0) (ifpC ⟨C.1,C.2⟩) rfl rflB
 refine stc (V:=.bool (cj&&(!decide ((cf.least)=0)))) rfl rfl (fun S=>?_) ?_
 have bE:=S
 try simp only[zi]at bE
 exact zx (b:=decide ((cf.need)=(-1))) (b':= !decide ((cf.least)=0)) (ifpC S) (fun hbp=>(ifpC ⟨S,hbp⟩)) rflB
 refine st (zI (b:=(decide ((cf.frm)<0))||(decide ((cf.to)<0))) (b':=cj&&(!decide ((cf.least)=0))) rfl (fun hbp=>(ifpC hbp)) (zb ?_))
 cases aw:((decide (((f.moves.getD k default).frm)<0))||(decide (((f.moves.getD k default).to)<0)))||((decide (((f.moves.getD k default).need)=(-1)))&&(!decide (((f.moves.getD k default).least)=0)))
 try simp only[zi]at aw
 refine ze rfl (zp (R0 fun _=>st (mV (Iw k) ?_)))
 have bF:InR ((k+1:Nat):Int):=bo
 refine st (zO (r:=((k+1:Nat):Int)) (k:=.i64) (a:=((k:Nat):Int)) (b:=1) rfl rfl (by rw[show(((k:Nat):Int)+1:Int)=((k+1:Nat):Int)from bo];exact zw bF) (st (aS (Iw (k+1)) (zb ?_))))
 exact⟨_,by omega,k+1,_,rfl,sSf,by omega,(p.s3_bc)⟩
 try simp only[zi]at aw
 refine zg rfl (za (R0 fun _=>st (aS (Iv 1) (zb (zq (zU nR (show _=(Iv 1:Value)from rfl) ?_))))))
 refine⟨1,rfl,?_,?_,(p.s3_)⟩
 decide
 intro D
 exact absurd D dc
 try simp only[zi]at Y
 refine zg rfl (za (R0 fun _=>st (aS (Iv 1) (zb (zq (zU nR (show _=(Iv 1:Value)from rfl) ?_))))))
 refine⟨1,rfl,?_,?_,(g.s2_)⟩
 decide
 intro D
 exact absurd D dc
 try simp only[zi]at aA
 refine zg rfl (za (R0 fun _=>st (aS (Iv 2) (zb (zq (zU nR (show _=(Iv 2:Value)from rfl) ?_))))))
 refine⟨2,rfl,?_,?_,(g.s2_)⟩
 decide
 intro D
 exact absurd D dc
theorem zbK:Elem Tryz.prog 85 90 4 32:=⟨pT,_,_,rfl,rfl,rfl,rfl,rfl⟩
theorem zce {d:Dcl}{dd0:Value}(hdd0:RdS W G dd0 d.types){dd1:Value}(hdd1:RdS W G dd1 d.projs)(od:d.Ok){ty:Int}(hty:InR ty){fi:Int}(hfi:InR fi)(hS0:Sep G W Rs w):Ret Tryz.prog 55 [.agg (d.cells dd0 dd1).toArray,.int .i64 (ty),.int .i64 (fi)] w (fun r w'=> ∃(c1:Int) (c2:Int) (c3:Bool) (dx:Value) (b:Bool),r=(.tuple #[.agg #[.int .i64 (c1),.int .i64 (c2),.bool c3,dx],.bool b]:Value)∧(dx.oneCell'=true)∧(b=true→(0≤ty∧ty<d.types.length)∧0≤fi∧fi<(d.types.getD ty.toNat default).fields.length)∧Sep G W Rs w'):=by
 let aN:=zT W (sb dd0) (so dd0+ty.toNat*1+0)
 let aO:=zT W (sb aN) (so aN+fi.toNat*4+3)
 have hdd0s:_*24≤_:=hdd0.small
 have hdd1s:_*40≤_:=hdd1.small
 refine zn (args:=[.agg (d.cells dd0 dd1).toArray,Iv ty,Iv fi]) Tryz.func55 rfl rfl ?_
 refine za (R0 fun _=>st (zX (v:=.agg (d.cells dd0 dd1).toArray) rfl ?_))
 intro w3 b2 aK
 refine st (zG lY ?_)
 intro w7 S aL
 have g:=(hS0.new aK).new aL
 refine st (aS (.bool false) (zb (za (za (zF kr (st (mV (Iv ty) (st (zK (k:=.i64) (a:=ty) (b:=0) rfl rfl (st (mV (.bool (decide (ty<0))) (stc (V:=Iv ty) rfl rfl (fun aM=>?_) ?_))))))))))))
 have hl10:=fD aM
 exact mV (Iv ty) rflB
 refine stc (V:=Ix b2 0) rfl rfl (fun ai=>?_) ?_
 have hl12:=fD ai
 exact yH rfl rflB
 refine stc (V:=dd0) rfl rfl (fun A=>?_) ?_
 have hl14:=fD A
 exact lD dd0 nT (ifpC A) (zd (g.b1) rfl) rflB
 refine stc (V:=Iw d.types.length) rfl rfl (fun B=>?_) ?_
 have hl16:=fD B
 exact zC (n:=d.types.length) oT (ifpC B) hdd0.sl rflB
 refine stc (V:=.bool (decide (((d.types.length:Nat):Int)≤ty))) rfl rfl (fun q=>?_) ?_
 have hl18:=fD q
 exact xv (k:=.i64) (a:=ty) (b:=((d.types.length:Nat):Int)) (ifpC q) (ifpC q) rflB
 refine st (zI (b:=decide (ty<0)) (b':=decide (((d.types.length:Nat):Int)≤ty)) rfl (fun hbp=>(ifpC hbp)) (st (mV (.bool ((decide (ty<0))||(decide (((d.types.length:Nat):Int)≤ty)))) (stc (V:=Iv fi) rfl rfl (fun aj=>?_) ?_))))
 have ak:=aj
 try simp only[zi]at ak
 exact mV (Iv fi) rflB
 refine stc (V:=.bool (decide (fi<0))) rfl rfl (fun C=>?_) ?_
 have al:=C
 try simp only[zi]at al
 exact zK (k:=.i64) (a:=fi) (b:=0) (ifpC C) rfl rflB
 refine st (zI (b:=(decide (ty<0))||(decide (((d.types.length:Nat):Int)≤ty))) (b':=decide (fi<0)) rfl (fun hbp=>(ifpC hbp)) (st (mV (.bool (((decide (ty<0))||(decide (((d.types.length:Nat):Int)≤ty)))||(decide (fi<0)))) (stc (V:=Iv fi) rfl rfl (fun am=>?_) ?_))))
 have an:=am
 try simp only[zi]at an
 exact mV (Iv fi) rflB
 refine stc (V:=Ix b2 0) rfl rfl (fun ao=>?_) ?_
 have ap:=ao
 try simp only[zi]at ap
 exact yH rfl rflB
 refine stc (V:=dd0) rfl rfl (fun D=>?_) ?_
 have aq:=D
 try simp only[zi]at aq
 exact lD dd0 nT (ifpC D) (zd (g.b1) rfl) rflB
 refine stc (V:=Iv ty) rfl rfl (fun ar=>?_) ?_
 have au:=ar
 try simp only[zi]at au
 exact mV (Iv ty) rflB
 refine stc (V:=Ix (sb dd0) (so dd0+ty.toNat*1)) rfl rfl (fun s=>?_) ?_
 have av:=s
 try simp only[zi]at av
 have hi33:ty.toNat<d.types.length:=bo
 exact zB (k:=1) (i:=ty) oT rT (ifpC s) hdd0.sl (ifpC s) ⟨by omega,by omega⟩ rflB
 refine stc (V:=Ix (sb dd0) (so dd0+ty.toNat*1)) rfl rfl (fun E=>?_) ?_
 have aw:=E
 try simp only[zi]at aw
 exact yU (ifpC E) rflB
 refine stc (V:=aN) rfl rfl (fun F=>?_) ?_
 have ax:=F
 try simp only[zi]at ax
 have H:ty.toNat<d.types.length:=bo
 obtain⟨T,z,hoke38⟩:=hdd0.typD H
 have hsm40:((d.types.getD ty.toNat default).fields).length*48≤140737488355328:=z.small
 have U:=g.cells T (hdd0.foot (ne_of_lt H))
 exact lD aN sT (ifpC F) (U.get (j:=0) rfl) rflB
 refine stc (V:=Iw (((d.types.getD ty.toNat default).fields).length)) rfl rfl (fun I=>?_) ?_
 have ay:=I
 try simp only[zi]at ay
 have J:ty.toNat<d.types.length:=bo
 obtain⟨X,l,hoke44⟩:=hdd0.typD J
 have hsm46:((d.types.getD ty.toNat default).fields).length*48≤140737488355328:=l.small
 have hcw47:=g.cells X (hdd0.foot (ne_of_lt J))
 exact zC (n:=((d.types.getD ty.toNat default).fields).length) mT (ifpC I) l.sl rflB
 refine stc (V:=.bool (decide (((((d.types.getD ty.toNat default).fields).length:Nat):Int)≤fi))) rfl rfl (fun t=>?_) ?_
 have az:=t
 try simp only[zi]at az
 exact xv (k:=.i64) (a:=fi) (b:=((((d.types.getD ty.toNat default).fields).length:Nat):Int)) (ifpC t) (ifpC t) rflB
 refine st (zI (b:=((decide (ty<0))||(decide (((d.types.length:Nat):Int)≤ty)))||(decide (fi<0))) (b':=decide (((((d.types.getD ty.toNat default).fields).length:Nat):Int)≤fi)) rfl (fun hbp=>(ifpC hbp)) (zb ?_))
 cases K:(((decide (ty<0))||(decide (((d.types.length:Nat):Int)≤ty)))||(decide (fi<0)))||(decide (((((d.types.getD ty.toNat default).fields).length:Nat):Int)≤fi))
 try simp only[zi]at K
 refine ze rfl (zp (za (R0 fun _=>st (yH rfl (st (lD dd0 nT rfl (zd (g.b1) rfl) (st (mV (Iv ty) ?_))))))))
 have hi51:ty.toNat<d.types.length:=bo
 refine st (zB (k:=1) (i:=ty) oT rT rfl hdd0.sl rfl ⟨by omega,by omega⟩ (st (yU rfl ?_)))
 have L:ty.toNat<d.types.length:=bo
 obtain⟨Y,f,hoke52⟩:=hdd0.typD L
 have hsm54:((d.types.getD ty.toNat default).fields).length*48≤140737488355328:=f.small
 have Z:=g.cells Y (hdd0.foot (ne_of_lt L))
 refine st (lD aN sT rfl (Z.get (j:=0) rfl) (st (mV (Iv fi) ?_)))
 have hi56:fi.toNat<((d.types.getD ty.toNat default).fields).length:=bo
 refine st (zB (k:=4) (i:=fi) mT lT rfl f.sl rfl ⟨by omega,by omega⟩ ?_)
 have M:fi.toNat<((d.types.getD ty.toNat default).fields).length:=bo
 obtain⟨aa,e,p⟩:=f.fldD M
 have hsm59:((((d.types.getD ty.toNat default).fields).getD fi.toNat default).moves).length*32≤140737488355328:=e.small
 have ab:=g.cells aa (f.foot (ne_of_lt M))
 refine st (zh (k:=4) vT lT rfl rfl ab (st (zG lY ?_)))
 intro w63 ag aA
 have N:=g.new aA
 refine stn (zy (v:=.agg ((((d.types.getD ty.toNat default).fields).getD fi.toNat default).cells aO).toArray) (c':=((((d.types.getD ty.toNat default).fields).getD fi.toNat default).cells aO).toArray) lT rfl rfl (N.b0) (yo ⟨rfl,rfl,rfl,e.sl.one,zl⟩) yqc rfl ?_)
 intro w65 aB
 refine zb (za (R0 fun _=>st (aS Iz (zb (za (za (R0 fun _=>st (aS (Iv 0) (zb (zt ?_))))))))))
 have aC:Sep _ _ ((RowE (α:=Mv) own 90 Iz ([]:List Mv))::_) _:=(N.pt0 aB).rowNil own 90
 refine zZ (fun mq σ wq=> ∃(k:Nat) (vm:Value) (ρ:Env),mq=((d.types.getD ty.toNat default).fields.getD fi.toNat default).moves.length-k∧σ=yf ρ [(3,Ix b2 0),(6,Ix S 0),(8,Ix ag 0),(10,Iw k),(9,vm)]∧(k≤((d.types.getD ty.toNat default).fields.getD fi.toNat default).moves.length)∧Sep G W ((RowE (α:=Mv) own 90 vm (((d.types.getD ty.toNat default).fields.getD fi.toNat default).moves.take k))::(Blk ag ((((d.types.getD ty.toNat default).fields).getD fi.toNat default).cells (zT W (sb (zT W (sb dd0) (so dd0+ty.toNat*1+0))) (so (zT W (sb dd0) (so dd0+ty.toNat*1+0))+fi.toNat*4+3))).toArray 87)::(Blk S #[Iv 0,Iv 0,.bool false,(Iz)] 87)::(Blk b2 (d.cells dd0 dd1).toArray 25)::Rs) wq) ⟨0,(Iz),_,rfl,sSf,zY _,aC⟩ ?_
 rintro m70 σ71 w69 ⟨k,vm,ρl1,rfl,rfl,hkk,h⟩
 have m:=h.r0
 have hr73s:_*32≤_:=m.2
 refine za (za (R0 fun _=>st (mV (Iw k) (st (yT rfl (st (lD aO qT rfl (zd (h.b1) rfl) (st (zC (n:=((((d.types.getD ty.toNat default).fields).getD fi.toNat default).moves).length) pT rfl e.sl (st (zK (k:=.i64) (a:=((k:Nat):Int)) (b:=((((((d.types.getD ty.toNat default).fields).getD fi.toNat default).moves).length:Nat):Int)) rfl rfl (zb ?_))))))))))))
 cases o:decide (((k:Nat):Int)<((((((d.types.getD ty.toNat default).fields).getD fi.toNat default).moves).length:Nat):Int))
 have o:=fD o
 refine ze rfl (ya (zR (za (R0 fun _=>st (mV vm (st (yT rfl (stn (ym (v:=vm) (c:=[Iv ((((d.types.getD ty.toNat default).fields).getD fi.toNat default).kind),Iv ((((d.types.getD ty.toNat default).fields).getD fi.toNat default).policy),.bool ((((d.types.getD ty.toNat default).fields).getD fi.toNat default).floor),aO]) (c':=[Iv ((((d.types.getD ty.toNat default).fields).getD fi.toNat default).kind),Iv ((((d.types.getD ty.toNat default).fields).getD fi.toNat default).policy),.bool ((((d.types.getD ty.toNat default).fields).getD fi.toNat default).floor),vm]) Tryz.sizeOf85 rfl rfl (h.b1) m.1.one rfl rfl ?_)))))))))
 intro w75 aD
 have ok77:Fld.Ok (⟨(((d.types.getD ty.toNat default).fields).getD fi.toNat default).kind,(((d.types.getD ty.toNat default).fields).getD fi.toNat default).policy,(((d.types.getD ty.toNat default).fields).getD fi.toNat default).floor,((d.types.getD ty.toNat default).fields.getD fi.toNat default).moves.take k⟩:Fld):=⟨(show InR ((((d.types.getD ty.toNat default).fields).getD fi.toNat default).kind)from p.kind),(show InR ((((d.types.getD ty.toNat default).fields).getD fi.toNat default).policy)from p.policy)⟩
 have u:=h.pt1 aD
 refine zb (za (R0 fun _=>st (zh (k:=4) vT lT rfl rfl (zo (u.b1)) (stn (zy (v:=.agg ((⟨(((d.types.getD ty.toNat default).fields).getD fi.toNat default).kind,(((d.types.getD ty.toNat default).fields).getD fi.toNat default).policy,(((d.types.getD ty.toNat default).fields).getD fi.toNat default).floor,((d.types.getD ty.toNat default).fields.getD fi.toNat default).moves.take k⟩:Fld).cells vm).toArray) (c':=((⟨(((d.types.getD ty.toNat default).fields).getD fi.toNat default).kind,(((d.types.getD ty.toNat default).fields).getD fi.toNat default).policy,(((d.types.getD ty.toNat default).fields).getD fi.toNat default).floor,((d.types.getD ty.toNat default).fields.getD fi.toNat default).moves.take k⟩:Fld).cells vm).toArray) lT rfl rfl (u.b2) (yo ⟨rfl,rfl,rfl,m.1.one,zl⟩) yqc rfl ?_)))))
 intro w79 aE
 have O:=u.pt2 aE
 refine st (aS (.bool true) (zb (zq (ZV (b:=S) lA vT lT rfl rfl (zo (O.b2)) (show _=(.bool true:Value)from rfl) ?_))))
 refine⟨(((d.types.getD ty.toNat default).fields).getD fi.toNat default).kind,(((d.types.getD ty.toNat default).fields).getD fi.toNat default).policy,(((d.types.getD ty.toNat default).fields).getD fi.toNat default).floor,vm,true,rfl,?_,?_,(O.s4_)⟩
 exact m.1.one
 intro _;omega
 have o:=tD o
 refine zg rfl (zp (za (zt (R0 fun _=>st (mV vm (st (yT rfl (st (lD aO qT rfl (zd (h.b1) rfl) (st (mV (Iw k) ?_)))))))))))
 have aF:k<((((d.types.getD ty.toNat default).fields).getD fi.toNat default).moves).length:=bo
 refine st (zf (k:=4) (i:=k) pT tT rfl e.sl rfl aF ?_)
 have P:k<((((d.types.getD ty.toNat default).fields).getD fi.toNat default).moves).length:=bo
 obtain⟨ac,Q⟩:=e.mvD P
 have ad:=h.cells ac (e.foot (ne_of_lt P))
 refine st (zh (k:=4) wY tT rfl rfl ad (st (zH (k:=4) (parts':=[(0,.agg ((((((d.types.getD ty.toNat default).fields).getD fi.toNat default).moves).getD k default).cells).toArray)]) (c:=((((((d.types.getD ty.toNat default).fields).getD fi.toNat default).moves).getD k default).cells).toArray) pT tT kA dc rfl kr ?_)))
 intro w89 b88 aG
 have R:=h.new aG
 have ae:=R.b0
 refine st (yq (src:=own) (bytes:=32) (x1:=(((((d.types.getD ty.toNat default).fields).getD fi.toNat default).moves).getD k default)) ((R.s5_bcde).emp1) zbK rfl rfl ae (fun _ _ _=>(show _ from⟨rfl,Q⟩)) yqb rfl ?_)
 intro ah w91 x
 have aH:=x.r0
 have hr97s:_*32≤_:=aH.2
 refine st (aS ah (zb (R0 fun _=>st (mV (Iw k) ?_))))
 have aI:InR ((k+1:Nat):Int):=bo
 refine st (zO (r:=((k+1:Nat):Int)) (k:=.i64) (a:=((k:Nat):Int)) (b:=1) rfl rfl (by rw[show(((k:Nat):Int)+1:Int)=((k+1:Nat):Int)from bo];exact zw aI) (st (aS (Iw (k+1)) (zb ?_))))
 have aJ:(((d.types.getD ty.toNat default).fields.getD fi.toNat default).moves.take (k+1))=(((d.types.getD ty.toNat default).fields.getD fi.toNat default).moves.take k)++[(((((d.types.getD ty.toNat default).fields).getD fi.toNat default).moves).getD k default)]:=(List.take_getD om)
 rw[←aJ]at x
 exact⟨_,by omega,k+1,ah,_,rfl,sSf,by omega,x⟩
 try simp only[zi]at K
 refine zg rfl (za (R0 fun _=>?_))
 have ok100:Fld.Ok (⟨0,0,false,[]⟩:Fld):=⟨(show InR (0)from dc),(show InR (0)from dc)⟩
 refine st (zV (parts':=[]) (v:=.agg ((⟨0,0,false,[]⟩:Fld).cells Iz).toArray) rfl (by simp+zetaDelta [Instr.build,Instr.fill,go_sem,YN]) (stn (zy (v:=.agg ((⟨0,0,false,[]⟩:Fld).cells Iz).toArray) (c':=((⟨0,0,false,[]⟩:Fld).cells Iz).toArray) lT rfl rfl (g.b0) (yo ⟨rfl,rfl,rfl,rfl,zl⟩) yqc rfl ?_)))
 intro w101 af
 have y:=g.pt0 af
 refine st (aS (.bool false) (zb (zq (ZV (b:=S) lA vT lT rfl rfl (zo (y.b0)) (show _=(.bool false:Value)from rfl) ?_))))
 refine⟨0,0,false,(Iz),false,rfl,?_,?_,(y.s2_)⟩
 rfl
 intro h9;cases h9
theorem zbE {d:Dcl}{dd0:Value}(hdd0:RdS W G dd0 d.types){dd1:Value}(hdd1:RdS W G dd1 d.projs)(od:d.Ok)(hS0:Sep G W Rs w):Ret Tryz.prog 29 [.agg (d.cells dd0 dd1).toArray] w (fun r w'=> ∃(e:Int),r=(.int .i64 (e):Value)∧(InR e)∧(e=0→DclOk d∧Xq d)∧Sep G W Rs w'):=by
 have hdd0s:_*24≤_:=hdd0.small
 have hdd1s:_*40≤_:=hdd1.small
 refine zn (args:=[.agg (d.cells dd0 dd1).toArray]) Tryz.func29 rfl rfl ?_
 refine za (R0 fun _=>st (zX (v:=.agg (d.cells dd0 dd1).toArray) rfl ?_))
 intro w3 b2 da
 let df:=Blk b2 (d.cells dd0 dd1).toArray 25
 have cN:=hS0.new da
 refine st (aS (Iv 0) (zb (za (za (R0 fun _=>st (zh (k:=2) mA nA rfl rfl (zo (cN.b0)) (st (cL Tryz.call53 (zdt (d:=d) hdd0 hdd1 od cN) ?_))))))))
 rintro _ w7 ⟨b5,rfl,db,cO⟩
 refine zb ?_
 cases dd:b5
 have hfew:=db dd
 refine ze rfl (zp (za (za (R0 fun _=>st (aS (Iv 0) (zb (zt (zZ (fun mq σ S=> ∃(k:Nat) (ρ:Env),mq=d.types.length-k∧σ=yf ρ [(1,Ix b2 0),(3,Iw k)]∧(k≤d.types.length)∧(∀i,i<k→ ∀j,j<(d.types.getD i default).fields.length→Qx (d.types.getD i default) ((d.types.getD i default).fields.getD j default))∧Sep G W ((Blk b2 (d.cells dd0 dd1).toArray 25)::Rs) S) ⟨0,_,rfl,sSf,zY _,(fun i h=>absurd h (yO i)),cO⟩ ?_))))))))
 rintro m11 σ12 w10 ⟨k,ρl1,rfl,rfl,hkk,hm,aw⟩
 let aj:=zT W (sb dd0) (so dd0+k*1+0)
 refine za (za (R0 fun _=>st (mV (Iw k) (st (yH rfl (st (lD dd0 nT rfl (zd (aw.b0) rfl) (st (zC (n:=d.types.length) oT rfl hdd0.sl (st (zK (k:=.i64) (a:=((k:Nat):Int)) (b:=((d.types.length:Nat):Int)) rfl rfl (zb ?_))))))))))))
 cases ak:decide (((k:Nat):Int)<((d.types.length:Nat):Int))
 have ak:=fD ak
 refine ze rfl (ya (zR (za (za (R0 fun _=>st (aS (Iv 0) (zb (zt (zZ (fun mq σ S=> ∃(z:Nat) (ρ:Env),mq=d.projs.length-z∧σ=yf ρ [(1,Ix b2 0),(6,Iw z)]∧(z≤d.projs.length)∧(∀i,i<z→VW (d.projs.getD i default))∧Sep G W ((Blk b2 (d.cells dd0 dd1).toArray 25)::Rs) S) ⟨0,_,rfl,sSf,zY _,(fun i h=>absurd h (yO i)),aw⟩ ?_)))))))))
 rintro m16 σ17 w15 ⟨z,ρl2,rfl,rfl,hkz,hpz,ad⟩
 let de:=(d.projs.getD z default).cells
 refine za (za (R0 fun _=>st (mV (Iw z) (st (xJ rfl (st (lD dd1 qR rfl (zd (ad.b0) rfl) (st (zC (n:=d.projs.length) rR rfl hdd1.sl (st (zK (k:=.i64) (a:=((z:Nat):Int)) (b:=((d.projs.length:Nat):Int)) rfl rfl (zb ?_))))))))))))
 cases al:decide (((z:Nat):Int)<((d.projs.length:Nat):Int))
 have al:=fD al
 refine ze rfl (ya (zR (za (R0 fun _=>st (aS (Iv 0) (zb (zq (zU wT (show _=(Iv 0:Value)from rfl) ?_))))))))
 refine⟨0,rfl,?_,?_,(ad.s1_)⟩
 first|decide|assumption
 intro h9
 exact⟨zds hfew.1 (fun i hi=>hm i om),hfew.2,fun i hi=>hpz i om⟩
 have al:=tD al
 refine zg rfl (zp (za (zt (za (R0 fun _=>st (xJ rfl (st (lD dd1 qR rfl (zd (ad.b0) rfl) (st (mV (Iw z) ?_))))))))))
 have cQ:z<d.projs.length:=bo
 refine st (zf (k:=5) (i:=z) rR mY rfl hdd1.sl rfl cQ ?_)
 have bh:z<d.projs.length:=bo
 obtain⟨bx,ae⟩:=hdd1.prjD bh
 have bz:=ad.cells bx (hdd1.foot (ne_of_lt bh))
 refine st (zh (k:=5) Tryz.isAgg73 mY rfl rfl bz (st (zG Tryz.zeroValue73 ?_)))
 intro w27 u cR
 have bi:=ad.new cR
 refine stn (zy (v:=.agg de.toArray) (c':=de.toArray) mY rfl rfl (bi.b0) (yo ⟨rfl,rfl,rfl,rfl,rfl,zl⟩) yqc rfl ?_)
 intro w29 cS
 have am:=bi.pt0 cS
 refine zb (za (R0 fun _=>st (zh (k:=2) mA nA rfl rfl (zo (am.b1)) (st (Kg rfl (st (lD (Iv ((d.projs.getD z default).ptyp)) kT rfl (zd (am.b0) rfl) (st (zbn rfl (st (lD (Iv ((d.projs.getD z default).pfield)) kT rfl (zd (am.b0) rfl) (st (cL Tryz.call55 (zce (d:=d) (ty:=(d.projs.getD z default).ptyp) (fi:=(d.projs.getD z default).pfield) hdd0 hdd1 od ae.ptyp ae.pfield am) ?_)))))))))))))
 rintro _ w39 ⟨o,p,q,s,x,rfl,hdx37,bj,cT⟩
 refine st (mV (.tuple #[.agg #[Iv o,Iv p,.bool q,s],.bool x]) (st (zz (vs:=[.agg #[Iv o,Iv p,.bool q,s],.bool x]) (i:=0) (v:=.agg #[Iv o,Iv p,.bool q,s]) rfl rfl (st (zz (vs:=[.agg #[Iv o,Iv p,.bool q,s],.bool x]) (i:=1) (v:=.bool x) rfl rfl (st (zG lY ?_)))))))
 intro w43 bk cU
 have bl:=cT.new cU
 refine stn (zy (v:=.agg #[Iv o,Iv p,.bool q,s]) (c':=#[Iv o,Iv p,.bool q,s]) lT rfl rfl (bl.b0) (yo ⟨rfl,rfl,rfl,(by assumption),zl⟩) yqc rfl ?_)
 intro w45 cV
 have bm:=bl.pt0 cV
 refine st (aS (.bool x) (zb (za (za (R0 fun _=>st (mV (.bool x) (st (yD (a:=x) rfl (zb ?_)))))))))
 cases ax: !x
 try simp only[zi]at ax
 have hpt:=bj (by have h9:=ax;simpa using h9)
 refine ze rfl (zp (za (za ?_)))
 refine WD4 ((fun TT av=>WF [fun vals S=>Sep G W (av::TT) S,fun vals S=>(vals 12=(if(decide (((d.projs.getD z default).pgroup)=3))=true then(Iv ((yX (d.types.getD (((d.projs.getD z default).ptyp).toNat) default) ((d.projs.getD z default).pby))):Value)else undef))∧Sep G W (av::TT) S]) ((Blk u de.toArray 73)::df::Rs) (Blk bk #[Iv o,Iv p,.bool q,s] 87)) (AF [Vl 0 (Ix u 2),Vl 1 (Iv ((d.projs.getD z default).pgroup)),Vl 2 (.bool (decide (((d.projs.getD z default).pgroup)=3))),Vl 3 (.bool (decide (((d.projs.getD z default).pgroup)=3))),Vl 4 (if(decide (((d.projs.getD z default).pgroup)=3))=true then Ix b2 0 else undef),Vl 5 (if(decide (((d.projs.getD z default).pgroup)=3))=true then dd0 else undef),Vl 6 (if(decide (((d.projs.getD z default).pgroup)=3))=true then Ix u 0 else undef),Vl 7 (if(decide (((d.projs.getD z default).pgroup)=3))=true then Iv ((d.projs.getD z default).ptyp)else undef),Vl 8 (if(decide (((d.projs.getD z default).pgroup)=3))=true then Ix (sb dd0) (so dd0+(((d.projs.getD z default).ptyp).toNat)*1)else undef),Vl 9 (if(decide (((d.projs.getD z default).pgroup)=3))=true then .agg ((d.types.getD (((d.projs.getD z default).ptyp).toNat) default).cells (zT W (sb dd0) (so dd0+(((d.projs.getD z default).ptyp).toNat)*1+0))).toArray else undef),Vl 10 (if(decide (((d.projs.getD z default).pgroup)=3))=true then Ix u 3 else undef),Vl 11 (if(decide (((d.projs.getD z default).pgroup)=3))=true then Iv ((d.projs.getD z default).pby)else undef),fun _=>True,Vl 13 (if(decide (((d.projs.getD z default).pgroup)=3))=true then .bool (!decide ((yX (d.types.getD (((d.projs.getD z default).ptyp).toNat) default) ((d.projs.getD z default).pby))=2))else undef),Vl 14 (.bool ((decide (((d.projs.getD z default).pgroup)=3))&&(!decide ((yX (d.types.getD (((d.projs.getD z default).ptyp).toNat) default) ((d.projs.getD z default).pby))=2)))),Vl 15 (.bool ((decide (((d.projs.getD z default).pgroup)=3))&&(!decide ((yX (d.types.getD (((d.projs.getD z default).ptyp).toNat) default) ((d.projs.getD z default).pby))=2)))),Vl 16 (if((decide (((d.projs.getD z default).pgroup)=3))&&(!decide ((yX (d.types.getD (((d.projs.getD z default).ptyp).toNat) default) ((d.projs.getD z default).pby))=2)))=false then Ix u 2 else undef),Vl 17 (if((decide (((d.projs.getD z default).pgroup)=3))&&(!decide ((yX (d.types.getD (((d.projs.getD z default).ptyp).toNat) default) ((d.projs.getD z default).pby))=2)))=false then Iv ((d.projs.getD z default).pgroup)else undef),Vl 18 (if((decide (((d.projs.getD z default).pgroup)=3))&&(!decide ((yX (d.types.getD (((d.projs.getD z default).ptyp).toNat) default) ((d.projs.getD z default).pby))=2)))=false then .bool (!decide (((d.projs.getD z default).pgroup)=3))else undef),Vl 19 (if((decide (((d.projs.getD z default).pgroup)=3))&&(!decide ((yX (d.types.getD (((d.projs.getD z default).ptyp).toNat) default) ((d.projs.getD z default).pby))=2)))=false then .bool (!decide (((d.projs.getD z default).pgroup)=3))else undef),Vl 20 (if(((decide (((d.projs.getD z default).pgroup)=3))&&(!decide ((yX (d.types.getD (((d.projs.getD z default).ptyp).toNat) default) ((d.projs.getD z default).pby))=2)))=false)∧(!decide (((d.projs.getD z default).pgroup)=3))=true then Ix u 3 else undef),Vl 21 (if(((decide (((d.projs.getD z default).pgroup)=3))&&(!decide ((yX (d.types.getD (((d.projs.getD z default).ptyp).toNat) default) ((d.projs.getD z default).pby))=2)))=false)∧(!decide (((d.projs.getD z default).pgroup)=3))=true then Iv ((d.projs.getD z default).pby)else undef),Vl 22 (if(((decide (((d.projs.getD z default).pgroup)=3))&&(!decide ((yX (d.types.getD (((d.projs.getD z default).ptyp).toNat) default) ((d.projs.getD z default).pby))=2)))=false)∧(!decide (((d.projs.getD z default).pgroup)=3))=true then .bool (!decide (((d.projs.getD z default).pby)=0))else undef),Vl 23 (if((decide (((d.projs.getD z default).pgroup)=3))&&(!decide ((yX (d.types.getD (((d.projs.getD z default).ptyp).toNat) default) ((d.projs.getD z default).pby))=2)))=false then .bool ((!decide (((d.projs.getD z default).pgroup)=3))&&(!decide (((d.projs.getD z default).pby)=0)))else undef),Vl 24 (.bool (((decide (((d.projs.getD z default).pgroup)=3))&&(!decide ((yX (d.types.getD (((d.projs.getD z default).ptyp).toNat) default) ((d.projs.getD z default).pby))=2)))||((!decide (((d.projs.getD z default).pgroup)=3))&&(!decide (((d.projs.getD z default).pby)=0)))))]) [[],[0],[0,1],[0,1,2],(rg 4),(rg 5),(rg 4),[0,1,2,3,6],(rg 8),(rg 9),(rg 4),[0,1,2,3,10],(rg 12),(rg 13),(rg 14),(rg 15),(rg 16),(rg 17),(rg 18),(rg 19),(rg 20),(rg 21),(rg 22),(rg 23),(rg 24)] [12] [(0,0),(0,0),(0,0),(0,0),(0,0),(0,0),(0,0),(0,0),(0,0),(0,0),(0,0),(0,0),(0,0),(1,1),(1,1),(1,1),(1,1),(1,1),(1,1),(1,1),(1,1),(1,1),(1,1),(1,1),(1,1)] bm ⟨fun _ _ _ _ _ _ _=>obl rfl (YJ rfl dR),ob1 0 fun _ _ (bA:Sep _ _ _ _) bB=>obl rfl (lD (Iv ((d.projs.getD z default).pgroup)) kT (bB 0 dc) (zd (bA.b1) rfl) dR),ob1 0 fun _ _ _ bC=>obl rfl (zS (k:=.i64) (a:=(d.projs.getD z default).pgroup) (b:=3) (bC 1 dc) rfl dR),fun _ _ _ _ _ _ bD=>obl rfl (zP (v:=.bool (decide (((d.projs.getD z default).pgroup)=3))) (bD 2 dc) dR),?_,?_,?_,?_,?_,?_,?_,?_,?_,?_,fun _ _ _ _ _ _ aA=>obl rfl (zx (b:=decide (((d.projs.getD z default).pgroup)=3)) (b':= !decide ((yX (d.types.getD (((d.projs.getD z default).ptyp).toNat) default) ((d.projs.getD z default).pby))=2)) (aA 3 dc) (fun hbp=>(zr (aA 13 dc) (ifpC hbp))) dR),fun _ _ _ _ _ _ bE=>obl rfl (zP (v:=.bool ((decide (((d.projs.getD z default).pgroup)=3))&&(!decide ((yX (d.types.getD (((d.projs.getD z default).ptyp).toNat) default) ((d.projs.getD z default).pby))=2)))) (bE 14 dc) dR),?_,?_,?_,?_,?_,?_,?_,?_,fun _ _ _ _ _ _ aB=>obl rfl (zI (b:=(decide (((d.projs.getD z default).pgroup)=3))&&(!decide ((yX (d.types.getD (((d.projs.getD z default).ptyp).toNat) default) ((d.projs.getD z default).pby))=2))) (b':=(!decide (((d.projs.getD z default).pgroup)=3))&&(!decide (((d.projs.getD z default).pby)=0))) (aB 15 dc) (fun hbp=>(zr (aB 23 dc) (ifpC hbp))) dR),zl⟩ ?_
 refine fun _ _ _ _ _ _ bF=>(zN rfl rfl (bF 3 dc) (fun T=>?_) yd)
 have hl341:=tD T
 exact yH rfl (yc T)
 refine ob1 0 fun _ _ (bG:Sep _ _ _ _) aC=>(zN rfl rfl (aC 3 dc) (fun I=>?_) yd)
 have hl352:=tD I
 exact lD dd0 nT (zr (aC 4 dc) (ifpC I)) (zd (bG.b2) rfl) (yc I)
 refine fun _ _ _ _ _ _ bH=>(zN rfl rfl (bH 3 dc) (fun U=>?_) yd)
 have hl361:=tD U
 exact Kg rfl (yc U)
 refine ob1 0 fun _ _ (bI:Sep _ _ _ _) aD=>(zN rfl rfl (aD 3 dc) (fun J=>?_) yd)
 have hl372:=tD J
 exact lD (Iv ((d.projs.getD z default).ptyp)) kT (zr (aD 6 dc) (ifpC J)) (zd (bI.b1) rfl) (yc J)
 refine ob1 0 fun _ _ _ an=>(zN rfl rfl (an 3 dc) (fun C=>?_) yd)
 have hl384:=tD C
 have hi385:((d.projs.getD z default).ptyp).toNat<d.types.length:=bo
 exact zB (k:=1) (i:=(d.projs.getD z default).ptyp) oT rT (zr (an 5 dc) (ifpC C)) hdd0.sl (zr (an 7 dc) (ifpC C)) ⟨by omega,by omega⟩ (yc C)
 refine ob1 0 fun _ _ (bJ:Sep _ _ _ _) aE=>(zN rfl rfl (aE 3 dc) (fun K=>?_) yd)
 have hl396:=tD K
 have aF:((d.projs.getD z default).ptyp).toNat<d.types.length:=bo
 obtain⟨bn,ay,hoke397⟩:=hdd0.typD aF
 have hsm399:((d.types.getD (((d.projs.getD z default).ptyp).toNat) default).fields).length*48≤140737488355328:=ay.small
 have bp:=bJ.cells bn (hdd0.foot (ne_of_lt aF))
 exact zh (k:=1) kY rT rfl (zr (aE 8 dc) (ifpC K)) bp (yc K)
 refine fun _ _ _ _ _ _ bK=>(zN rfl rfl (bK 3 dc) (fun X=>?_) yd)
 have hl409:=tD X
 exact Wk rfl (yc X)
 refine ob1 0 fun _ _ (bL:Sep _ _ _ _) aG=>(zN rfl rfl (aG 3 dc) (fun L=>?_) yd)
 have hl420:=tD L
 exact lD (Iv ((d.projs.getD z default).pby)) kT (zr (aG 10 dc) (ifpC L)) (zd (bL.b1) rfl) (yc L)
 refine ob1 0 fun vals cW (ao:Sep _ _ _ _) ap=>(zN rfl rfl (ap 3 dc) (fun D=>?_) (fun D c g aH=>?_))
 have hl177:=tD D
 have aI:((d.projs.getD z default).ptyp).toNat<d.types.length:=bo
 obtain⟨bq,af,be⟩:=hdd0.typD aI
 have hsm180:((d.types.getD (((d.projs.getD z default).ptyp).toNat) default).fields).length*48≤140737488355328:=af.small
 have hcw181:=ao.cells bq (hdd0.foot (ne_of_lt aI))
 refine(zW (f:=56) (vals:=[.agg ((d.types.getD (((d.projs.getD z default).ptyp).toNat) default).cells (zT W (sb dd0) (so dd0+(((d.projs.getD z default).ptyp).toNat)*1+0))).toArray,Iv ((d.projs.getD z default).pby)]) (cap:=[]) rfl (yM ⟨(zr (ap 9 dc) (ifpC D)),(zr (ap 11 dc) (ifpC D)),zl⟩) vY (zaO (t:=(d.types.getD (((d.projs.getD z default).ptyp).toNat) default)) (n:=(d.projs.getD z default).pby) af be ae.pby ao) ?_)
 rintro _ w182 ⟨rfl,bM⟩
 exact fun c g aH=>⟨(zA (g.trans (ifpC D).symm) bM),zl⟩
 refine⟨?_,zl⟩
 show(c 12=(if(decide (((d.projs.getD z default).pgroup)=3))=true then(Iv ((yX (d.types.getD (((d.projs.getD z default).ptyp).toNat) default) ((d.projs.getD z default).pby))):Value)else undef))∧Sep G W ((Blk bk #[Iv o,Iv p,.bool q,s] 87)::(Blk u de.toArray 73)::df::Rs) cW
 exact⟨(g.trans (ifnC D).symm),ao⟩
 refine ob1 1 fun _ _ bN bO=>?_
 obtain⟨E,hS427⟩:=bN
 refine zN rfl rfl (bO 3 dc) (fun M=>?_) yd
 have hl430:=tD M
 exact yy (k:=.i64) (a:=(yX (d.types.getD (((d.projs.getD z default).ptyp).toNat) default) ((d.projs.getD z default).pby))) (b:=2) (zr E (ifpC M)) rfl (yc M)
 refine fun _ _ _ _ _ _ bP=>(zN rfl rfl (bP 15 dc) (fun Y=>?_) yd)
 have bQ:=Y
 try simp only[zi]at bQ
 exact YJ rfl (yc Y)
 refine ob1 1 fun _ _ bR aJ=>?_
 obtain⟨E,bS⟩:=bR
 refine zN rfl rfl (aJ 15 dc) (fun N=>?_) yd
 have bT:=N
 try simp only[zi]at bT
 exact lD (Iv ((d.projs.getD z default).pgroup)) kT (zr (aJ 16 dc) (ifpC N)) (zd (bS.b1) rfl) (yc N)
 refine ob1 1 fun _ _ bU aK=>?_
 obtain⟨E,hS472⟩:=bU
 refine zN rfl rfl (aK 15 dc) (fun O=>?_) yd
 have bV:=O
 try simp only[zi]at bV
 exact yy (k:=.i64) (a:=(d.projs.getD z default).pgroup) (b:=3) (zr (aK 17 dc) (ifpC O)) rfl (yc O)
 refine fun _ _ _ _ _ _ aL=>(zN rfl rfl (aL 15 dc) (fun P=>?_) yd)
 have bW:=P
 try simp only[zi]at bW
 exact zP (v:=.bool (!decide (((d.projs.getD z default).pgroup)=3))) (zr (aL 18 dc) (ifpC P)) (yc P)
 refine fun _ _ _ _ _ _ bX=>(xS rfl rfl (bX 19 dc) (fun Q=>?_) yd)
 have bY:=Q.1
 try simp only[zi]at bY
 have hl496:=yn Q.2
 exact Wk rfl (yc Q)
 refine ob1 1 fun _ _ bZ aM=>?_
 obtain⟨E,ca⟩:=bZ
 refine xS rfl rfl (aM 19 dc) (fun y=>?_) yd
 have cb:=y.1
 try simp only[zi]at cb
 have hl508:=yn y.2
 exact lD (Iv ((d.projs.getD z default).pby)) kT (zr (aM 20 dc) (ifpC ⟨y.1,y.2⟩)) (zd (ca.b1) rfl) (yc y)
 refine ob1 1 fun _ _ cc aN=>?_
 obtain⟨E,hS515⟩:=cc
 refine xS rfl rfl (aN 19 dc) (fun A=>?_) yd
 have cd:=A.1
 try simp only[zi]at cd
 have hl520:=yn A.2
 exact yy (k:=.i64) (a:=(d.projs.getD z default).pby) (b:=0) (zr (aN 21 dc) (ifpC ⟨A.1,A.2⟩)) rfl (yc A)
 refine fun _ _ _ _ _ _ aq=>(zN rfl rfl (aq 15 dc) (fun F=>?_) yd)
 have ce:=F
 try simp only[zi]at ce
 exact zx (b:= !decide (((d.projs.getD z default).pgroup)=3)) (b':= !decide (((d.projs.getD z default).pby)=0)) (zr (aq 19 dc) (ifpC F)) (fun hbp=>(zr (aq 22 dc) (ifpC ⟨F,hbp⟩))) (yc F)
 intro vals w540 cf cg
 obtain⟨E,B⟩:=cf
 have cX:=cg 24 dc
 refine yg (kv:=[(1,Ix b2 0),(6,Iw z),(48,Iw z),(49,Ix b2 1),(50,dd1),(51,Iw d.projs.length),(52,.bool true),(55,Ix b2 1),(56,dd1),(57,Iw z),(58,Ix (sb dd1) (so dd1+z*5)),(59,.agg de.toArray),(7,Ix u 0),(61,.agg (d.cells dd0 dd1).toArray),(62,Ix u 0),(63,Iv ((d.projs.getD z default).ptyp)),(64,Ix u 1),(65,Iv ((d.projs.getD z default).pfield)),(66,.tuple #[.agg #[Iv o,Iv p,.bool q,s],.bool x]),(60,.tuple #[.agg #[Iv o,Iv p,.bool q,s],.bool x]),(67,.agg #[Iv o,Iv p,.bool q,s]),(68,.bool x),(8,Ix bk 0),(9,.bool x),(69,.bool x),(70,.bool false),(95,.bool (((decide (((d.projs.getD z default).pgroup)=3))&&(!decide ((yX (d.types.getD (((d.projs.getD z default).ptyp).toNat) default) ((d.projs.getD z default).pby))=2)))||((!decide (((d.projs.getD z default).pgroup)=3))&&(!decide (((d.projs.getD z default).pby)=0)))))]) ⟨rfl,rfl,rfl,rfl,rfl,rfl,rfl,rfl,rfl,rfl,rfl,rfl,rfl,rfl,rfl,rfl,rfl,rfl,rfl,rfl,rfl,rfl,rfl,rfl,rfl,rfl,(by exact cX),zl⟩ (fun ρw540=>?_)
 refine zb ?_
 cases ar:((decide (((d.projs.getD z default).pgroup)=3))&&(!decide ((yX (d.types.getD (((d.projs.getD z default).ptyp).toNat) default) ((d.projs.getD z default).pby))=2)))||((!decide (((d.projs.getD z default).pgroup)=3))&&(!decide (((d.projs.getD z default).pby)=0)))
 try simp only[zi]at ar
 refine ze rfl (zp (za (zF kr (st (YJ rfl (st (lD (Iv ((d.projs.getD z default).pgroup)) kT rfl (zd (B.b1) rfl) (st (zK (k:=.i64) (a:=(d.projs.getD z default).pgroup) (b:=1) rfl rfl (st (mV (.bool (decide (((d.projs.getD z default).pgroup)<1))) (stc (V:=Ix u 2) rfl rfl (fun ch=>?_) ?_))))))))))))
 have hl547:=fD ch
 exact YJ rfl rflB
 refine stc (V:=Iv ((d.projs.getD z default).pgroup)) rfl rfl (fun aO=>?_) ?_
 have hl549:=fD aO
 exact lD (Iv ((d.projs.getD z default).pgroup)) kT (ifpC aO) (zd (B.b1) rfl) rflB
 refine stc (V:=.bool (decide (3<((d.projs.getD z default).pgroup)))) rfl rfl (fun aP=>?_) ?_
 have hl551:=fD aP
 exact xh (k:=.i64) (a:=(d.projs.getD z default).pgroup) (b:=3) (ifpC aP) rfl rflB
 refine st (zI (b:=decide (((d.projs.getD z default).pgroup)<1)) (b':=decide (3<((d.projs.getD z default).pgroup))) rfl (fun hbp=>(ifpC hbp)) (st (mV (.bool ((decide (((d.projs.getD z default).pgroup)<1))||(decide (3<((d.projs.getD z default).pgroup))))) (stc (V:=Ix u 4) rfl rfl (fun ci=>?_) ?_))))
 have cj:=ci
 try simp only[zi]at cj
 exact KF rfl rflB
 refine stc (V:=Iv ((d.projs.getD z default).pmake)) rfl rfl (fun aQ=>?_) ?_
 have ck:=aQ
 try simp only[zi]at ck
 exact lD (Iv ((d.projs.getD z default).pmake)) kT (ifpC aQ) (zd (B.b1) rfl) rflB
 refine stc (V:=.bool (decide (((d.projs.getD z default).pmake)<1))) rfl rfl (fun aR=>?_) ?_
 have cl:=aR
 try simp only[zi]at cl
 exact zK (k:=.i64) (a:=(d.projs.getD z default).pmake) (b:=1) (ifpC aR) rfl rflB
 refine st (zI (b:=(decide (((d.projs.getD z default).pgroup)<1))||(decide (3<((d.projs.getD z default).pgroup)))) (b':=decide (((d.projs.getD z default).pmake)<1)) rfl (fun hbp=>(ifpC hbp)) (st (mV (.bool (((decide (((d.projs.getD z default).pgroup)<1))||(decide (3<((d.projs.getD z default).pgroup))))||(decide (((d.projs.getD z default).pmake)<1)))) (stc (V:=Ix u 4) rfl rfl (fun cm=>?_) ?_))))
 have cn:=cm
 try simp only[zi]at cn
 exact KF rfl rflB
 refine stc (V:=Iv ((d.projs.getD z default).pmake)) rfl rfl (fun aT=>?_) ?_
 have co:=aT
 try simp only[zi]at co
 exact lD (Iv ((d.projs.getD z default).pmake)) kT (ifpC aT) (zd (B.b1) rfl) rflB
 refine stc (V:=.bool (decide (5<((d.projs.getD z default).pmake)))) rfl rfl (fun aU=>?_) ?_
 have cp:=aU
 try simp only[zi]at cp
 exact xh (k:=.i64) (a:=(d.projs.getD z default).pmake) (b:=5) (ifpC aU) rfl rflB
 refine st (zI (b:=((decide (((d.projs.getD z default).pgroup)<1))||(decide (3<((d.projs.getD z default).pgroup))))||(decide (((d.projs.getD z default).pmake)<1))) (b':=decide (5<((d.projs.getD z default).pmake))) rfl (fun hbp=>(ifpC hbp)) (zb ?_))
 cases au:(((decide (((d.projs.getD z default).pgroup)<1))||(decide (3<((d.projs.getD z default).pgroup))))||(decide (((d.projs.getD z default).pmake)<1)))||(decide (5<((d.projs.getD z default).pmake)))
 try simp only[zi]at au
 refine ze rfl (zp (R0 fun _=>st (mV (Iw z) ?_)))
 have cq:InR ((z+1:Nat):Int):=bo
 refine st (zO (r:=((z+1:Nat):Int)) (k:=.i64) (a:=((z:Nat):Int)) (b:=1) rfl rfl (by rw[show(((z:Nat):Int)+1:Int)=((z+1:Nat):Int)from bo];exact zw cq) (st (aS (Iw (z+1)) (zb ?_))))
 have cY:VW (d.projs.getD z default):=by
  have h8:=ar
  have h9:=au
  unfold VW
  by_cases hg:(d.projs.getD z default).pgroup=3
  ·have h7:=Jk (t:=d.types.getD (d.projs.getD z default).ptyp.toNat default) (n:=(d.projs.getD z default).pby) (by omega);omega
  ·omega
 exact⟨_,by omega,z+1,_,rfl,sSf,by omega,(xf hpz cY),(B.s3_c)⟩
 try simp only[zi]at au
 refine zg rfl (za (R0 fun _=>st (aS (Iv 2) (zb (zq (zU wT (show _=(Iv 2:Value)from rfl) ?_))))))
 refine⟨2,rfl,?_,?_,(B.s3_)⟩
 first|decide|assumption
 intro h9
 exfalso;omega
 try simp only[zi]at ar
 refine zg rfl (za (R0 fun _=>st (aS (Iv 8) (zb (zq (zU wT (show _=(Iv 8:Value)from rfl) ?_))))))
 refine⟨8,rfl,?_,?_,(B.s3_)⟩
 first|decide|assumption
 intro h9
 exfalso;omega
 try simp only[zi]at ax
 refine zg rfl (za (R0 fun _=>st (aS (Iv 8) (zb (zq (zU wT (show _=(Iv 8:Value)from rfl) ?_))))))
 refine⟨8,rfl,?_,?_,(bm.s3_)⟩
 first|decide|assumption
 intro h9
 exfalso;omega
 have ak:=tD ak
 refine zg rfl (zp (za (zt (za (R0 fun _=>st (aS (Iv 0) (zb (zt (zZ (fun mq σ S=> ∃(j:Nat) (ρ:Env),mq=(d.types.getD k default).fields.length-j∧σ=yf ρ [(1,Ix b2 0),(3,Iw k),(4,Iw j)]∧(j≤(d.types.getD k default).fields.length)∧(∀i,i<j→Qx (d.types.getD k default) ((d.types.getD k default).fields.getD i default))∧Sep G W ((Blk b2 (d.cells dd0 dd1).toArray 25)::Rs) S) ⟨0,_,rfl,sSf,zY _,(fun i h=>absurd h (yO i)),aw⟩ ?_)))))))))
 rintro m571 σ572 w570 ⟨j,ρl3,rfl,rfl,hkj,cP,Z⟩
 refine za (za (R0 fun _=>st (mV (Iw j) (st (yH rfl (st (lD dd0 nT rfl (zd (Z.b0) rfl) (st (mV (Iw k) ?_)))))))))
 have cr:k<d.types.length:=bo
 refine st (zf (k:=1) (i:=k) oT rT rfl hdd0.sl rfl cr (st (yU rfl ?_)))
 have aa:k<d.types.length:=bo
 obtain⟨ag,m,bf⟩:=hdd0.typD aa
 have hsm577:((d.types.getD k default).fields).length*48≤140737488355328:=m.small
 have br:=Z.cells ag (hdd0.foot (ne_of_lt aa))
 refine st (lD aj sT rfl (br.get (j:=0) rfl) (st (zC (n:=((d.types.getD k default).fields).length) mT rfl m.sl (st (zK (k:=.i64) (a:=((j:Nat):Int)) (b:=((((d.types.getD k default).fields).length:Nat):Int)) rfl rfl (zb ?_))))))
 cases ab:decide (((j:Nat):Int)<((((d.types.getD k default).fields).length:Nat):Int))
 have ab:=fD ab
 refine ze rfl (ya (zR (R0 fun _=>st (mV (Iw k) ?_))))
 have cs:InR ((k+1:Nat):Int):=bo
 refine st (zO (r:=((k+1:Nat):Int)) (k:=.i64) (a:=((k:Nat):Int)) (b:=1) rfl rfl (by rw[show(((k:Nat):Int)+1:Int)=((k+1:Nat):Int)from bo];exact zw cs) (st (aS (Iw (k+1)) (zb ?_))))
 exact⟨_,by omega,k+1,_,rfl,sSf,by omega,(xf hm (fun j9 h9=>cP j9 om)),Z⟩
 have ab:=tD ab
 refine zg rfl (zp (za (zt (za ?_))))
 refine WD4 ((fun av=>WF [fun vals S=>Sep G W (av::Rs) S,fun vals S=> ∃(l:Int),(vals 14=(Iv l:Value))∧(InR l)∧(l=0→Qx (d.types.getD k default) (((d.types.getD k default).fields).getD j default))∧Sep G W (av::Rs) S]) df) (AF [Vl 0 (Ix b2 0),Vl 1 dd0,Vl 2 (Iw k),Vl 3 (Ix (sb dd0) (so dd0+k*1)),Vl 4 (.agg ((d.types.getD k default).cells aj).toArray),Vl 5 (Ix b2 0),Vl 6 dd0,Vl 7 (Iw k),Vl 8 (Ix (sb dd0) (so dd0+k*1)),Vl 9 (Ix (sb dd0) (so dd0+k*1)),Vl 10 aj,Vl 11 (Iw j),Vl 12 (Ix (sb aj) (so aj+j*4)),Vl 13 (.agg ((((d.types.getD k default).fields).getD j default).cells (zT W (sb aj) (so aj+j*4+3))).toArray),fun _=>True,fun vals=> ∀(l:Int),vals 14=(Iv l:Value)→vals 15=(Iv l:Value)]) [[],[0],[],[0,1,2],(rg 4),[],[5],[],[5,6,7],[5,6,7,8],[5,6,7,8,9],[],[5,6,7,8,9,10,11],[5,6,7,8,9,10,11,12],(rg 14),(rg 15)] [14] [(0,0),(0,0),(0,0),(0,0),(0,0),(0,0),(0,0),(0,0),(0,0),(0,0),(0,0),(0,0),(0,0),(0,0),(0,0),(1,1)] Z ⟨fun _ _ _ _ _ _ _=>obl rfl (yH rfl dR),ob1 0 fun _ _ (ct:Sep _ _ _ _) cu=>obl rfl (lD dd0 nT (cu 0 dc) (zd (ct.b0) rfl) dR),fun _ _ _ _ _ _ _=>obl rfl (mV (Iw k) dR),?_,?_,fun _ _ _ _ _ _ _=>obl rfl (yH rfl dR),ob1 0 fun _ _ (cv:Sep _ _ _ _) cw=>obl rfl (lD dd0 nT (cw 5 dc) (zd (cv.b0) rfl) dR),fun _ _ _ _ _ _ _=>obl rfl (mV (Iw k) dR),?_,fun _ _ _ _ _ _ cx=>obl rfl (yU (cx 8 dc) dR),?_,fun _ _ _ _ _ _ _=>obl rfl (mV (Iw j) dR),?_,?_,?_,?_,zl⟩ ?_ (hlocA:=xi ⟨dA,dA,dA,dA,dA,dA,dA,dA,dA,dA,dA,dA,dA,dA,dT,fun vals c g h=>fun l aV=>(g 15 (.inl rfl)).trans (h l ((g 14 (.inr dc)).symm.trans aV)),zl⟩)
 refine ob1 0 fun _ _ _ aW=>(obl rfl ?_)
 have cy:k<d.types.length:=bo
 exact zf (k:=1) (i:=k) oT rT (aW 1 dc) hdd0.sl (aW 2 dc) cy dR
 refine ob1 0 fun _ _ (cz:Sep _ _ _ _) cA=>(obl rfl ?_)
 have bs:=cz.cells ag (hdd0.foot (ne_of_lt aa))
 exact zh (k:=1) kY rT rfl (cA 3 dc) bs dR
 refine ob1 0 fun _ _ _ aX=>(obl rfl ?_)
 have cB:k<d.types.length:=bo
 exact zf (k:=1) (i:=k) oT rT (aX 6 dc) hdd0.sl (aX 7 dc) cB dR
 refine ob1 0 fun _ _ (cC:Sep _ _ _ _) cD=>(obl rfl ?_)
 have bt:=cC.cells ag (hdd0.foot (ne_of_lt aa))
 exact lD aj sT (cD 9 dc) (bt.get (j:=0) rfl) dR
 refine ob1 0 fun _ _ _ aY=>(obl rfl ?_)
 have cE:j<((d.types.getD k default).fields).length:=bo
 exact zf (k:=4) (i:=j) mT lT (aY 10 dc) m.sl (aY 11 dc) cE dR
 refine ob1 0 fun _ _ (cF:Sep _ _ _ _) cG=>(obl rfl ?_)
 have aZ:j<((d.types.getD k default).fields).length:=bo
 obtain⟨bu,az,hoke833⟩:=m.fldD aZ
 have hsm835:((((d.types.getD k default).fields).getD j default).moves).length*32≤140737488355328:=az.small
 have bv:=cF.cells bu (m.foot (ne_of_lt aZ))
 exact zh (k:=4) vT lT rfl (cG 12 dc) bv dR
 refine ob1 0 fun vals _ (ba:Sep _ _ _ _) bb=>(obl rfl ?_)
 have bc:j<((d.types.getD k default).fields).length:=bo
 obtain⟨bw,ah,bg⟩:=m.fldD bc
 have hsm707:((((d.types.getD k default).fields).getD j default).moves).length*32≤140737488355328:=ah.small
 have hcw708:=ba.cells bw (m.foot (ne_of_lt bc))
 refine(zW (f:=54) (vals:=[.agg ((d.types.getD k default).cells aj).toArray,.agg ((((d.types.getD k default).fields).getD j default).cells (zT W (sb aj) (so aj+j*4+3))).toArray]) (cap:=[]) rfl (yM ⟨(bb 4 dc),(bb 13 dc),zl⟩) Tryz.call54 (D_one (t:=(d.types.getD k default)) (f:=(((d.types.getD k default).fields).getD j default)) m bf ah bg ba) ?_)
 rintro _ w712 ⟨l,rfl,ai,H,cH⟩
 exact fun c g aH=>⟨(exiA l (zA g (zA ai (zA H cH)))),zl⟩
 refine ob1 1 fun _ _ cI _=>?_
 obtain⟨l,ac,ai,H,hS843⟩:=cI
 refine obl rfl (zM (v:=Iv l) ac (fun c g aH=>⟨rfl,?_⟩))
 intro e709q aV
 rw[aH 14 (by decide)]at aV;cases ac.symm.trans aV
 exact g
 intro vals w844 cJ cK
 obtain⟨l,ac,ai,H,bd⟩:=cJ
 have cZ:vals 15=(Iv l:Value):=cK 15 dc l ac
 refine yg (kv:=[(1,Ix b2 0),(3,Iw k),(4,Iw j),(19,Iw j),(20,Ix b2 0),(21,dd0),(22,Iw k),(23,Ix (sb dd0) (so dd0+k*1)),(24,Ix (sb dd0) (so dd0+k*1)),(25,aj),(26,Iw (((d.types.getD k default).fields).length)),(27,.bool true),(5,Iv l)]) ⟨rfl,rfl,rfl,rfl,rfl,rfl,rfl,rfl,rfl,rfl,rfl,rfl,(by exact cZ),zl⟩ (fun ρw844=>(zb (za (R0 fun _=>st (mV (Iv l) (st (yy (k:=.i64) (a:=l) (b:=0) rfl rfl (zb ?_))))))))
 cases R: !decide (l=0)
 have R:=zQ R
 refine ze rfl (zp (R0 fun _=>st (mV (Iw j) ?_)))
 have cM:InR ((j+1:Nat):Int):=bo
 refine st (zO (r:=((j+1:Nat):Int)) (k:=.i64) (a:=((j:Nat):Int)) (b:=1) rfl rfl (by rw[show(((j:Nat):Int)+1:Int)=((j+1:Nat):Int)from bo];exact zw cM) (st (aS (Iw (j+1)) (zb ?_))))
 exact⟨_,by omega,j+1,_,rfl,sSf,by omega,(xf cP (H (by have h9:=R;omega))),bd⟩
 have R:=yn R
 refine zg rfl (za (R0 fun _=>st (mV (Iv l) (st (aS (Iv l) (zb (zq (zU wT (show _=(Iv l:Value)from rfl) ?_))))))))
 refine⟨l,rfl,?_,?_,(bd.s1_)⟩
 first|decide|assumption
 intro h9
 exfalso;omega
 refine zg rfl (za (R0 fun _=>st (aS (Iv 3) (zb (zq (zU wT (show _=(Iv 3:Value)from rfl) ?_))))))
 refine⟨3,rfl,?_,?_,(cO.s1_)⟩
 first|decide|assumption
 intro h9
 exfalso;omega
end
end Go.Proofs.YtpdolkiohjdodaaGreatDoor
