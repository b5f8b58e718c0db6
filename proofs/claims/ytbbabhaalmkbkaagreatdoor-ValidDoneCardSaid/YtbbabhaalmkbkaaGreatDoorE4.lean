import Derived.Test.YtbbabhaalmkbkaaGreatDoorE3
set_option linter.unusedSimpArgs false
set_option linter.unusedVariables false
set_option linter.unusedSectionVars false
set_option linter.deprecated false
open Go.Proofs.Tryz renaming isAgg3→kT,sizeOf110→lT,underlying51→mT,underlying108→nT,isAgg108→oT,isAgg22→pT,underlying22→qT,sizeOf136→rT,isAgg51→sT,sizeOf53→tT,isAgg39→uT,isAgg112→vT,sizeOf112→wT,call63→kR,isAgg110→lR,results47→mR,underlying45→nR,sizeOf3→oR,results21→pR,results46→qR,sizeOf99→rR,sizeOf39→sR,zeroValue104→tR,call83→uR,results67→vR,results68→wR,underlying106→kY,underlying3→lY,sizeOf104→mY,results18→nY,isAgg23→oY,underlying23→pY,results49→qY,isAgg136→rY,zeroValue136→sY,zeroValue110→tY,results48→uY
namespace Go.Proofs.YtbbabhaalmkbkaaGreatDoor
section
set_option maxRecDepth 8000
open Go.Proofs Go.RowKit
theorem Kd {G:Nat→Prop}{W w:World}{Rs:List HP}{vl:Value}{l:List Int}{i:Nat}{b:Nat}{x:Int}(hS0:Sep G W ((RowE (α:=Int) own 3 vl l)::(Blk b #[.int .i64 x] 3)::Rs) w)(hi:i≤l.length)(hx:InR x)(hbig:(l.length+1)*8≤140737488355328):Ret Tryz.prog 84 [vl,.int .i64 ((i:Nat):Int),.slice (some ⟨b,0,none⟩) 1 1] w (fun r w'=> ∃(v:Value),r=(v:Value)∧Sep G W ((RowE (α:=Int) own 3 v (l.take i++x::l.drop i))::Rs) w'):=by
 exact Ret.mono (zaU zbu rfl hS0 hi hx hbig) (fun r w1 h=>⟨r,rfl,h⟩)
theorem Km {G:Nat→Prop}{W w:World}{Rs:List HP}{vl:Value}{l:List Int}{i:Nat}(hS0:Sep G W ((RowE (α:=Int) own 3 vl l)::Rs) w)(hi:i<l.length):Ret Tryz.prog 85 [vl,.int .i64 ((i:Nat):Int),.int .i64 ((i+1:Nat):Int)] w (fun r w'=> ∃(v:Value),r=(v:Value)∧Sep G W ((RowE (α:=Int) own 3 v (l.take i++l.drop (i+1)))::Rs) w'):=by
 exact Ret.mono (zam zbo hS0 hi) (fun r w1 h=>⟨r,rfl,h⟩)
theorem zbs {l:List Int}{i:Nat}{x:Int}(ha:Asc l)(hi:i≤l.length)(hlo: ∀q,q<i→l.getD q 0<x)(hhi: ∀q,i≤q→q<l.length→x≤l.getD q 0)(hn: ¬x∈l):l.take i++x::l.drop i=Xt l x:=by
 have h1: ∀y∈l.take i,y<x:=by
  intro y hy
  obtain⟨q,hq,rfl⟩:=List.getElem_of_mem hy
  rw[List.length_take]at hq
  have:=hlo q (by omega)
  rw[zF _ (by omega)]at this
  rw[List.getElem_take];exact this
 have h2: ∀y∈l.drop i,x<y:=by
  intro y hy
  obtain⟨q,hq,rfl⟩:=List.getElem_of_mem hy
  rw[List.length_drop]at hq
  have:=hhi (i+q) (by omega) (by omega)
  rw[zF _ (by omega)]at this
  rw[List.getElem_drop]
  have hne:l[i+q]≠x:=fun e=>hn (e▸List.getElem_mem _)
  omega
 unfold Xt
 rw[if_neg hn]
 have e1:l.filter (fun y=>decide (y<x))=l.take i:=by
  conv=>lhs;rw[←List.take_append_drop i l]
  rw[List.filter_append,List.filter_eq_self.2 (fun y hy=>by simpa using h1 y hy),List.filter_eq_nil_iff.2 (fun y hy=>by have:=h2 y hy;simp;omega),List.append_nil]
 have e2:l.filter (fun y=>decide (x<y))=l.drop i:=by
  conv=>lhs;rw[←List.take_append_drop i l]
  rw[List.filter_append,List.filter_eq_nil_iff.2 (fun y hy=>by have:=h1 y hy;simp;omega),List.filter_eq_self.2 (fun y hy=>by simpa using h2 y hy),List.nil_append]
 rw[e1,e2]
theorem KR {l:List Int}{i:Nat}{x:Int}(ha:Asc l)(hi:i≤l.length)(hlo: ∀q,q<i→l.getD q 0<x)(hhi: ∀q,i≤q→q<l.length→x≤l.getD q 0)(hn:x∈l):i<l.length∧l.take i++l.drop (i+1)=VR l x:=by
 have hm:=Vg ha hi hlo hhi
 rw[decide_eq_true hn]at hm
 have hm2:=hm.symm
 simp only[Bool.and_eq_true,decide_eq_true_eq]at hm2
 obtain⟨hil,hx⟩:=hm2
 refine⟨hil,?_⟩
 have h1: ∀y∈l.take i,y≠x:=by
  intro y hy
  obtain⟨q,hq,rfl⟩:=List.getElem_of_mem hy
  rw[List.length_take]at hq
  have:=hlo q (by omega)
  rw[zF _ (by omega)]at this
  rw[List.getElem_take];omega
 have h2: ∀y∈l.drop (i+1),y≠x:=by
  intro y hy
  obtain⟨q,hq,rfl⟩:=List.getElem_of_mem hy
  rw[List.length_drop]at hq
  have:=Vi ha (show i<i+1+q by omega) (by omega)
  rw[hx,zF _ (by omega)]at this
  rw[List.getElem_drop];omega
 unfold VR
 conv=>rhs;rw[←List.take_append_drop i l]
 rw[List.filter_append,List.filter_eq_self.2 (fun y hy=>by simpa using h1 y hy),List.drop_eq_getElem_cons hil,List.filter_cons,if_neg (by rw[zF _ hil]at hx;simp[hx]),List.filter_eq_self.2 (fun y hy=>by simpa using h2 y hy)]
theorem UI (n:Int):InR (IntKind.i64.wrap n):=VQ n
theorem Yu {G:Nat→Prop}{W w:World}{Rs:List HP}{fl:Fld}{dm vc:Value}{no arg:Int}{sh:List CelS}(hS0:Sep G W ((RowE (α:=CelS) own 99 vc sh)::Rs) w)(hno:0≤no∧no<sh.length):Ret Tryz.prog 63 [.agg #[.int .i64 (fl.kind),.int .i64 (fl.policy),.bool (fl.floor),dm,vc,.int .i64 (no),.int .i64 (arg)]] w (fun r w'=>r=(.pointer (some ⟨sb vc,so vc+no.toNat*2,none⟩):Value)∧Sep G W ((RowE (α:=CelS) own 99 vc sh)::Rs) w'):=by
 refine zi (args:=[.agg #[Iv (fl.kind),Iv (fl.policy),.bool (fl.floor),dm,vc,Iv no,Iv arg]]) Tryz.func63 rfl rfl ?_
 have b:=hS0.r0
 have hr1s:_*32≤_:=b.2
 refine za (R0 fun _=>st (zN (v:=.agg #[Iv (fl.kind),Iv (fl.policy),.bool (fl.floor),dm,vc,Iv no,Iv arg]) rfl ?_))
 intro w4 b3 c
 have a:=hS0.new c
 refine st (aS (.pointer none) (zd (za (R0 fun _=>st (WL rfl (st (lD vc Tryz.isAgg45 rfl (zb (a.b0) rfl) (st (Qo rfl (st (lD (Iv no) kT rfl (zb (a.b0) rfl) ?_)))))))))))
 have hi6:no.toNat<sh.length:=bo
 refine st (zA (k:=2) (i:=no) nR rR rfl b.1 rfl ⟨by omega,by omega⟩ (st (aS (Ix (sb vc) (so vc+no.toNat*2)) (zd (zj (zK Tryz.results63 (show _=(Ix (sb vc) (so vc+no.toNat*2):Value)from rfl) ?_))))))
 refine⟨rfl,(a.s2_b)⟩
set_option maxHeartbeats 4000000 in
theorem zas {G:Nat→Prop}{W w:World}{Rs:List HP}{fl:Fld}{dm vc:Value}{no arg:Int}{l:List Cel}(hS0:Sep G W ((CelW vc 99 3 l)::Rs) w)(hno:0≤no∧no<l.length)(hno0:InR no)(harg:InR arg):Ret Tryz.prog 65 [.agg #[.int .i64 (fl.kind),.int .i64 (fl.policy),.bool (fl.floor),dm,vc,.int .i64 (no),.int .i64 (arg)]] w (fun r w'=>r=(.tuple #[]:Value)∧Sep G W ((CelW vc 99 3 (l.set no.toNat (yW fl (yo l no) 2 arg)))::Rs) w'):=by
 refine zi (args:=[.agg #[Iv (fl.kind),Iv (fl.policy),.bool (fl.floor),dm,vc,Iv no,Iv arg]]) Tryz.func65 rfl rfl ?_
 obtain⟨a,d,C⟩:=CelW.open hS0
 have hsh2l:=d.1
 have T:=C.r0
 have hr4s:_*32≤_:=T.2
 have F:Sep G W ((RowE (α:=CelS) own 99 vc a)::(Star (SetRows 3 a l))::Rs) w:=C
 refine za (R0 fun _=>st (zN (v:=.agg #[Iv (fl.kind),Iv (fl.policy),.bool (fl.floor),dm,vc,Iv no,Iv arg]) rfl ?_))
 intro w7 H U
 refine zd ?_
 refine WD4 ((fun TT g D=>WF [fun vals h=>Sep G W (g::D::TT) h,fun vals h=>(vals 1=(Ix (sb vc) (so vc+no.toNat*2):Value))∧Sep G W (D::g::TT) h,fun vals h=>(vals 1=(Ix (sb vc) (so vc+no.toNat*2):Value))∧Sep G W ((RowE (α:=CelS) own 99 vc (a.set no.toNat (⟨arg,(a.getD no.toNat default).v⟩:CelS)))::g::TT) h]) ((Star (SetRows 3 a l))::Rs) (Blk H #[Iv (fl.kind),Iv (fl.policy),.bool (fl.floor),dm,vc,Iv no,Iv arg] 112) (RowE (α:=CelS) own 99 vc a)) (AF [Vl 0 (.agg #[Iv (fl.kind),Iv (fl.policy),.bool (fl.floor),dm,vc,Iv no,Iv arg]),fun _=>True,Vl 2 (Ix H 6),Vl 3 (Iv arg),Vl 4 (Ix (sb vc) (so vc+no.toNat*2)),Vl 5 (Ix (sb vc) (so vc+no.toNat*2)),fun _=>True]) [[],[0],[],[2],(rg 4),(rg 5),(rg 6)] [1,6] [(0,0),(0,0),(0,1),(0,1),(1,1),(1,1),(1,1)] (F.new U) ⟨ob1 0 fun _ _ (I:Sep _ _ _ _) _=>obl rfl (zf (k:=7) vT wT rfl rfl (CellsAt.all (I.b0)) dR),?_,fun _ _ _ _ _ _ _=>obl rfl (xm rfl dR),?_,?_,fun _ _ _ _ _ _ x=>obl rfl (Zv (x 4 dc) dR),?_,trivial⟩ ?_
 refine ob1 0 fun vals _ (J:Sep _ _ _ _) K=>(obl rfl ?_)
 refine(zG (f:=63) (vals:=[.agg #[Iv (fl.kind),Iv (fl.policy),.bool (fl.floor),dm,vc,Iv no,Iv arg]]) (cap:=[]) rfl (yK ⟨(K 0 dc),trivial⟩) kR (Yu (J.mv1) bo) ?_)
 rintro _ w25 ⟨rfl,n⟩
 have L:=n.r0
 have hr27s:_*32≤_:=L.2
 exact fun y V E=>⟨(zv V n),trivial⟩
 refine fun e _ _ X Y p q=>?_
 have hkk:=xA X Y
 rcases hkk with rfl|rfl
 have M:Sep _ _ _ _:=p
 exact obl rfl (lD (Iv arg) kT (q 2 dc) (zb (M.b0) rfl) dR)
 obtain⟨c,N⟩:=p
 exact obl rfl (lD (Iv arg) kT (q 2 dc) (zb (N.b1) rfl) dR)
 refine ob1 1 fun _ _ O _=>?_
 obtain⟨c,hS99⟩:=O
 exact obl rfl (zB (b:=sb vc) (o:=so vc+no.toNat*2) c dR)
 refine ob1 1 fun _ _ P s=>?_
 obtain⟨c,Q⟩:=P
 refine obl rfl ?_
 have R:=Q.emp1
 refine(xu (α:=CelS) (j:=no.toNat) (o:=0) (u:=Iv arg) (us:=[Iv arg]) (x1:=(⟨arg,(a.getD no.toNat default).v⟩:CelS)) R oR bo (s 5 (by decide)) (s 3 (by decide)) rfl (Nat.le_of_ble_eq_true rfl) (ye ⟨rfl,trivial⟩) (fun _ _ _ hel _=>(by rw[←zF default (by omega)]at hel;obtain⟨rfl,hok⟩:=hel;exact⟨rfl,⟨(show InR (arg)from(by omega)),hok.one⟩⟩)) ?_)
 intro w66 t
 have S:=t.r0
 have hr69s:_*32≤_:=S.2
 exact fun y V E=>⟨(zv ((E 1 dc).trans c) t),trivial⟩
 intro vals w107 z hA109
 obtain⟨c,A⟩:=z
 refine zZ (kv:=[(0,.agg #[Iv (fl.kind),Iv (fl.policy),.bool (fl.floor),dm,vc,Iv no,Iv arg]),(1,Ix H 0)]) sEv (fun ρw107=>(zd (VZ Tryz.results65 ?_)))
 have B:Sep _ _ ((CelW vc 99 3 (l.set no.toNat ⟨arg,(l.getD no.toNat default).set⟩))::_) _:=CelW.closeN (i:=no.toNat) (m:=arg) d.1 d.2 om (A.s3_acb)
 refine⟨rfl,(B.s2_a)⟩
set_option maxHeartbeats 4000000 in
theorem zau {G:Nat→Prop}{W w:World}{Rs:List HP}{fl:Fld}{dm vc:Value}{no arg:Int}{l:List Cel}(hS0:Sep G W ((CelW vc 99 3 l)::Rs) w)(hno:0≤no∧no<l.length)(hno0:InR no)(harg:InR arg):Ret Tryz.prog 62 [.agg #[.int .i64 (fl.kind),.int .i64 (fl.policy),.bool (fl.floor),dm,vc,.int .i64 (no),.int .i64 (arg)]] w (fun r w'=>r=(.tuple #[]:Value)∧Sep G W ((CelW vc 99 3 (l.set no.toNat (yW fl (yo l no) 1 arg)))::Rs) w'):=by
 refine zi (args:=[.agg #[Iv (fl.kind),Iv (fl.policy),.bool (fl.floor),dm,vc,Iv no,Iv arg]]) Tryz.func62 rfl rfl ?_
 let n:=Ix (sb vc) (so vc+no.toNat*2)
 obtain⟨c,e,U⟩:=CelW.open hS0
 have hsh2l:=e.1
 have ah:=U.r0
 have hr4s:_*32≤_:=ah.2
 have Y:Sep G W ((RowE (α:=CelS) own 99 vc c)::(Star (SetRows 3 c l))::Rs) w:=U
 refine za (R0 fun _=>st (zN (v:=.agg #[Iv (fl.kind),Iv (fl.policy),.bool (fl.floor),dm,vc,Iv no,Iv arg]) rfl ?_))
 intro w7 Z ai
 refine zd ?_
 refine WD4 ((fun TT x V=>WF [fun vals y=>Sep G W (x::V::TT) y,fun vals y=>(vals 1=(Ix (sb vc) (so vc+no.toNat*2):Value))∧Sep G W (V::x::TT) y,fun vals y=>(vals 1=(Ix (sb vc) (so vc+no.toNat*2):Value))∧Sep G W ((RowE (α:=CelS) own 99 vc (c.set no.toNat (⟨IntKind.i64.wrap (((c.getD no.toNat default).n)+arg),(c.getD no.toNat default).v⟩:CelS)))::x::TT) y]) ((Star (SetRows 3 c l))::Rs) (Blk Z #[Iv (fl.kind),Iv (fl.policy),.bool (fl.floor),dm,vc,Iv no,Iv arg] 112) (RowE (α:=CelS) own 99 vc c)) (AF [Vl 0 (.agg #[Iv (fl.kind),Iv (fl.policy),.bool (fl.floor),dm,vc,Iv no,Iv arg]),fun _=>True,Vl 2 n,Vl 3 n,Vl 4 (Iv ((c.getD no.toNat default).n)),Vl 5 (Ix Z 6),Vl 6 (Iv arg),Vl 7 (Iv (IntKind.i64.wrap (((c.getD no.toNat default).n)+arg))),Vl 8 n,Vl 9 n,fun _=>True]) [[],[0],[0,1],[0,1,2],(rg 4),[],[5],(rg 7),(rg 8),(rg 9),(rg 10)] [1,10] [(0,0),(0,0),(1,1),(1,1),(1,1),(0,1),(0,1),(1,1),(1,1),(1,1),(1,1)] (Y.new ai) ⟨ob1 0 fun _ _ (C:Sep _ _ _ _) _=>obl rfl (zf (k:=7) vT wT rfl rfl (CellsAt.all (C.b0)) dR),?_,?_,fun _ _ _ _ _ _ D=>obl rfl (Zv (D 2 dc) dR),?_,fun _ _ _ _ _ _ _=>obl rfl (xm rfl dR),?_,?_,?_,fun _ _ _ _ _ _ E=>obl rfl (Zv (E 8 dc) dR),?_,trivial⟩ ?_
 refine ob1 0 fun vals _ (aa:Sep _ _ _ _) ab=>(obl rfl ?_)
 refine(zG (f:=63) (vals:=[.agg #[Iv (fl.kind),Iv (fl.policy),.bool (fl.floor),dm,vc,Iv no,Iv arg]]) (cap:=[]) rfl (yK ⟨(ab 0 dc),trivial⟩) kR (Yu (aa.mv1) bo) ?_)
 rintro _ w25 ⟨rfl,z⟩
 have ac:=z.r0
 have hr27s:_*32≤_:=ac.2
 exact fun F hv X=>⟨(zv hv z),trivial⟩
 refine ob1 1 fun _ _ H _=>?_
 obtain⟨d,hS116⟩:=H
 exact obl rfl (zB (b:=sb vc) (o:=so vc+no.toNat*2) d dR)
 refine ob1 1 fun _ _ I J=>?_
 obtain⟨d,K⟩:=I
 refine obl rfl ?_
 have L:no.toNat<c.length:=bo
 obtain⟨_,_,A,rfl,hoke132⟩:=K.rowAtD (i:=0) (j:=no.toNat) rfl L
 exact lD (Iv ((c.getD no.toNat default).n)) kT (J 3 dc) (A.get (j:=0) rfl) dR
 refine fun g _ _ ad ae h p=>?_
 have hkk:=xA ad ae
 rcases hkk with rfl|rfl
 have M:Sep _ _ _ _:=h
 exact obl rfl (lD (Iv arg) kT (p 5 dc) (zb (M.b0) rfl) dR)
 obtain⟨d,N⟩:=h
 exact obl rfl (lD (Iv arg) kT (p 5 dc) (zb (N.b1) rfl) dR)
 refine ob1 1 fun _ _ O q=>?_
 obtain⟨d,hS156⟩:=O
 exact obl rfl (yb (r:=IntKind.i64.wrap (((c.getD no.toNat default).n)+arg)) (k:=.i64) (a:=(c.getD no.toNat default).n) (b:=arg) (q 4 dc) (q 6 dc) rfl dR)
 refine ob1 1 fun _ _ P _=>?_
 obtain⟨d,hS165⟩:=P
 exact obl rfl (zB (b:=sb vc) (o:=so vc+no.toNat*2) d dR)
 refine ob1 1 fun _ _ af B=>?_
 obtain⟨d,ag⟩:=af
 refine obl rfl ?_
 have Q:=ag.emp1
 refine(xu (α:=CelS) (j:=no.toNat) (o:=0) (u:=Iv (IntKind.i64.wrap (((c.getD no.toNat default).n)+arg))) (us:=[Iv (IntKind.i64.wrap (((c.getD no.toNat default).n)+arg))]) (x1:=(⟨IntKind.i64.wrap (((c.getD no.toNat default).n)+arg),(c.getD no.toNat default).v⟩:CelS)) Q oR bo (B 9 (by decide)) (B 7 (by decide)) rfl (Nat.le_of_ble_eq_true rfl) (ye ⟨rfl,trivial⟩) (fun _ _ _ hel _=>(by rw[←zF default (by omega)]at hel;obtain⟨rfl,hok⟩:=hel;exact⟨rfl,⟨(show InR (IntKind.i64.wrap (((c.getD no.toNat default).n)+arg))from(UI _)),hok.one⟩⟩)) ?_)
 intro w99 s
 have R:=s.r0
 have hr102s:_*32≤_:=R.2
 exact fun F hv X=>⟨(zv ((X 1 dc).trans d) s),trivial⟩
 intro vals w173 S hA175
 obtain⟨d,T⟩:=S
 refine zZ (kv:=[(0,.agg #[Iv (fl.kind),Iv (fl.policy),.bool (fl.floor),dm,vc,Iv no,Iv arg]),(1,Ix Z 0)]) sEv (fun ρw173=>(zd (VZ Tryz.results62 ?_)))
 have t:Sep _ _ ((CelW vc 99 3 (l.set no.toNat ⟨IntKind.i64.wrap (((c.getD no.toNat default).n)+arg),(l.getD no.toNat default).set⟩))::_) _:=CelW.closeN (i:=no.toNat) (m:=IntKind.i64.wrap (((c.getD no.toNat default).n)+arg)) e.1 e.2 om (T.s3_acb)
 rw[e.2 _ (by omega)]at t
 refine⟨rfl,(t.s2_a)⟩
set_option maxHeartbeats 4000000 in
theorem Ji {G:Nat→Prop}{W w:World}{Rs:List HP}{fl:Fld}{dm vc:Value}{no arg:Int}{l:List Cel}(hS0:Sep G W ((CelW vc 99 3 l)::Rs) w)(hno:0≤no∧no<l.length)(hno0:InR no)(harg:InR arg)(hdm:RdS W G dm fl.moves)(hmv:0≤arg∧arg<fl.moves.length):Ret Tryz.prog 70 [.agg #[.int .i64 (fl.kind),.int .i64 (fl.policy),.bool (fl.floor),dm,vc,.int .i64 (no),.int .i64 (arg)]] w (fun r w'=>r=(.tuple #[]:Value)∧Sep G W ((CelW vc 99 3 (l.set no.toNat (yW fl (yo l no) 5 arg)))::Rs) w'):=by
 refine zi (args:=[.agg #[Iv (fl.kind),Iv (fl.policy),.bool (fl.floor),dm,vc,Iv no,Iv arg]]) Tryz.func70 rfl rfl ?_
 obtain⟨d,p,al⟩:=CelW.open hS0
 have hsh2l:=p.1
 have aE:=al.r0
 have hr4s:_*32≤_:=aE.2
 have ao:Sep G W ((RowE (α:=CelS) own 99 vc d)::(Star (SetRows 3 d l))::Rs) w:=al
 refine za (R0 fun _=>st (zN (v:=.agg #[Iv (fl.kind),Iv (fl.policy),.bool (fl.floor),dm,vc,Iv no,Iv arg]) rfl ?_))
 intro w7 J aF
 refine zd ?_
 refine WD4 ((fun TT K am=>WF [fun vals L=>Sep G W (K::am::TT) L,fun vals L=>(vals 1=(Ix (sb vc) (so vc+no.toNat*2):Value))∧Sep G W (am::K::TT) L,fun vals L=>(vals 1=(Ix (sb vc) (so vc+no.toNat*2):Value))∧Sep G W ((RowE (α:=CelS) own 99 vc (d.set no.toNat (⟨(fl.moves.getD arg.toNat default).to,(d.getD no.toNat default).v⟩:CelS)))::K::TT) L]) ((Star (SetRows 3 d l))::Rs) (Blk J #[Iv (fl.kind),Iv (fl.policy),.bool (fl.floor),dm,vc,Iv no,Iv arg] 112) (RowE (α:=CelS) own 99 vc d)) (AF [Vl 0 (.agg #[Iv (fl.kind),Iv (fl.policy),.bool (fl.floor),dm,vc,Iv no,Iv arg]),fun _=>True,Vl 2 (Ix J 0),Vl 3 (Ix J 3),Vl 4 (dm),Vl 5 (Ix J 6),Vl 6 (Iv arg),Vl 7 (Ix (sb dm) (so dm+arg.toNat*4)),Vl 8 (Ix (sb dm) (so dm+arg.toNat*4+1)),Vl 9 (Iv ((fl.moves.getD arg.toNat default).to)),Vl 10 (Ix (sb vc) (so vc+no.toNat*2)),Vl 11 (Ix (sb vc) (so vc+no.toNat*2)),fun _=>True]) [[],[0],[],[2],[2,3],[],[5],[2,3,4,5,6],[2,3,4,5,6,7],[2,3,4,5,6,7,8],(rg 10),(rg 11),(rg 12)] [1,12] [(0,0),(0,0),(0,1),(0,1),(0,1),(0,1),(0,1),(0,1),(0,1),(0,1),(1,1),(1,1),(1,1)] (ao.new aF) ⟨ob1 0 fun _ _ (S:Sep _ _ _ _) _=>obl rfl (zf (k:=7) vT wT rfl rfl (CellsAt.all (S.b0)) dR),?_,fun _ _ _ _ _ _ _=>obl rfl (Xb rfl dR),fun _ _ _ _ _ _ T=>obl rfl (yL (T 2 dc) dR),?_,fun _ _ _ _ _ _ _=>obl rfl (xm rfl dR),?_,?_,fun _ _ _ _ _ _ U=>obl rfl (UY (U 7 dc) dR),?_,?_,fun _ _ _ _ _ _ V=>obl rfl (Zv (V 10 dc) dR),?_,trivial⟩ ?_
 refine ob1 0 fun vals _ (ap:Sep _ _ _ _) aq=>(obl rfl ?_)
 refine(zG (f:=63) (vals:=[.agg #[Iv (fl.kind),Iv (fl.policy),.bool (fl.floor),dm,vc,Iv no,Iv arg]]) (cap:=[]) rfl (yK ⟨(aq 0 dc),trivial⟩) kR (Yu (ap.mv1) bo) ?_)
 rintro _ w25 ⟨rfl,M⟩
 have ar:=M.r0
 have hr27s:_*32≤_:=ar.2
 exact fun X hv an=>⟨(zv hv M),trivial⟩
 refine fun e _ _ au av q s=>?_
 have hkk:=xA au av
 rcases hkk with rfl|rfl
 have Y:Sep _ _ _ _:=q
 exact obl rfl (lD dm oT (s 3 dc) (zb (Y.b0) rfl) dR)
 obtain⟨a,Z⟩:=q
 exact obl rfl (lD dm oT (s 3 dc) (zb (Z.b1) rfl) dR)
 refine fun g _ _ ay az t x=>?_
 have hkk:=xA ay az
 rcases hkk with rfl|rfl
 have aa:Sep _ _ _ _:=t
 exact obl rfl (lD (Iv arg) kT (x 5 dc) (zb (aa.b0) rfl) dR)
 obtain⟨a,ab⟩:=t
 exact obl rfl (lD (Iv arg) kT (x 5 dc) (zb (ab.b1) rfl) dR)
 refine fun h _ _ aA aB y c=>?_
 have hkk:=xA aA aB
 rcases hkk with rfl|rfl
 have hS174:Sep _ _ _ _:=y
 refine obl rfl ?_
 have hi177:arg.toNat<fl.moves.length:=bo
 exact zA (k:=4) (i:=arg) nT rT (c 4 dc) hdm.sl (c 6 dc) ⟨by omega,by omega⟩ dR
 obtain⟨a,hS178⟩:=y
 refine obl rfl ?_
 have hi181:arg.toNat<fl.moves.length:=bo
 exact zA (k:=4) (i:=arg) nT rT (c 4 dc) hdm.sl (c 6 dc) ⟨by omega,by omega⟩ dR
 refine fun n _ _ aC aD z A=>?_
 have hkk:=xA aC aD
 rcases hkk with rfl|rfl
 have ac:Sep _ _ _ _:=z
 refine obl rfl ?_
 have B:arg.toNat<fl.moves.length:=bo
 obtain⟨N,hoke197⟩:=hdm.mvD B
 have O:=ac.cells N (hdm.foot (ne_of_lt B))
 exact lD (Iv ((fl.moves.getD arg.toNat default).to)) kT (A 8 dc) (O.get (j:=1) rfl) dR
 obtain⟨a,ad⟩:=z
 refine obl rfl ?_
 have C:arg.toNat<fl.moves.length:=bo
 obtain⟨P,hoke202⟩:=hdm.mvD C
 have Q:=ad.cells P (hdm.foot (ne_of_lt C))
 exact lD (Iv ((fl.moves.getD arg.toNat default).to)) kT (A 8 dc) (Q.get (j:=1) rfl) dR
 refine ob1 1 fun _ _ ae _=>?_
 obtain⟨a,hS211⟩:=ae
 exact obl rfl (zB (b:=sb vc) (o:=so vc+no.toNat*2) a dR)
 refine ob1 1 fun _ _ af D=>?_
 obtain⟨a,E⟩:=af
 refine obl rfl ?_
 have F:arg.toNat<fl.moves.length:=bo
 obtain⟨R,I⟩:=hdm.mvD F
 have hcw118:=E.cells R (hdm.foot (ne_of_lt F))
 have ag:=E.emp1
 refine(xu (α:=CelS) (j:=no.toNat) (o:=0) (u:=Iv ((fl.moves.getD arg.toNat default).to)) (us:=[Iv ((fl.moves.getD arg.toNat default).to)]) (x1:=(⟨(fl.moves.getD arg.toNat default).to,(d.getD no.toNat default).v⟩:CelS)) ag oR bo (D 11 (by decide)) (D 9 (by decide)) rfl (Nat.le_of_ble_eq_true rfl) (ye ⟨rfl,trivial⟩) (fun _ _ _ hel _=>(by rw[←zF default (by omega)]at hel;obtain⟨rfl,hok⟩:=hel;exact⟨rfl,⟨(show InR ((fl.moves.getD arg.toNat default).to)from I.to),hok.one⟩⟩)) ?_)
 intro w115 H
 have ah:=H.r0
 have hr121s:_*32≤_:=ah.2
 exact fun X hv an=>⟨(zv ((an 1 dc).trans a) H),trivial⟩
 intro vals w219 ai hA221
 obtain⟨a,aj⟩:=ai
 refine zZ (kv:=[(0,.agg #[Iv (fl.kind),Iv (fl.policy),.bool (fl.floor),dm,vc,Iv no,Iv arg]),(1,Ix J 0)]) sEv (fun ρw219=>(zd (VZ Tryz.results70 ?_)))
 have ak:Sep _ _ ((CelW vc 99 3 (l.set no.toNat ⟨(fl.moves.getD arg.toNat default).to,(l.getD no.toNat default).set⟩))::_) _:=CelW.closeN (i:=no.toNat) (m:=(fl.moves.getD arg.toNat default).to) p.1 p.2 om (aj.s3_acb)
 refine⟨rfl,(ak.s2_a)⟩
theorem KX {l:List Int}{x:Int}(h: ¬x∈l):VR l x=l:=by
 unfold VR
 exact List.filter_eq_self.2 (fun y hy=>by simp only[decide_eq_true_eq];intro e;exact h (e▸hy))
theorem Uf {fl:Fld}{c:Cel}{arg:Int}(h:arg∈c.set):yW fl c 3 arg=c:=by
 unfold yW;rw[if_neg (by decide),if_neg (by decide),if_pos rfl,YT h]
theorem UG {fl:Fld}{c:Cel}{arg:Int}(h: ¬arg∈c.set):yW fl c 4 arg=c:=by
 unfold yW;rw[if_neg (by decide),if_neg (by decide),if_neg (by decide),if_pos rfl,KX h]
theorem KV {fl:Fld}{c:Cel}{arg:Int}:yW fl c 3 arg=⟨c.n,Xt c.set arg⟩:=rfl
theorem Kj {fl:Fld}{c:Cel}{arg:Int}:yW fl c 4 arg=⟨c.n,VR c.set arg⟩:=rfl
set_option maxHeartbeats 4000000 in
theorem zad {G:Nat→Prop}{W w:World}{Rs:List HP}{fl:Fld}{dm vc:Value}{no arg:Int}{l:List Cel}(hS0:Sep G W ((CelW vc 99 3 l)::Rs) w)(hno:0≤no∧no<l.length)(hno0:InR no)(harg:InR arg)(hasc:Asc (yo l no).set)(hfew:(yo l no).set.length≤1000):Ret Tryz.prog 67 [.agg #[.int .i64 (fl.kind),.int .i64 (fl.policy),.bool (fl.floor),dm,vc,.int .i64 (no),.int .i64 (arg)]] w (fun r w'=>r=(.tuple #[]:Value)∧Sep G W ((CelW vc 99 3 (l.set no.toNat (yW fl (yo l no) 3 arg)))::Rs) w'):=by
 refine zi (args:=[.agg #[Iv (fl.kind),Iv (fl.policy),.bool (fl.floor),dm,vc,Iv no,Iv arg]]) Tryz.func67 rfl rfl ?_
 let bx:=Ix (sb vc) (so vc+no.toNat*2+1)
 let n:=Ix (sb vc) (so vc+no.toNat*2)
 obtain⟨e,E,aY⟩:=CelW.open hS0
 have hsh2l:=E.1
 have bt:=aY.r0
 have hr4s:_*32≤_:=bt.2
 have ba:Sep G W ((RowE (α:=CelS) own 99 vc e)::(Star (SetRows 3 e l))::Rs) w:=aY
 refine za (R0 fun _=>st (zN (v:=.agg #[Iv (fl.kind),Iv (fl.policy),.bool (fl.floor),dm,vc,Iv no,Iv arg]) rfl ?_))
 intro w7 I bu
 let bw:=Blk I #[Iv (fl.kind),Iv (fl.policy),.bool (fl.floor),dm,vc,Iv no,Iv arg] 112
 have aZ:=ba.new bu
 refine zd (za (R0 fun _=>st (zf (k:=7) vT wT rfl rfl (CellsAt.all (aZ.b0)) ?_)))
 refine st (zG (f:=63) (vals:=[.agg #[Iv (fl.kind),Iv (fl.policy),.bool (fl.floor),dm,vc,Iv no,Iv arg]]) (cap:=[]) rfl rfl kR (Yu (aZ.mv1) bo) ?_)
 rintro _ bv ⟨rfl,Z⟩
 have bb:=Z.r0
 have hr12s:_*32≤_:=bb.2
 have aa:Sep G W ((RowE (α:=Int) own 3 ((e.getD no.toNat default).v) ((l.getD no.toNat default).set))::(Star ((SetRows 3 e l).set no.toNat Emp))::(RowE (α:=CelS) own 99 vc e)::(Blk I #[Iv (fl.kind),Iv (fl.policy),.bool (fl.floor),dm,vc,Iv no,Iv arg] 112)::Rs) bv:=Sep.takeStar (Z.mv2) (SetRows.get (i:=no.toNat) om om)
 have bc:=aa.r0
 have hr15s:_*8≤_:=bc.2
 refine st (aS n (zd (za ?_)))
 refine WD4 ((fun TT L=>WF [fun vals H=>Sep G W (L::TT) H,fun vals H=> ∃(d:Nat),(vals 6=(.tuple #[Iw d,.bool (decide (arg∈((l.getD no.toNat default).set)))]:Value))∧(d≤((l.getD no.toNat default).set).length∧(∀q,q<d→((l.getD no.toNat default).set).getD q 0<arg)∧(∀q,d≤q→q<((l.getD no.toNat default).set).length→arg≤((l.getD no.toNat default).set).getD q 0))∧Sep G W (L::TT) H]) ((Star ((SetRows 3 e l).set no.toNat Emp))::(RowE (α:=CelS) own 99 vc e)::bw::Rs) (RowE (α:=Int) own 3 ((e.getD no.toNat default).v) ((l.getD no.toNat default).set))) (AF [Vl 0 n,Vl 1 n,Vl 2 bx,Vl 3 ((e.getD no.toNat default).v),Vl 4 (Ix I 6),Vl 5 (Iv arg),fun _=>True,fun vals=> ∀(d:Nat),vals 6=(.tuple #[Iw d,.bool (decide (arg∈((l.getD no.toNat default).set)))]:Value)→vals 7=(.tuple #[Iw d,.bool (decide (arg∈((l.getD no.toNat default).set)))]:Value),fun vals=> ∀(d:Nat),vals 6=(.tuple #[Iw d,.bool (decide (arg∈((l.getD no.toNat default).set)))]:Value)→vals 8=(Iw d:Value),Vl 9 (.bool (decide (arg∈((l.getD no.toNat default).set)))),fun vals=> ∀(d:Nat),vals 6=(.tuple #[Iw d,.bool (decide (arg∈((l.getD no.toNat default).set)))]:Value)→vals 10=(Iw d:Value),Vl 11 (.bool (decide (arg∈((l.getD no.toNat default).set))))]) [[],[0],[0,1],[0,1,2],[],[4],(rg 6),(rg 7),(rg 8),(rg 8),(rg 9),(rg 11)] [6] [(0,0),(0,0),(0,0),(0,0),(0,0),(0,0),(0,0),(1,1),(1,1),(1,1),(1,1),(1,1)] aa ⟨fun _ _ _ _ _ _ _=>obl rfl (mV n dR),fun _ _ _ _ _ _ ag=>obl rfl (zB (b:=sb vc) (o:=so vc+no.toNat*2) (ag 0 dc) dR),fun _ _ _ _ _ _ ah=>obl rfl (xx (ah 1 dc) dR),?_,fun _ _ _ _ _ _ _=>obl rfl (xm rfl dR),ob1 0 fun _ _ (ai:Sep _ _ _ _) aj=>obl rfl (lD (Iv arg) kT (aj 4 dc) (zb (ai.b3) rfl) dR),?_,?_,?_,?_,?_,fun _ _ _ _ _ _ ak=>obl rfl (ya (v:=.bool (decide (arg∈((l.getD no.toNat default).set)))) (ak 9 dc) dR),trivial⟩ ?_ (hlocA:=xb ⟨dA,dA,dA,dA,dA,dA,dT,fun vals y A h=>fun d z=>(A 7 (.inl rfl)).trans (h d ((A 6 (.inr dc)).symm.trans z)),fun vals y A h=>fun d z=>(A 8 (.inl rfl)).trans (h d ((A 6 (.inr dc)).symm.trans z)),dA,fun vals y A h=>fun d z=>(A 10 (.inl rfl)).trans (h d ((A 6 (.inr dc)).symm.trans z)),dA,trivial⟩)
 refine ob1 0 fun _ _ (al:Sep _ _ _ _) am=>(obl rfl ?_)
 have an:no.toNat<e.length:=bo
 obtain⟨_,_,ab,rfl,hoke148⟩:=al.rowAtD (i:=2) (j:=no.toNat) rfl an
 exact lD ((e.getD no.toNat default).v) uT (am 2 dc) (ab.get (j:=1) rfl) dR
 refine ob1 0 fun vals _ (bd:Sep _ _ _ _) ac=>(obl rfl ?_)
 obtain⟨G69,be,hB72,bf,bg⟩:=bd.lend
 have M:=RowE.rd be
 have hrd75s:_*8≤_:=M.small
 refine(zG (f:=83) (vals:=[(e.getD no.toNat default).v,Iv arg]) (cap:=[]) rfl (yK ⟨(ac 3 dc),(ac 5 dc),trivial⟩) uR (YI (l:=(l.getD no.toNat default).set) (vl:=(e.getD no.toNat default).v) (x:=arg) M om bf (hasc)) ?_)
 rintro _ w78 ⟨d,rfl,p,bh⟩
 have bi:=bg _ _ bh
 exact fun y A B=>⟨(exiA d (zv A (zv p bi))),trivial⟩
 refine ob1 1 fun _ _ ao _=>?_
 obtain⟨d,t,p,hS170⟩:=ao
 refine obl rfl (zV (v:=.tuple #[Iw d,.bool (decide (arg∈((l.getD no.toNat default).set)))]) t (fun y A B=>⟨rfl,?_⟩))
 intro N z
 rw[B 6 (by decide)]at z;cases t.symm.trans z
 exact A
 refine ob1 1 fun vals _ ap aq=>?_
 obtain⟨d,t,p,hS177⟩:=ap
 have bj:vals 7=(.tuple #[Iw d,.bool (decide (arg∈((l.getD no.toNat default).set)))]:Value):=aq 7 dc d t
 refine obl rfl (zk (vs:=[Iw d,.bool (decide (arg∈((l.getD no.toNat default).set)))]) (i:=0) (v:=Iw d) bj rfl (fun y A B=>⟨rfl,?_⟩))
 intro N z
 rw[B 6 (by decide)]at z;cases t.symm.trans z
 exact A
 refine ob1 1 fun vals _ ar au=>?_
 obtain⟨d,t,p,hS185⟩:=ar
 have bk:vals 7=(.tuple #[Iw d,.bool (decide (arg∈((l.getD no.toNat default).set)))]:Value):=au 7 dc d t
 exact obl rfl (zk (vs:=[Iw d,.bool (decide (arg∈((l.getD no.toNat default).set)))]) (i:=1) (v:=.bool (decide (arg∈((l.getD no.toNat default).set)))) bk rfl dR)
 refine ob1 1 fun vals _ av aw=>?_
 obtain⟨d,t,p,hS193⟩:=av
 have bl:vals 8=(Iw d:Value):=aw 8 dc d t
 refine obl rfl (ya (v:=Iw d) bl (fun y A B=>⟨rfl,?_⟩))
 intro N z
 rw[B 6 (by decide)]at z;cases t.symm.trans z
 exact A
 intro vals bm ax O
 obtain⟨d,t,p,P⟩:=ax
 have bn:vals 10=(Iw d:Value):=O 10 dc d t
 have bp:=O 11 dc
 refine zZ (kv:=[(0,.agg #[Iv (fl.kind),Iv (fl.policy),.bool (fl.floor),dm,vc,Iv no,Iv arg]),(1,Ix I 0),(5,.agg #[Iv (fl.kind),Iv (fl.policy),.bool (fl.floor),dm,vc,Iv no,Iv arg]),(6,Ix (sb vc) (so vc+no.toNat*2)),(2,Ix (sb vc) (so vc+no.toNat*2)),(3,Iw d),(4,.bool (decide (arg∈((l.getD no.toNat default).set))))]) ⟨rfl,rfl,rfl,rfl,rfl,(by exact bn),(by exact bp),trivial⟩ (fun ρw202=>(zd (za (R0 fun _=>st (mV (.bool (decide (arg∈((l.getD no.toNat default).set)))) (st (yF (a:=decide (arg∈((l.getD no.toNat default).set))) rfl (zd ?_))))))))
 cases C: !(decide (arg∈((l.getD no.toNat default).set)))
 have C:=zu C
 refine zg rfl (zl (VZ vR ?_))
 have ay:Sep _ _ ((CelW vc 99 3 l)::_) _:=CelW.close0 (i:=no.toNat) E.1 E.2 om P
 have az:Sep G W ((CelW vc 99 3 (l.set no.toNat (yW fl (yo l no) 3 arg)))::bw::Rs) bm:=by
  rw[Uf (show arg∈(yo l no).set from C),show l.set no.toNat (yo l no)=l from xR default (by omega)]
  exact ay
 refine⟨rfl,(az.s2_a)⟩
 have C:=zy C
 refine zh rfl ?_
 refine WD4 ((fun TT L Q ad=>WF [fun vals H=>Sep G W (L::Q::ad::TT) H,fun vals H=> ∃(g:Nat),(vals 8=((Iy g 1 1):Value))∧Sep G W ((Blk g #[Iv arg] 3)::L::Q::ad::TT) H,fun vals H=> ∃(g:Nat) (m:Value),(vals 8=((Iy g 1 1):Value))∧(vals 9=(m:Value))∧Sep G W ((RowE (α:=Int) own 3 m (((l.getD no.toNat default).set).take d++arg::((l.getD no.toNat default).set).drop d))::Q::ad::TT) H,fun vals H=> ∃(g:Nat) (m:Value),(vals 8=((Iy g 1 1):Value))∧(vals 9=(m:Value))∧Sep G W ((RowE (α:=CelS) own 99 vc (e.set no.toNat (⟨(e.getD no.toNat default).n,m⟩:CelS)))::(RowE (α:=Int) own 3 m (((l.getD no.toNat default).set).take d++arg::((l.getD no.toNat default).set).drop d))::Q::TT) H]) (bw::Rs) (RowE (α:=Int) own 3 ((e.getD no.toNat default).v) ((l.getD no.toNat default).set)) (Star ((SetRows 3 e l).set no.toNat Emp)) (RowE (α:=CelS) own 99 vc e)) (AF [Vl 0 n,Vl 1 n,Vl 2 n,Vl 3 bx,Vl 4 ((e.getD no.toNat default).v),Vl 5 (Iw d),Vl 6 (Ix I 6),Vl 7 (Iv arg),fun _=>True,fun _=>True,Vl 10 n,Vl 11 bx,fun _=>True]) [[],[],[1],[1,2],[1,2,3],[],[],[6],[6,7],[1,2,3,4,5,6,7,8],(rg 10),(rg 11),(rg 12)] [8,9,12] [(0,2),(0,1),(0,1),(0,1),(0,1),(0,1),(0,0),(0,0),(0,0),(1,1),(2,2),(2,2),(2,2)] P ⟨fun _ _ _ _ _ _ _=>obl rfl (mV n dR),fun _ _ _ _ _ _ _=>obl rfl (mV n dR),fun _ _ _ _ _ _ aA=>obl rfl (zB (b:=sb vc) (o:=so vc+no.toNat*2) (aA 1 dc) dR),fun _ _ _ _ _ _ aB=>obl rfl (xx (aB 2 dc) dR),?_,fun _ _ _ _ _ _ _=>obl rfl (mV (Iw d) dR),fun _ _ _ _ _ _ _=>obl rfl (xm rfl dR),ob1 0 fun _ _ (aC:Sep _ _ _ _) aD=>obl rfl (lD (Iv arg) kT (aD 6 dc) (zb (aC.b3) rfl) dR),?_,?_,fun _ _ _ _ _ _ aE=>obl rfl (zB (b:=sb vc) (o:=so vc+no.toNat*2) (aE 0 dc) dR),fun _ _ _ _ _ _ aF=>obl rfl (xx (aF 10 dc) dR),?_,trivial⟩ ?_
 refine fun J _ _ bq br R S=>?_
 have hkk:=xA bq br
 rcases hkk with rfl|rfl
 have aG:Sep _ _ _ _:=R
 refine obl rfl ?_
 have aH:no.toNat<e.length:=bo
 obtain⟨_,_,ae,rfl,hoke358⟩:=aG.rowAtD (i:=2) (j:=no.toNat) rfl aH
 exact lD ((e.getD no.toNat default).v) uT (S 3 dc) (ae.get (j:=1) rfl) dR
 obtain⟨g,D,aI⟩:=R
 refine obl rfl ?_
 have aJ:no.toNat<e.length:=bo
 obtain⟨_,_,af,rfl,hoke362⟩:=aI.rowAtD (i:=3) (j:=no.toNat) rfl aJ
 exact lD ((e.getD no.toNat default).v) uT (S 3 dc) (af.get (j:=1) rfl) dR
 refine ob1 0 fun _ _ (aK:Sep _ _ _ _) aL=>(obl rfl ((zY (k:=1) (parts':=[(0,Iv arg)]) (c:=#[Iv arg]) Tryz.underlying39 oR Tryz.zeroValue3 dc (ZE ⟨rfl,(aL 7 dc),trivial⟩) kr ?_)))
 intro w278 g aM
 exact fun y A B=>⟨(exiA g (zv A (aK.new aM))),trivial⟩
 refine ob1 1 fun vals _ aN T=>?_
 obtain⟨g,D,aO⟩:=aN
 refine obl rfl ((zG (f:=84) (vals:=[(e.getD no.toNat default).v,Iw d,(Iy g 1 1)]) (cap:=[]) rfl (yK ⟨(T 4 dc),(T 5 dc),D,trivial⟩) Tryz.call84 (Kd (i:=d) (aO.mv1) (p.1) (harg) ((by have h9:((l.getD no.toNat default).set).length≤1000:=hfew;omega))) ?_))
 rintro m w292 ⟨_,rfl,U⟩
 have aP:=U.r0
 have hr294s:_*8≤_:=aP.2
 exact fun y A B=>⟨(exiA g (exiA m (zv ((B 8 dc).trans D) (zv A U)))),trivial⟩
 refine ob1 2 fun _ _ aQ aR=>?_
 obtain⟨g,m,D,K,V⟩:=aQ
 refine obl rfl ?_
 have F:=V.r0
 have hr319s:_*8≤_:=F.2
 have aT:=(V.mv2).emp1
 refine(xu (α:=CelS) (j:=no.toNat) (o:=1) (u:=m) (us:=[m]) (x1:=(⟨(e.getD no.toNat default).n,m⟩:CelS)) aT sR bo (aR 11 (by decide)) K (congrArg Array.toList (xa F.1.one)) (Nat.le_of_ble_eq_true rfl) (ye ⟨F.1.one,trivial⟩) (fun _ _ _ hel _=>(by rw[←zF default (by omega)]at hel;obtain⟨rfl,hok⟩:=hel;exact⟨rfl,⟨hok.n,F.1.one⟩⟩)) ?_)
 intro w318 X
 have aU:=X.r0
 have hr323s:_*32≤_:=aU.2
 exact fun y A B=>⟨(exiA g (exiA m (zv ((B 8 dc).trans D) (zv ((B 9 dc).trans K) X)))),trivial⟩
 intro vals bs aV hA400
 obtain⟨g,m,D,K,aW⟩:=aV
 refine zZ (kv:=[(0,.agg #[Iv (fl.kind),Iv (fl.policy),.bool (fl.floor),dm,vc,Iv no,Iv arg]),(1,Ix I 0),(5,.agg #[Iv (fl.kind),Iv (fl.policy),.bool (fl.floor),dm,vc,Iv no,Iv arg]),(6,Ix (sb vc) (so vc+no.toNat*2)),(2,Ix (sb vc) (so vc+no.toNat*2)),(3,Iw d),(4,.bool (decide (arg∈((l.getD no.toNat default).set)))),(17,.bool (decide (arg∈((l.getD no.toNat default).set)))),(18,.bool true)]) sEv (fun ρw398=>(zd (VZ vR ?_)))
 have Y:Sep _ _ ((CelW vc 99 3 (l.set no.toNat (⟨(l.getD no.toNat default).n,(((l.getD no.toNat default).set).take d++arg::((l.getD no.toNat default).set).drop d)⟩:Cel)))::_) _:=CelW.close (i:=no.toNat) (s:=(⟨(e.getD no.toNat default).n,m⟩:CelS)) (c:=(⟨(l.getD no.toNat default).n,(((l.getD no.toNat default).set).take d++arg::((l.getD no.toNat default).set).drop d)⟩:Cel)) E.1 E.2 om (E.2 _ om) (aW.s4_bcad)
 have aX:Sep G W ((CelW vc 99 3 (l.set no.toNat (yW fl (yo l no) 3 arg)))::bw::Rs) bs:=by
  rw[KV];rw[zbs (l:=(l.getD no.toNat default).set) hasc p.1 p.2.1 p.2.2 C]at Y
  exact Y
 refine⟨rfl,(aX.s2_a)⟩
set_option maxHeartbeats 4000000 in
theorem JX {G:Nat→Prop}{W w:World}{Rs:List HP}{fl:Fld}{dm vc:Value}{no arg:Int}{l:List Cel}(hS0:Sep G W ((CelW vc 99 3 l)::Rs) w)(hno:0≤no∧no<l.length)(hno0:InR no)(harg:InR arg)(hasc:Asc (yo l no).set):Ret Tryz.prog 68 [.agg #[.int .i64 (fl.kind),.int .i64 (fl.policy),.bool (fl.floor),dm,vc,.int .i64 (no),.int .i64 (arg)]] w (fun r w'=>r=(.tuple #[]:Value)∧Sep G W ((CelW vc 99 3 (l.set no.toNat (yW fl (yo l no) 4 arg)))::Rs) w'):=by
 refine zi (args:=[.agg #[Iv (fl.kind),Iv (fl.policy),.bool (fl.floor),dm,vc,Iv no,Iv arg]]) Tryz.func68 rfl rfl ?_
 let n:=Ix (sb vc) (so vc+no.toNat*2)
 obtain⟨g,A,aq⟩:=CelW.open hS0
 have hsh2l:=A.1
 have aM:=aq.r0
 have hr4s:_*32≤_:=aM.2
 have av:Sep G W ((RowE (α:=CelS) own 99 vc g)::(Star (SetRows 3 g l))::Rs) w:=aq
 refine za (R0 fun _=>st (zN (v:=.agg #[Iv (fl.kind),Iv (fl.policy),.bool (fl.floor),dm,vc,Iv no,Iv arg]) rfl ?_))
 intro w7 M aN
 let ay:=Blk M #[Iv (fl.kind),Iv (fl.policy),.bool (fl.floor),dm,vc,Iv no,Iv arg] 112
 have ar:=av.new aN
 refine zd (za (R0 fun _=>st (zf (k:=7) vT wT rfl rfl (CellsAt.all (ar.b0)) ?_)))
 refine st (zG (f:=63) (vals:=[.agg #[Iv (fl.kind),Iv (fl.policy),.bool (fl.floor),dm,vc,Iv no,Iv arg]]) (cap:=[]) rfl rfl kR (Yu (ar.mv1) bo) ?_)
 rintro _ aO ⟨rfl,N⟩
 have aw:=N.r0
 have hr12s:_*32≤_:=aw.2
 have O:Sep G W ((RowE (α:=Int) own 3 ((g.getD no.toNat default).v) ((l.getD no.toNat default).set))::(Star ((SetRows 3 g l).set no.toNat Emp))::(RowE (α:=CelS) own 99 vc g)::(Blk M #[Iv (fl.kind),Iv (fl.policy),.bool (fl.floor),dm,vc,Iv no,Iv arg] 112)::Rs) aO:=Sep.takeStar (N.mv2) (SetRows.get (i:=no.toNat) om om)
 have ax:=O.r0
 have hr15s:_*8≤_:=ax.2
 refine st (aS n (zd (za ?_)))
 refine WD4 ((fun TT au=>WF [fun vals wq=>Sep G W (au::TT) wq,fun vals wq=> ∃(d:Nat),(vals 6=(.tuple #[Iw d,.bool (decide (arg∈((l.getD no.toNat default).set)))]:Value))∧(d≤((l.getD no.toNat default).set).length∧(∀q,q<d→((l.getD no.toNat default).set).getD q 0<arg)∧(∀q,d≤q→q<((l.getD no.toNat default).set).length→arg≤((l.getD no.toNat default).set).getD q 0))∧Sep G W (au::TT) wq]) ((Star ((SetRows 3 g l).set no.toNat Emp))::(RowE (α:=CelS) own 99 vc g)::ay::Rs) (RowE (α:=Int) own 3 ((g.getD no.toNat default).v) ((l.getD no.toNat default).set))) (AF [Vl 0 n,Vl 1 n,Vl 2 (Ix (sb vc) (so vc+no.toNat*2+1)),Vl 3 ((g.getD no.toNat default).v),Vl 4 (Ix M 6),Vl 5 (Iv arg),fun _=>True,fun vals=> ∀(d:Nat),vals 6=(.tuple #[Iw d,.bool (decide (arg∈((l.getD no.toNat default).set)))]:Value)→vals 7=(.tuple #[Iw d,.bool (decide (arg∈((l.getD no.toNat default).set)))]:Value),fun vals=> ∀(d:Nat),vals 6=(.tuple #[Iw d,.bool (decide (arg∈((l.getD no.toNat default).set)))]:Value)→vals 8=(Iw d:Value),Vl 9 (.bool (decide (arg∈((l.getD no.toNat default).set)))),fun vals=> ∀(d:Nat),vals 6=(.tuple #[Iw d,.bool (decide (arg∈((l.getD no.toNat default).set)))]:Value)→vals 10=(Iw d:Value),Vl 11 (.bool (decide (arg∈((l.getD no.toNat default).set))))]) [[],[0],[0,1],[0,1,2],[],[4],(rg 6),(rg 7),(rg 8),(rg 8),(rg 9),(rg 11)] [6] [(0,0),(0,0),(0,0),(0,0),(0,0),(0,0),(0,0),(1,1),(1,1),(1,1),(1,1),(1,1)] O ⟨fun _ _ _ _ _ _ _=>obl rfl (mV n dR),fun _ _ _ _ _ _ S=>obl rfl (zB (b:=sb vc) (o:=so vc+no.toNat*2) (S 0 dc) dR),fun _ _ _ _ _ _ T=>obl rfl (xx (T 1 dc) dR),?_,fun _ _ _ _ _ _ _=>obl rfl (xm rfl dR),ob1 0 fun _ _ (U:Sep _ _ _ _) V=>obl rfl (lD (Iv arg) kT (V 4 dc) (zb (U.b3) rfl) dR),?_,?_,?_,?_,?_,fun _ _ _ _ _ _ X=>obl rfl (ya (v:=.bool (decide (arg∈((l.getD no.toNat default).set)))) (X 9 dc) dR),trivial⟩ ?_ (hlocA:=xb ⟨dA,dA,dA,dA,dA,dA,dT,fun vals y z h=>fun d p=>(z 7 (.inl rfl)).trans (h d ((z 6 (.inr dc)).symm.trans p)),fun vals y z h=>fun d p=>(z 8 (.inl rfl)).trans (h d ((z 6 (.inr dc)).symm.trans p)),dA,fun vals y z h=>fun d p=>(z 10 (.inl rfl)).trans (h d ((z 6 (.inr dc)).symm.trans p)),dA,trivial⟩)
 refine ob1 0 fun _ _ (Y:Sep _ _ _ _) Z=>(obl rfl ?_)
 have aa:no.toNat<g.length:=bo
 obtain⟨_,_,P,rfl,hoke148⟩:=Y.rowAtD (i:=2) (j:=no.toNat) rfl aa
 exact lD ((g.getD no.toNat default).v) uT (Z 2 dc) (P.get (j:=1) rfl) dR
 refine ob1 0 fun vals _ (az:Sep _ _ _ _) Q=>(obl rfl ?_)
 obtain⟨G69,aA,hB72,aB,aC⟩:=az.lend
 have F:=RowE.rd aA
 have hrd75s:_*8≤_:=F.small
 refine(zG (f:=83) (vals:=[(g.getD no.toNat default).v,Iv arg]) (cap:=[]) rfl (yK ⟨(Q 3 dc),(Q 5 dc),trivial⟩) uR (YI (l:=(l.getD no.toNat default).set) (vl:=(g.getD no.toNat default).v) (x:=arg) F om aB (hasc)) ?_)
 rintro _ w78 ⟨d,rfl,e,aD⟩
 have aE:=aC _ _ aD
 exact fun y z C=>⟨(exiA d (zv z (zv e aE))),trivial⟩
 refine ob1 1 fun _ _ ab _=>?_
 obtain⟨d,m,e,hS170⟩:=ab
 refine obl rfl (zV (v:=.tuple #[Iw d,.bool (decide (arg∈((l.getD no.toNat default).set)))]) m (fun y z C=>⟨rfl,?_⟩))
 intro H p
 rw[C 6 (by decide)]at p;cases m.symm.trans p
 exact z
 refine ob1 1 fun vals _ ac ad=>?_
 obtain⟨d,m,e,hS177⟩:=ac
 have aF:vals 7=(.tuple #[Iw d,.bool (decide (arg∈((l.getD no.toNat default).set)))]:Value):=ad 7 dc d m
 refine obl rfl (zk (vs:=[Iw d,.bool (decide (arg∈((l.getD no.toNat default).set)))]) (i:=0) (v:=Iw d) aF rfl (fun y z C=>⟨rfl,?_⟩))
 intro H p
 rw[C 6 (by decide)]at p;cases m.symm.trans p
 exact z
 refine ob1 1 fun vals _ ae af=>?_
 obtain⟨d,m,e,hS185⟩:=ae
 have aG:vals 7=(.tuple #[Iw d,.bool (decide (arg∈((l.getD no.toNat default).set)))]:Value):=af 7 dc d m
 exact obl rfl (zk (vs:=[Iw d,.bool (decide (arg∈((l.getD no.toNat default).set)))]) (i:=1) (v:=.bool (decide (arg∈((l.getD no.toNat default).set)))) aG rfl dR)
 refine ob1 1 fun vals _ ag ah=>?_
 obtain⟨d,m,e,hS193⟩:=ag
 have aH:vals 8=(Iw d:Value):=ah 8 dc d m
 refine obl rfl (ya (v:=Iw d) aH (fun y z C=>⟨rfl,?_⟩))
 intro H p
 rw[C 6 (by decide)]at p;cases m.symm.trans p
 exact z
 intro vals aI ai I
 obtain⟨d,m,e,D⟩:=ai
 have aJ:vals 10=(Iw d:Value):=I 10 dc d m
 have aK:=I 11 dc
 refine zZ (kv:=[(0,.agg #[Iv (fl.kind),Iv (fl.policy),.bool (fl.floor),dm,vc,Iv no,Iv arg]),(1,Ix M 0),(5,.agg #[Iv (fl.kind),Iv (fl.policy),.bool (fl.floor),dm,vc,Iv no,Iv arg]),(6,Ix (sb vc) (so vc+no.toNat*2)),(2,Ix (sb vc) (so vc+no.toNat*2)),(3,Iw d),(4,.bool (decide (arg∈((l.getD no.toNat default).set))))]) ⟨rfl,rfl,rfl,rfl,rfl,(by exact aJ),(by exact aK),trivial⟩ (fun ρw202=>(zd (za (R0 fun _=>st (mV (.bool (decide (arg∈((l.getD no.toNat default).set)))) (zd ?_))))))
 cases t:decide (arg∈((l.getD no.toNat default).set))
 have t:=fD t
 refine zg rfl (zl (VZ wR ?_))
 have aj:Sep _ _ ((CelW vc 99 3 l)::_) _:=CelW.close0 (i:=no.toNat) A.1 A.2 om D
 have ak:Sep G W ((CelW vc 99 3 (l.set no.toNat (yW fl (yo l no) 4 arg)))::ay::Rs) aI:=by
  rw[UG (show ¬arg∈(yo l no).set from t),show l.set no.toNat (yo l no)=l from xR default (by omega)]
  exact aj
 refine⟨rfl,(ak.s2_a)⟩
 have t:=tD t
 refine zh rfl (R0 fun _=>st (mV n (st (mV n (st (zB (b:=sb vc) (o:=so vc+no.toNat*2) rfl (st (xx rfl ?_))))))))
 have al:no.toNat<g.length:=bo
 obtain⟨_,_,R,rfl,hoke212⟩:=D.rowAtD (i:=2) (j:=no.toNat) rfl al
 refine st (lD ((g.getD no.toNat default).v) uT rfl (R.get (j:=1) rfl) (st (mV (Iw d) (st (mV (Iw d) ?_)))))
 have am:InR ((d+1:Nat):Int):=bo
 refine st (yb (r:=((d+1:Nat):Int)) (k:=.i64) (a:=((d:Nat):Int)) (b:=1) rfl rfl (by rw[show(((d:Nat):Int)+1:Int)=((d+1:Nat):Int)from bo];exact zM am) (st (cL Tryz.call85 (Km (i:=d) D ((KR (l:=(l.getD no.toNat default).set) hasc e.1 e.2.1 e.2.2 t).1)) ?_)))
 rintro E w216 ⟨_,rfl,J⟩
 have B:=J.r0
 have hr218s:_*8≤_:=B.2
 refine st (zB (b:=sb vc) (o:=so vc+no.toNat*2) rfl (st (xx rfl ?_)))
 have an:=(J.mv2).emp1
 refine stn (xu (α:=CelS) (j:=no.toNat) (o:=1) (u:=E) (us:=[E]) (x1:=(⟨(g.getD no.toNat default).n,E⟩:CelS)) an sR bo rfl rfl (congrArg Array.toList (xa B.1.one)) (Nat.le_of_ble_eq_true rfl) (ye ⟨B.1.one,trivial⟩) (fun _ _ _ hel _=>(by rw[←zF default (by omega)]at hel;obtain⟨rfl,hok⟩:=hel;exact⟨rfl,⟨hok.n,B.1.one⟩⟩)) ?_)
 intro aL K
 have ao:=K.r0
 have hr223s:_*32≤_:=ao.2
 refine zd (VZ wR ?_)
 have L:Sep _ _ ((CelW vc 99 3 (l.set no.toNat (⟨(l.getD no.toNat default).n,(((l.getD no.toNat default).set).take d++((l.getD no.toNat default).set).drop (d+1))⟩:Cel)))::_) _:=CelW.close (i:=no.toNat) (s:=(⟨(g.getD no.toNat default).n,E⟩:CelS)) (c:=(⟨(l.getD no.toNat default).n,(((l.getD no.toNat default).set).take d++((l.getD no.toNat default).set).drop (d+1))⟩:Cel)) A.1 A.2 om (A.2 _ om) (K.s4_bcad)
 have ap:Sep G W ((CelW vc 99 3 (l.set no.toNat (yW fl (yo l no) 4 arg)))::ay::Rs) aL:=by
  rw[Kj];rw[(KR (l:=(l.getD no.toNat default).set) hasc e.1 e.2.1 e.2.2 t).2]at L
  exact L
 refine⟨rfl,(ap.s2_a)⟩
theorem D_rdo {G:Nat→Prop}{W w:World}{Rs:List HP}{op:Int}{x:Rul}{fl:Fld}{dm vc:Value}{no arg:Int}{l:List Cel}(hS0:Sep G W ((CelW vc 99 3 l)::Rs) w)(hno:0≤no∧no<l.length)(hno0:InR no)(harg:InR arg)(hx:Ze Zg op=some x)(hop:op=1∨op=2∨op=3∨op=4∨op=5)(hdm:RdS W G dm fl.moves)(hak:((op=3∨op=4)→Asc (yo l no).set)∧(op=5→0≤arg∧arg<fl.moves.length))(hfew:op=3→(yo l no).set.length≤1000):Ret Tryz.prog x.does [.agg #[.int .i64 (fl.kind),.int .i64 (fl.policy),.bool (fl.floor),dm,vc,.int .i64 (no),.int .i64 (arg)]] w (fun r w'=>r=(.tuple #[]:Value)∧Sep G W ((CelW vc 99 3 (l.set no.toNat (yW fl (yo l no) op arg)))::Rs) w'):=by
 rcases hop with rfl|rfl|rfl|rfl|rfl<;>cases hx
 ·exact zau hS0 hno hno0 harg
 ·exact zas hS0 hno hno0 harg
 ·exact zad hS0 hno hno0 harg (hak.1 (.inl rfl)) (hfew rfl)
 ·exact JX hS0 hno hno0 harg (hak.1 (.inr rfl))
 ·exact Ji hS0 hno hno0 harg hdm (hak.2 rfl)
theorem SetRows.step {Ti:TypeId}{sh:List CelS}{l:List Cel}{k:Nat}(s:CelS)(hlen:sh.length=l.length)(hk:k<l.length):SetRows Ti ((sh.set k s).take (k+1)) (l.take (k+1))=SetRows Ti (sh.take k) (l.take k)++[RowE (α:=Int) own Ti s.v (l.getD k default).set]:=by
 have e1:(sh.set k s).take (k+1)=sh.take k++[s]:=by
  rw[List.take_succ_eq_append_getElem (by rw[List.length_set];omega),List.getElem_set_self,List.take_set_of_le (Nat.le_refl _)]
 have e2:l.take (k+1)=l.take k++[l.getD k default]:=by rw[List.take_succ_eq_append_getElem hk,zF _ hk]
 rw[e1,e2]
 exact SetRows.snoc s _ (by rw[List.length_take,List.length_take];omega)
theorem KO {sh:List CelS}{l:List Cel}{k:Nat}{v:Value}(hlen:sh.length=l.length)(hn: ∀i,i<l.length→(sh.getD i default).n=(l.getD i default).n)(hk:k<l.length): ∀i,i<l.length→((sh.set k ⟨(sh.getD k default).n,v⟩).getD i default).n=(l.getD i default).n:=by
 intro i hi
 have h:=(UK (s:=⟨(sh.getD k default).n,v⟩) (c:=l.getD k default) hlen hn (hn k hk) hk).2 i (by rw[List.length_set];exact hi)
 rwa [xR default hk]at h
theorem Kv {t:Typ}{c:List Cel}{f op arg:Int}(hf:f.toNat<c.length)(h:op≠1∧op≠2∧op≠3∧op≠4∧op≠5):doL t c f op arg=c:=by
 unfold doL yW
 rw[if_neg h.1,if_neg h.2.1,if_neg h.2.2.1,if_neg h.2.2.2.1,if_neg h.2.2.2.2]
 exact xR default hf
set_option maxHeartbeats 4000000 in
theorem D_Do {G:Nat→Prop}{W w:World}{Rs:List HP}{t:Typ}{dt0:Value}(hdt0:RdS W G dt0 t.fields)(ot:t.Ok){vc:Value}{c:List Cel}(hc:RdS W G vc c){f:Int}(hf:InR f){op:Int}(hop:InR op){arg:Int}(harg:InR arg)(hS0:Sep G W Rs w)(hak:XQ t c f op arg)(hfew:op=3→(yo c f).set.length≤1000):Ret Tryz.prog 18 [.agg (t.cells dt0).toArray,vc,.int .i64 (f),.int .i64 (op),.int .i64 (arg)] w (fun r w'=> ∃(v:Value),r=(v:Value)∧Sep G W ((RowE (α:=Cel) own 99 v (doL t c f op arg))::Rs) w'):=by
 let aP:=zI W (sb dt0) (so dt0+f.toNat*4+3)
 have hdt0s:_*48≤_:=hdt0.small
 have hcs:_*32≤_:=hc.small
 have hf0:=hak.1;have hf1:=hak.2.1;have hf2:=hak.2.2.1
 refine zi (args:=[.agg (t.cells dt0).toArray,vc,Iv f,Iv op,Iv arg]) Tryz.func18 rfl rfl ?_
 refine za (R0 fun _=>st (zN (v:=.agg (t.cells dt0).toArray) rfl ?_))
 intro w3 b2 aO
 let aT:=Blk b2 (t.cells dt0).toArray 53
 refine st (aS (Iz) (zd (za (R0 fun _=>st (mV vc (st (cL Tryz.call43 (Xz (l:=c) (vl:=vc) hc (hS0.new aO)) ?_)))))))
 rintro d w6 ⟨_,rfl,aA⟩
 have aQ:=aA.r0
 have hr8s:_*32≤_:=aQ.2
 obtain⟨m,aD,aE,aF⟩:=aA.celShare
 have C:Sep G W ((RowE (α:=CelS) own 99 d m)::aT::Rs) w6:=aF
 have Q:=C.r0
 have hr13s:_*32≤_:=Q.2
 refine st (aS d (zd (za (za (R0 fun _=>st (mV d (st (zR (n:=m.length) nR rfl Q.1 (st (mV (Iv 0) (zd (zx ?_))))))))))))
 have aG:Sep G W ((Star [])::(RowE (α:=CelS) own 99 d m)::aT::Rs) w6:=C.nilStar
 refine yq (fun mq σ R=> ∃(k:Nat) (shk:List CelS) (ρ:Env),mq=c.length-k∧σ=yi ρ [(1,vc),(2,Iv f),(3,Iv op),(4,Iv arg),(5,Ix b2 0),(10,(Iz)),(11,d),(18,Iw m.length),(19,Iw k)]∧(k≤c.length)∧(shk.length=c.length)∧(∀i,i<c.length→(shk.getD i default).n=(c.getD i default).n)∧Sep G W ((RowE (α:=CelS) own 99 d shk)::(Star (SetRows 3 (shk.take k) (c.take k)))::(Blk b2 (t.cells dt0).toArray 53)::Rs) R) ⟨0,m,_,rfl,sSf,Nat.zero_le _,aD,(fun i h=>(aE i h).1),(aG.mv1)⟩ ?_
 rintro m17 σ18 aR ⟨k,shk,ρl1,rfl,rfl,hkk,hshl,hshn,g⟩
 have A:=g.r0
 have hr20s:_*32≤_:=A.2
 refine za (R0 fun _=>st (zJ (k:=.i64) (a:=((k:Nat):Int)) (b:=((m.length:Nat):Int)) rfl rfl (zd (za ?_))))
 cases y:decide (((k:Nat):Int)<((m.length:Nat):Int))
 have y:=fD y
 refine zg rfl (yr (yg (za (za (R0 fun _=>?_)))))
 have hkl:k=c.length:=by omega
 rw[hkl]at g
 rw[List.take_of_length_le (Nat.le_of_eq hshl),List.take_length]at g
 have aH:Sep G W ((CelW d 99 3 c)::aT::Rs) aR:=CelW.mk g ⟨hshl,hshn⟩
 refine st (cL Tryz.call45 (Qt aH) ?_)
 rintro _ w24 ⟨D,rfl,z⟩
 refine st (mV (Iv op) ?_)
 have hops:(op=1∨op=2∨op=3∨op=4∨op=5)∨(op≠1∧op≠2∧op≠3∧op≠4∧op≠5):=by omega
 rcases hops with hop|hop
 obtain⟨rx,hrx⟩:=Wj hop
 refine st (Yf (α:=Rul) (a:=rx) kY lY rfl rfl (z.map_ (i:=0) rfl) hrx ?_)
 rintro _ rfl
 refine st (mV (.tuple #[.agg #[.func (.func rx.may) #[] #[],.func (.func rx.does) #[] #[]],.bool true]) (st (zk (vs:=[.agg #[.func (.func rx.may) #[] #[],.func (.func rx.does) #[] #[]],.bool true]) (i:=0) (v:=.agg #[.func (.func rx.may) #[] #[],.func (.func rx.does) #[] #[]]) rfl rfl (st (zk (vs:=[.agg #[.func (.func rx.may) #[] #[],.func (.func rx.does) #[] #[]],.bool true]) (i:=1) (v:=.bool true) rfl rfl (st (zt tR ?_)))))))
 intro w28 E aI
 have S:=z.new aI
 refine stn (zq (v:=.agg #[.func (.func rx.may) #[] #[],.func (.func rx.does) #[] #[]]) (c':=#[.func (.func rx.may) #[] #[],.func (.func rx.does) #[] #[]]) mY rfl rfl (S.b0) (ye ⟨rfl,rfl,trivial⟩) yqc rfl ?_)
 intro w30 aJ
 refine st (aS (.bool true) (zd (za (R0 fun _=>st (mV (.bool true) (zd (zh rfl ?_)))))))
 refine WD4 ((fun TT aB aC=>WF [fun vals R=>Sep G W (aB::aC::(CelW d 99 3 c)::TT) R,fun vals R=>(vals 11=(.tuple #[]:Value))∧Sep G W ((CelW d 99 3 (c.set f.toNat (yW (t.fields.getD f.toNat default) (yo c f) op arg)))::aB::aC::TT) R]) (aT::Rs) (Blk E #[.func (.func rx.may) #[] #[],.func (.func rx.does) #[] #[]] 104) (ZT (α:=Rul) D Zg)) (AF [Vl 0 (Ix E 1),Vl 1 (.func (.func rx.does) #[] #[]),Vl 2 (Ix b2 0),Vl 3 (dt0),Vl 4 (Iv f),Vl 5 (Ix (sb dt0) (so dt0+f.toNat*4)),Vl 6 (.agg ((t.fields.getD f.toNat default).cells aP).toArray),Vl 7 (d),Vl 8 (Iv f),Vl 9 (Iv arg),Vl 10 (.agg #[Iv ((t.fields.getD f.toNat default).kind),Iv ((t.fields.getD f.toNat default).policy),.bool ((t.fields.getD f.toNat default).floor),aP,d,Iv f,Iv arg]),fun _=>True]) [[],[0],[],[2],[],[2,3,4],[2,3,4,5],[],[],[],[2,3,4,5,6,7,8,9],(rg 11)] [11] [(0,0),(0,0),(0,0),(0,0),(0,0),(0,0),(0,0),(0,0),(0,0),(0,0),(0,0),(0,0)] (S.pt0 aJ) ⟨fun _ _ _ _ _ _ _=>obl rfl (zaa rfl dR),ob1 0 fun _ _ (ac:Sep _ _ _ _) ad=>obl rfl (lD (.func (.func rx.does) #[] #[]) Tryz.isAgg102 (ad 0 dc) (zb (ac.b0) rfl) dR),fun _ _ _ _ _ _ _=>obl rfl (xe rfl dR),ob1 0 fun _ _ (ae:Sep _ _ _ _) af=>obl rfl (lD dt0 sT (af 2 dc) (zb (ae.b3) rfl) dR),fun _ _ _ _ _ _ _=>obl rfl (mV (Iv f) dR),?_,?_,fun _ _ _ _ _ _ _=>obl rfl (mV d dR),fun _ _ _ _ _ _ _=>obl rfl (mV (Iv f) dR),fun _ _ _ _ _ _ _=>obl rfl (mV (Iv arg) dR),?_,?_,trivial⟩ ?_
 refine ob1 0 fun _ _ _ F=>(obl rfl ?_)
 have hi178:f.toNat<t.fields.length:=(by have T:=hak.1;have U:=hak.2.1;have V:=hak.2.2.1;omega)
 exact zA (k:=4) (i:=f) mT lT (F 3 dc) hdt0.sl (F 4 dc) ⟨by omega,by omega⟩ dR
 refine ob1 0 fun _ _ (ag:Sep _ _ _ _) ah=>(obl rfl ?_)
 have H:f.toNat<t.fields.length:=(by have T:=hak.1;have U:=hak.2.1;have V:=hak.2.2.1;omega)
 obtain⟨X,B,hoke187⟩:=hdt0.fldD H
 have hsm189:((t.fields.getD f.toNat default).moves).length*32≤140737488355328:=B.small
 have Y:=ag.cells X (hdt0.foot (ne_of_lt H))
 exact zf (k:=4) lR lT rfl (ah 5 dc) Y dR
 exact fun _ _ _ _ _ _ p=>obl rfl (zP (parts':=[(0,.agg ((t.fields.getD f.toNat default).cells aP).toArray),(1,d),(2,Iv f),(3,Iv arg)]) (v:=.agg #[Iv ((t.fields.getD f.toNat default).kind),Iv ((t.fields.getD f.toNat default).policy),.bool ((t.fields.getD f.toNat default).floor),aP,d,Iv f,Iv arg]) (ZE ⟨rfl,(p 6 (by decide)),rfl,(p 7 (by decide)),rfl,(p 8 (by decide)),rfl,(p 9 (by decide)),trivial⟩) (by obtain⟨_,_,ai,_⟩:=A.1;rw[show d=Value.slice _ _ _ from ai];simp[Instr.build,Instr.fill,Ev.cells,go_sem,Mv.cells,Fld.cells,Typ.cells,Prj.cells,Dcl.cells,Cel.cells,AskR.cells]) dR)
 refine ob1 0 fun vals _ (aj:Sep _ _ _ _) I=>(obl rfl ?_)
 have J:=aj.mv2
 have K:f.toNat<t.fields.length:=(by have T:=hak.1;have U:=hak.2.1;have V:=hak.2.2.1;omega)
 obtain⟨Z,s,hoke128⟩:=hdt0.fldD K
 have hsm130:((t.fields.getD f.toNat default).moves).length*32≤140737488355328:=s.small
 have hcw131:=J.cells Z (hdt0.foot (ne_of_lt K))
 refine(zG (f:=rx.does) (vals:=[.agg #[Iv ((t.fields.getD f.toNat default).kind),Iv ((t.fields.getD f.toNat default).policy),.bool ((t.fields.getD f.toNat default).floor),aP,d,Iv f,Iv arg]]) (cap:=[]) (show _=(.func (.func rx.does) #[] #[]:Value)from(I 1 dc)) (yK ⟨(I 10 dc),trivial⟩) (Wq hop hrx).2 (D_rdo J (⟨hak.1,hak.2.2.1⟩) (hf) (harg) (hrx) (hop) (s) (⟨hak.2.2.2.1,fun h=>⟨(hak.2.2.2.2 h).1,(hak.2.2.2.2 h).2.1⟩⟩) (hfew)) ?_)
 rintro _ w132 ⟨rfl,ak⟩
 exact fun vals' hv hv'=>⟨(zv hv ak),trivial⟩
 intro vals aK al hA222
 obtain⟨he134,am⟩:=al
 refine zZ (kv:=[(1,vc),(2,Iv f),(3,Iv op),(4,Iv arg),(5,Ix b2 0),(10,(Iz)),(11,d),(18,Iw m.length),(19,Iw k),(20,.bool false),(34,.map (some D)),(35,Iv op),(36,.tuple #[.agg #[.func (.func rx.may) #[] #[],.func (.func rx.does) #[] #[]],.bool true]),(33,.tuple #[.agg #[.func (.func rx.may) #[] #[],.func (.func rx.does) #[] #[]],.bool true]),(37,.agg #[.func (.func rx.may) #[] #[],.func (.func rx.does) #[] #[]]),(38,.bool true),(13,Ix E 0),(14,.bool true),(39,.bool true)]) sEv (fun ρw220=>(zd (za (R0 fun _=>st (mV d (st (aS d (zd (zj (zK nY (show _=(d:Value)from rfl) ?_))))))))))
 have an:Sep _ _ ((RowE (α:=Cel) own 99 d (c.set f.toNat (yW (t.fields.getD f.toNat default) (yo c f) op arg)))::_) _:=CelW.row am
 have ao:Sep G W ((RowE (α:=Cel) own 99 d (doL t c f op arg))::(Blk E #[.func (.func rx.may) #[] #[],.func (.func rx.does) #[] #[]] 104)::(ZT (α:=Rul) D Zg)::aT::Rs) aK:=an
 refine⟨d,rfl,(ao.s4_a)⟩
 refine st (Yb (α:=Rul) (zc:=[.nilFunc,.nilFunc]) kY lY tR rfl rfl (z.map_ (i:=0) rfl) (XG hop) (st (mV (.tuple #[.agg #[.nilFunc,.nilFunc],.bool false]) (st (zk (vs:=[.agg #[.nilFunc,.nilFunc],.bool false]) (i:=0) (v:=.agg #[.nilFunc,.nilFunc]) rfl rfl (st (zk (vs:=[.agg #[.nilFunc,.nilFunc],.bool false]) (i:=1) (v:=.bool false) rfl rfl (st (zt tR ?_)))))))))
 intro w229 aL ap
 have L:=z.new ap
 refine stn (zq (v:=.agg #[.nilFunc,.nilFunc]) (c':=#[.nilFunc,.nilFunc]) mY rfl rfl (L.b0) (ye ⟨rfl,rfl,trivial⟩) yqc rfl ?_)
 intro aM aq
 refine st (aS (.bool false) (zd (za (R0 fun _=>st (mV (.bool false) (zd (zg rfl (zl (za (R0 fun _=>st (mV d (st (aS d (zd (zj (zK nY (show _=(d:Value)from rfl) ?_))))))))))))))))
 have ar:Sep _ _ ((RowE (α:=Cel) own 99 d c)::_) _:=CelW.row ((L.pt0 aq).mv2)
 have au:Sep G W ((RowE (α:=Cel) own 99 d (doL t c f op arg))::(Blk aL #[.nilFunc,.nilFunc] 104)::(ZT (α:=Rul) D Zg)::(Blk b2 (t.cells dt0).toArray 53)::Rs) aM:=by rw[Kv (by omega) hop];exact ar
 refine⟨d,rfl,(au.s4_a)⟩
 have y:=tD y
 refine zh rfl (zl (za (zx (za (R0 fun _=>st (mV (Iw k) (st (aS (Iw k) (zd (R0 fun _=>st (mV d (st (mV (Iw k) (st (mV vc (st (mV (Iw k) ?_)))))))))))))))))
 have av:k<c.length:=(by have T:=hak.1;have U:=hak.2.1;have V:=hak.2.2.1;omega)
 refine st (zm (k:=2) (i:=k) nR rR rfl hc.sl rfl av (st (xx rfl ?_)))
 have M:k<c.length:=(by have T:=hak.1;have U:=hak.2.1;have V:=hak.2.2.1;omega)
 obtain⟨aa,x,hoke239⟩:=hc.celD M
 have hsm241:((c.getD k default).set).length*8≤140737488355328:=x.small
 have ab:=g.cells aa (hc.foot (ne_of_lt M))
 refine st (lD (zI W (sb vc) (so vc+k*2+1)) uT rfl (ab.get (j:=1) rfl) (st (cL Tryz.call44 (xV (l:=(c.getD k default).set) (vl:=(zI W (sb vc) (so vc+k*2+1))) x g) ?_)))
 rintro e w244 ⟨_,rfl,N⟩
 have q:=N.r0
 have hr246s:_*8≤_:=q.2
 have aw:k<shk.length:=(by have T:=hak.1;have U:=hak.2.1;have V:=hak.2.2.1;omega)
 refine st (zm (k:=2) (i:=k) nR rR rfl A.1 rfl aw (st (xx rfl ?_)))
 have ax:=(N.mv1).emp1
 refine stn (xu (α:=CelS) (j:=k) (o:=1) (u:=e) (us:=[e]) (x1:=(⟨(shk.getD k default).n,e⟩:CelS)) ax sR bo rfl rfl (congrArg Array.toList (xa q.1.one)) (Nat.le_of_ble_eq_true rfl) (ye ⟨q.1.one,trivial⟩) (fun _ _ _ hel _=>(by rw[←zF default (by omega)]at hel;obtain⟨rfl,hok⟩:=hel;exact⟨rfl,⟨hok.n,q.1.one⟩⟩)) ?_)
 intro aN O
 have ay:=O.r0
 have hr252s:_*32≤_:=ay.2
 refine zd (R0 fun _=>?_)
 have az:InR ((k+1:Nat):Int):=bo
 refine st (yb (r:=((k+1:Nat):Int)) (k:=.i64) (a:=((k:Nat):Int)) (b:=1) rfl rfl (by rw[show(((k:Nat):Int)+1:Int)=((k+1:Nat):Int)from bo];exact zM az) (st (mV (Iw (k+1)) (zd ?_))))
 have P:Sep G W ((Star (SetRows 3 (shk.take k) (c.take k)++[(RowE (α:=Int) own 3 e ((c.getD k default).set))]))::(RowE (α:=CelS) own 99 d (shk.set k (⟨(shk.getD k default).n,e⟩:CelS)))::aT::Rs) aN:=(O.s4_bcad).snocStar
 rw[←SetRows.step (Ti:=3) (⟨(shk.getD k default).n,e⟩:CelS) hshl (by omega)]at P
 exact⟨_,by omega,k+1,shk.set k (⟨(shk.getD k default).n,e⟩:CelS),_,rfl,sSf,by omega,by rw[List.length_set];exact hshl,(KO hshl hshn (by omega)),(P.mv1)⟩
theorem ZJ {P:Program}{σ:Env}{w:World}{fn:Func}{a u:Tmp}{t:TypeId}{R:Value→World→Prop}{b k:Nat}{cs:List Value}{v':Value}(hr:fn.results=#[.cell a t,.tmp u])(hA: ∀w,(isAgg t).run P w=.ok true w)(hS: ∀w,(sizeOf t).run P w=.ok k w)(hk:cs.length=k)
 (hv:σ a=.pointer (some ⟨b,0,none⟩)) (hc:CellsAt w b 0 cs) (hu:σ u=v') (h:R (.tuple #[.agg cs.toArray,v']) w):Yh P fn R .ret σ w:=by
 subst hk
 refine⟨_,fun tmps ht=>?_,h⟩
 have:=yI (P:=P) (w:=w) b 0 cs 0 #[] (fun j hj=>by simpa using hc j hj)
 have e:tmps[a]?.getD undef=.pointer (some ⟨b,0,none⟩):=by rw[←hv,←ht a];simp
 have e2:tmps[u]?.getD undef=v':=by rw[←hu,←ht u];simp
 simp[results,hr,e,e2,asAddr,loadVar,hA,hS,loadCells,this,go_sem]
def yH (t:Typ)(n:Int):Int:=if n<0∨(t.fields.length:Int)≤n then 0 else(t.fields.getD n.toNat default).kind
def VM (t:Typ)(f:Fld):Prop:=(1≤f.kind∧f.kind≤4)∧(f.floor=true→f.kind=1)∧ ∀j,j<f.moves.length→(f.moves.getD j default).need= -1∨yH t (f.moves.getD j default).need=1
def zbC (f:Fld):Prop:=(f.kind=4→1≤f.moves.length)∧f.moves.length≤16
def FewT (t:Typ):Prop:=(1≤t.fields.length∧t.fields.length≤8)∧ ∀j,j<t.fields.length→zbC (t.fields.getD j default)
def Qe (p:Prj):Prop:=0≤p.pby∧(1≤p.pgroup∧p.pgroup≤3)∧1≤p.pmake∧p.pmake≤5
def KA (d:Dcl):Prop:=d.projs.length≤8∧ ∀i,i<d.projs.length→Qe (d.projs.getD i default)
theorem Qw {t:Typ}{n:Int}(h:yH t n=2):0≤n:=by
 unfold yH at h
 split at h
 ·cases h
 ·omega
def FewD (d:Dcl):Prop:=(1≤d.types.length∧d.types.length≤8)∧ ∀i,i<d.types.length→FewT (d.types.getD i default)
theorem yV {p:Nat→Prop}{k:Nat}(h: ∀i,i<k→p i)(hk:p k): ∀i,i<k+1→p i:=fun i hi=>by
 by_cases e:i=k
 ·rw[e];exact hk
 ·exact h i (by omega)
theorem zbF {d:Dcl}(h1:FewD d)(h2: ∀i,i<d.types.length→ ∀j,j<(d.types.getD i default).fields.length→VM (d.types.getD i default) ((d.types.getD i default).fields.getD j default)):DclOk d:=by
 refine⟨h1.1.1,h1.1.2,fun i hi=>?_⟩
 have f1:=h1.2 i hi
 have f2:=h2 i hi
 refine⟨f1.1.1,f1.1.2,fun j hj=>(f2 j hj).1,fun j hj=>(f2 j hj).2.1,fun j hj=>f1.2 j hj,fun j hj q hq=>?_⟩
 rcases(f2 j hj).2.2 q hq with h|h
 ·exact .inl h
 ·right
  unfold yH at h
  split at h
  ·omega
  ·rename_i hn
   exact⟨by omega,by omega,h⟩
theorem zbh {G:Nat→Prop}{W w:World}{Rs:List HP}{d:Dcl}{dd0:Value}(hdd0:RdS W G dd0 d.types){dd1:Value}(hdd1:RdS W G dd1 d.projs)(od:d.Ok)(hS0:Sep G W Rs w):Ret Tryz.prog 21 [.agg (d.cells dd0 dd1).toArray] w (fun r w'=> ∃(b:Bool),r=(.bool b:Value)∧Sep G W Rs w'):=by
 have hdd0s:_*24≤_:=hdd0.small
 have hdd1s:_*40≤_:=hdd1.small
 refine zi (args:=[.agg (d.cells dd0 dd1).toArray]) Tryz.func21 rfl rfl ?_
 refine za (R0 fun _=>st (zN (v:=.agg (d.cells dd0 dd1).toArray) rfl ?_))
 intro w3 b2 N
 have s:=hS0.new N
 refine st (aS (.bool false) (zd (za (za (zz kr (st (yG rfl (st (lD dd0 pT rfl (zb (s.b0) rfl) (st (zR (n:=d.types.length) qT rfl hdd0.sl (st (yU (k:=.i64) (a:=((d.types.length:Nat):Int)) (b:=20) rfl rfl (st (mV (.bool (decide (20<((d.types.length:Nat):Int)))) (stc (V:=Ix b2 1) rfl rfl (fun O=>?_) ?_))))))))))))))))
 have hl6:=fD O
 exact Xm rfl ⟨rfl,rfl⟩
 refine stc (V:=dd1) rfl rfl (fun D=>?_) ?_
 have hl8:=fD D
 exact lD dd1 oY (if_pos D) (zb (s.b0) rfl) ⟨rfl,rfl⟩
 refine stc (V:=Iw d.projs.length) rfl rfl (fun E=>?_) ?_
 have hl10:=fD E
 exact zR (n:=d.projs.length) pY (if_pos E) hdd1.sl ⟨rfl,rfl⟩
 refine stc (V:=.bool (decide (20<((d.projs.length:Nat):Int)))) rfl rfl (fun t=>?_) ?_
 have hl12:=fD t
 exact yU (k:=.i64) (a:=((d.projs.length:Nat):Int)) (b:=20) (if_pos t) rfl ⟨rfl,rfl⟩
 refine st (zp (b:=decide (20<((d.types.length:Nat):Int))) (b':=decide (20<((d.projs.length:Nat):Int))) rfl (fun hbp=>(if_pos hbp)) (zd ?_))
 cases u:(decide (20<((d.types.length:Nat):Int)))||(decide (20<((d.projs.length:Nat):Int)))
 try simp only[ze]at u
 refine zg rfl (zl (za (za (R0 fun _=>st (aS (Iv 0) (zd (zx (yq (fun mq σ F=> ∃(k:Nat) (ρ:Env),mq=d.types.length-k∧σ=yi ρ [(1,Ix b2 0),(3,Iw k)]∧(k≤d.types.length)∧Sep G W ((Blk b2 (d.cells dd0 dd1).toArray 25)::Rs) F) ⟨0,_,rfl,sSf,Nat.zero_le _,s⟩ ?_))))))))
 rintro m15 σ16 w14 ⟨k,ρl1,rfl,rfl,hkk,f⟩
 let P:=zI W (sb dd0) (so dd0+k*1+0)
 refine za (za (R0 fun _=>st (mV (Iw k) (st (yG rfl (st (lD dd0 pT rfl (zb (f.b0) rfl) (st (zR (n:=d.types.length) qT rfl hdd0.sl (st (zJ (k:=.i64) (a:=((k:Nat):Int)) (b:=((d.types.length:Nat):Int)) rfl rfl (zd ?_))))))))))))
 cases h:decide (((k:Nat):Int)<((d.types.length:Nat):Int))
 have h:=fD h
 refine zg rfl (yr (yg (za (R0 fun _=>st (aS (.bool false) (zd (zj (zK pR (show _=(.bool false:Value)from rfl) ?_))))))))
 refine⟨false,rfl,(f.s1_)⟩
 have h:=tD h
 refine zh rfl (zl (za (zx (za (za (R0 fun _=>st (yG rfl (st (lD dd0 pT rfl (zb (f.b0) rfl) (st (mV (Iw k) ?_)))))))))))
 have H:k<d.types.length:=bo
 refine st (zm (k:=1) (i:=k) qT tT rfl hdd0.sl rfl H (st (xe rfl ?_)))
 have l:k<d.types.length:=bo
 obtain⟨m,c,hoke21⟩:=hdd0.typD l
 have hsm23:((d.types.getD k default).fields).length*48≤140737488355328:=c.small
 have y:=f.cells m (hdd0.foot (ne_of_lt l))
 refine st (lD P sT rfl (y.get (j:=0) rfl) (st (zR (n:=((d.types.getD k default).fields).length) mT rfl c.sl (st (yU (k:=.i64) (a:=((((d.types.getD k default).fields).length:Nat):Int)) (b:=20) rfl rfl (zd ?_))))))
 cases o:decide (20<((((d.types.getD k default).fields).length:Nat):Int))
 have o:=fD o
 refine zg rfl (zl (za (R0 fun _=>st (aS (Iv 0) (zd (zx (yq (fun mq σ F=> ∃(j:Nat) (ρ:Env),mq=(d.types.getD k default).fields.length-j∧σ=yi ρ [(1,Ix b2 0),(3,Iw k),(4,Iw j)]∧(j≤(d.types.getD k default).fields.length)∧Sep G W ((Blk b2 (d.cells dd0 dd1).toArray 25)::Rs) F) ⟨0,_,rfl,sSf,Nat.zero_le _,f⟩ ?_)))))))
 rintro m27 σ28 w26 ⟨j,ρl2,rfl,rfl,hkj,e⟩
 refine za (za (R0 fun _=>st (mV (Iw j) (st (yG rfl (st (lD dd0 pT rfl (zb (e.b0) rfl) (st (mV (Iw k) ?_)))))))))
 have I:k<d.types.length:=bo
 refine st (zm (k:=1) (i:=k) qT tT rfl hdd0.sl rfl I (st (xe rfl ?_)))
 have z:=e.cells m (hdd0.foot (ne_of_lt l))
 refine st (lD P sT rfl (z.get (j:=0) rfl) (st (zR (n:=((d.types.getD k default).fields).length) mT rfl c.sl (st (zJ (k:=.i64) (a:=((j:Nat):Int)) (b:=((((d.types.getD k default).fields).length:Nat):Int)) rfl rfl (zd ?_))))))
 cases p:decide (((j:Nat):Int)<((((d.types.getD k default).fields).length:Nat):Int))
 have p:=fD p
 refine zg rfl (yr (yg (R0 fun _=>st (mV (Iw k) ?_))))
 have J:InR ((k+1:Nat):Int):=bo
 refine st (yb (r:=((k+1:Nat):Int)) (k:=.i64) (a:=((k:Nat):Int)) (b:=1) rfl rfl (by rw[show(((k:Nat):Int)+1:Int)=((k+1:Nat):Int)from bo];exact zM J) (st (aS (Iw (k+1)) (zd ?_))))
 exact⟨_,by omega,k+1,_,rfl,sSf,by omega,e⟩
 have p:=tD p
 refine zh rfl (zl (za (zx (za (R0 fun _=>st (yG rfl (st (lD dd0 pT rfl (zb (e.b0) rfl) (st (mV (Iw k) ?_))))))))))
 have K:k<d.types.length:=bo
 refine st (zm (k:=1) (i:=k) qT tT rfl hdd0.sl rfl K (st (xe rfl ?_)))
 have A:=e.cells m (hdd0.foot (ne_of_lt l))
 refine st (lD P sT rfl (A.get (j:=0) rfl) (st (mV (Iw j) ?_)))
 have L:j<((d.types.getD k default).fields).length:=bo
 refine st (zm (k:=4) (i:=j) mT lT rfl c.sl rfl L (st (yL rfl ?_)))
 have x:j<((d.types.getD k default).fields).length:=bo
 obtain⟨B,g,hoke39⟩:=c.fldD x
 have hsm41:((((d.types.getD k default).fields).getD j default).moves).length*32≤140737488355328:=g.small
 have C:=e.cells B (c.foot (ne_of_lt x))
 refine st (lD (zI W (sb P) (so P+j*4+3)) oT rfl (C.get (j:=3) rfl) (st (zR (n:=((((d.types.getD k default).fields).getD j default).moves).length) nT rfl g.sl (st (yU (k:=.i64) (a:=((((((d.types.getD k default).fields).getD j default).moves).length:Nat):Int)) (b:=40) rfl rfl (zd ?_))))))
 cases q:decide (40<((((((d.types.getD k default).fields).getD j default).moves).length:Nat):Int))
 have q:=fD q
 refine zg rfl (zl (R0 fun _=>st (mV (Iw j) ?_)))
 have M:InR ((j+1:Nat):Int):=bo
 refine st (yb (r:=((j+1:Nat):Int)) (k:=.i64) (a:=((j:Nat):Int)) (b:=1) rfl rfl (by rw[show(((j:Nat):Int)+1:Int)=((j+1:Nat):Int)from bo];exact zM M) (st (aS (Iw (j+1)) (zd ?_))))
 exact⟨_,by omega,j+1,_,rfl,sSf,by omega,e⟩
 have q:=tD q
 refine zh rfl (za (R0 fun _=>st (aS (.bool true) (zd (zj (zK pR (show _=(.bool true:Value)from rfl) ?_))))))
 refine⟨true,rfl,(e.s1_)⟩
 have o:=tD o
 refine zh rfl (za (R0 fun _=>st (aS (.bool true) (zd (zj (zK pR (show _=(.bool true:Value)from rfl) ?_))))))
 refine⟨true,rfl,(f.s1_)⟩
 try simp only[ze]at u
 refine zh rfl (za (R0 fun _=>st (aS (.bool true) (zd (zj (zK pR (show _=(.bool true:Value)from rfl) ?_))))))
 refine⟨true,rfl,(s.s1_)⟩
theorem Jd {G:Nat→Prop}{W w:World}{Rs:List HP}{t:Typ}{dt0:Value}(hdt0:RdS W G dt0 t.fields)(ot:t.Ok){n:Int}(hn:InR n)(hS0:Sep G W Rs w):Ret Tryz.prog 49 [.agg (t.cells dt0).toArray,.int .i64 (n)] w (fun r w'=>r=(.int .i64 ((yH t n)):Value)∧Sep G W Rs w'):=by
 have hdt0s:_*48≤_:=hdt0.small
 refine zi (args:=[.agg (t.cells dt0).toArray,Iv n]) Tryz.func49 rfl rfl ?_
 refine za (R0 fun _=>st (zN (v:=.agg (t.cells dt0).toArray) rfl ?_))
 intro w3 b2 p
 have c:=hS0.new p
 refine st (aS (Iv 0) (zd (za (za (zz kr (st (mV (Iv n) (st (zJ (k:=.i64) (a:=n) (b:=0) rfl rfl (st (mV (.bool (decide (n<0))) (stc (V:=Iv n) rfl rfl (fun q=>?_) ?_))))))))))))
 have hl6:=fD q
 exact mV (Iv n) ⟨rfl,rfl⟩
 refine stc (V:=Ix b2 0) rfl rfl (fun s=>?_) ?_
 have hl8:=fD s
 exact xe rfl ⟨rfl,rfl⟩
 refine stc (V:=dt0) rfl rfl (fun o=>?_) ?_
 have hl10:=fD o
 exact lD dt0 sT (if_pos o) (zb (c.b0) rfl) ⟨rfl,rfl⟩
 refine stc (V:=Iw t.fields.length) rfl rfl (fun f=>?_) ?_
 have hl12:=fD f
 exact zR (n:=t.fields.length) mT (if_pos f) hdt0.sl ⟨rfl,rfl⟩
 refine stc (V:=.bool (decide (((t.fields.length:Nat):Int)≤n))) rfl rfl (fun d=>?_) ?_
 have hl14:=fD d
 exact xv (k:=.i64) (a:=n) (b:=((t.fields.length:Nat):Int)) (if_pos d) (if_pos d) ⟨rfl,rfl⟩
 refine st (zp (b:=decide (n<0)) (b':=decide (((t.fields.length:Nat):Int)≤n)) rfl (fun hbp=>(if_pos hbp)) (zd ?_))
 cases g:(decide (n<0))||(decide (((t.fields.length:Nat):Int)≤n))
 try simp only[ze]at g
 refine zg rfl (zl (za (R0 fun _=>st (xe rfl (st (lD dt0 sT rfl (zb (c.b0) rfl) (st (mV (Iv n) ?_))))))))
 have hi16:n.toNat<t.fields.length:=bo
 refine st (zA (k:=4) (i:=n) mT lT rfl hdt0.sl rfl ⟨by omega,by omega⟩ (st (xF rfl ?_)))
 have h:n.toNat<t.fields.length:=bo
 obtain⟨l,e,hoke17⟩:=hdt0.fldD h
 have hsm19:((t.fields.getD n.toNat default).moves).length*32≤140737488355328:=e.small
 have m:=c.cells l (hdt0.foot (ne_of_lt h))
 refine st (lD (Iv ((t.fields.getD n.toNat default).kind)) kT rfl (m.get (j:=0) rfl) (st (aS (Iv ((t.fields.getD n.toNat default).kind)) (zd (zj (zK qY (show _=(Iv ((t.fields.getD n.toNat default).kind):Value)from rfl) ?_))))))
 refine⟨?_,(c.s1_)⟩
 unfold yH
 rw[if_neg (by omega)]
 try simp only[ze]at g
 refine zh rfl (za (R0 fun _=>st (aS (Iv 0) (zd (zj (zK qY (show _=(Iv 0:Value)from rfl) ?_))))))
 refine⟨?_,(c.s1_)⟩
 unfold yH
 rw[if_pos (by omega)]
theorem zbG {G:Nat→Prop}{W w:World}{Rs:List HP}{d:Dcl}{dd0:Value}(hdd0:RdS W G dd0 d.types){dd1:Value}(hdd1:RdS W G dd1 d.projs)(od:d.Ok)(hS0:Sep G W Rs w):Ret Tryz.prog 46 [.agg (d.cells dd0 dd1).toArray] w (fun r w'=> ∃(b:Bool),r=(.bool b:Value)∧(b=false→FewD d∧d.projs.length≤8)∧Sep G W Rs w'):=by
 let bj:=((d.types.length:Nat):Int)
 have hdd0s:_*24≤_:=hdd0.small
 have hdd1s:_*40≤_:=hdd1.small
 refine zi (args:=[.agg (d.cells dd0 dd1).toArray]) Tryz.func46 rfl rfl ?_
 refine za (R0 fun _=>st (zN (v:=.agg (d.cells dd0 dd1).toArray) rfl ?_))
 intro w3 b2 be
 have H:=hS0.new be
 refine st (aS (.bool false) (zd (za (za (zz kr (st (yG rfl (st (lD dd0 pT rfl (zb (H.b0) rfl) (st (zR (n:=d.types.length) qT rfl hdd0.sl (st (yc (k:=.i64) (a:=bj) (b:=0) rfl rfl (st (mV (.bool (decide (bj=0))) (stc (V:=Ix b2 0) rfl rfl (fun bf=>?_) ?_))))))))))))))))
 have hl6:=fD bf
 exact yG rfl ⟨rfl,rfl⟩
 refine stc (V:=dd0) rfl rfl (fun aI=>?_) ?_
 have hl8:=fD aI
 exact lD dd0 pT (if_pos aI) (zb (H.b0) rfl) ⟨rfl,rfl⟩
 refine stc (V:=Iw d.types.length) rfl rfl (fun aJ=>?_) ?_
 have hl10:=fD aJ
 exact zR (n:=d.types.length) qT (if_pos aJ) hdd0.sl ⟨rfl,rfl⟩
 refine stc (V:=.bool (decide (8<bj))) rfl rfl (fun R=>?_) ?_
 have hl12:=fD R
 exact yU (k:=.i64) (a:=bj) (b:=8) (if_pos R) rfl ⟨rfl,rfl⟩
 refine st (zp (b:=decide (bj=0)) (b':=decide (8<bj)) rfl (fun hbp=>(if_pos hbp)) (st (mV (.bool ((decide (bj=0))||(decide (8<bj)))) (stc (V:=Ix b2 1) rfl rfl (fun aL=>?_) ?_))))
 have aM:=aL
 try simp only[ze]at aM
 exact Xm rfl ⟨rfl,rfl⟩
 refine stc (V:=dd1) rfl rfl (fun S=>?_) ?_
 have aN:=S
 try simp only[ze]at aN
 exact lD dd1 oY (if_pos S) (zb (H.b0) rfl) ⟨rfl,rfl⟩
 refine stc (V:=Iw d.projs.length) rfl rfl (fun T=>?_) ?_
 have aO:=T
 try simp only[ze]at aO
 exact zR (n:=d.projs.length) pY (if_pos T) hdd1.sl ⟨rfl,rfl⟩
 refine stc (V:=.bool (decide (8<((d.projs.length:Nat):Int)))) rfl rfl (fun U=>?_) ?_
 have aP:=U
 try simp only[ze]at aP
 exact yU (k:=.i64) (a:=((d.projs.length:Nat):Int)) (b:=8) (if_pos U) rfl ⟨rfl,rfl⟩
 refine st (zp (b:=(decide (bj=0))||(decide (8<bj))) (b':=decide (8<((d.projs.length:Nat):Int))) rfl (fun hbp=>(if_pos hbp)) (zd ?_))
 cases X:((decide (((d.types.length:Nat):Int)=0))||(decide (8<((d.types.length:Nat):Int))))||(decide (8<((d.projs.length:Nat):Int)))
 try simp only[ze]at X
 refine zg rfl (zl (za (za (R0 fun _=>st (aS (Iv 0) (zd (zx (yq (fun mq σ wq=> ∃(k:Nat) (ρ:Env),mq=d.types.length-k∧σ=yi ρ [(1,Ix b2 0),(3,Iw k)]∧(k≤d.types.length)∧(∀i,i<k→FewT (d.types.getD i default))∧Sep G W ((Blk b2 (d.cells dd0 dd1).toArray 25)::Rs) wq) ⟨0,_,rfl,sSf,Nat.zero_le _,(fun i h=>absurd h (Nat.not_lt_zero i)),H⟩ ?_))))))))
 rintro m23 σ24 w22 ⟨k,ρl1,rfl,rfl,hkk,hm,m⟩
 let bl:=(d.types.getD k default).fields
 let bi:=((((d.types.getD k default).fields).length:Nat):Int)
 let bg:=zI W (sb dd0) (so dd0+k*1+0)
 refine za (za (R0 fun _=>st (mV (Iw k) (st (yG rfl (st (lD dd0 pT rfl (zb (m.b0) rfl) (st (zR (n:=d.types.length) qT rfl hdd0.sl (st (zJ (k:=.i64) (a:=((k:Nat):Int)) (b:=bj) rfl rfl (zd ?_))))))))))))
 cases x:decide (((k:Nat):Int)<((d.types.length:Nat):Int))
 have x:=fD x
 refine zg rfl (yr (yg (za (R0 fun _=>st (aS (.bool false) (zd (zj (zK qR (show _=(.bool false:Value)from rfl) ?_))))))))
 refine⟨false,rfl,?_,(m.s1_)⟩
 intro I
 exact⟨⟨by omega,fun i hi=>hm i om⟩,by omega⟩
 have x:=tD x
 refine zh rfl (zl (za (zx (za (R0 fun _=>st (yG rfl (st (lD dd0 pT rfl (zb (m.b0) rfl) (st (mV (Iw k) ?_))))))))))
 have aR:k<d.types.length:=bo
 refine st (zm (k:=1) (i:=k) qT tT rfl hdd0.sl rfl aR (st (xe rfl ?_)))
 have Y:k<d.types.length:=bo
 obtain⟨al,c,hoke29⟩:=hdd0.typD Y
 have hsm31:((d.types.getD k default).fields).length*48≤140737488355328:=c.small
 have am:=m.cells al (hdd0.foot (ne_of_lt Y))
 refine st (lD bg sT rfl (am.get (j:=0) rfl) (st (aS bg (zd (za (za (zz kr (st (mV bg (st (zR (n:=bl.length) mT rfl c.sl (st (yc (k:=.i64) (a:=bi) (b:=0) rfl rfl (st (mV (.bool (decide (bi=0))) (stc (V:=bg) rfl rfl (fun aT=>?_) ?_))))))))))))))))
 have hl34:=fD aT
 exact mV bg ⟨rfl,rfl⟩
 refine stc (V:=Iw (bl.length)) rfl rfl (fun Z=>?_) ?_
 have hl36:=fD Z
 exact zR (n:=bl.length) mT (if_pos Z) c.sl ⟨rfl,rfl⟩
 refine stc (V:=.bool (decide (8<bi))) rfl rfl (fun aa=>?_) ?_
 have hl38:=fD aa
 exact yU (k:=.i64) (a:=bi) (b:=8) (if_pos aa) rfl ⟨rfl,rfl⟩
 refine st (zp (b:=decide (bi=0)) (b':=decide (8<bi)) rfl (fun hbp=>(if_pos hbp)) (zd ?_))
 cases ab:(decide (((((d.types.getD k default).fields).length:Nat):Int)=0))||(decide (8<((((d.types.getD k default).fields).length:Nat):Int)))
 try simp only[ze]at ab
 refine zg rfl (zl (za (R0 fun _=>st (aS (Iv 0) (zd (zx (yq (fun mq σ wq=> ∃(j:Nat) (ρ:Env),mq=(d.types.getD k default).fields.length-j∧σ=yi ρ [(1,Ix b2 0),(3,Iw k),(4,(zI W (sb dd0) (so dd0+k*1+0))),(5,Iw j)]∧(j≤(d.types.getD k default).fields.length)∧(∀i,i<j→zbC ((d.types.getD k default).fields.getD i default))∧Sep G W ((Blk b2 (d.cells dd0 dd1).toArray 25)::Rs) wq) ⟨0,_,rfl,sSf,Nat.zero_le _,(fun i h=>absurd h (Nat.not_lt_zero i)),m⟩ ?_)))))))
 rintro m41 σ42 w40 ⟨j,ρl2,rfl,rfl,hkj,aK,e⟩
 let bk:=zI W (sb bg) (so bg+j*4+3)
 let aQ:=((d.types.getD k default).fields).getD j default
 let bh:=(((aQ.moves).length:Nat):Int)
 let bm:=(decide (bh=0))||(decide (16<bh))
 refine za (za (R0 fun _=>st (mV (Iw j) (st (mV bg (st (zR (n:=bl.length) mT rfl c.sl (st (zJ (k:=.i64) (a:=((j:Nat):Int)) (b:=bi) rfl rfl (zd ?_))))))))))
 cases y:decide (((j:Nat):Int)<((((d.types.getD k default).fields).length:Nat):Int))
 have y:=fD y
 refine zg rfl (yr (yg (R0 fun _=>st (mV (Iw k) ?_))))
 have aU:InR ((k+1:Nat):Int):=bo
 refine st (yb (r:=((k+1:Nat):Int)) (k:=.i64) (a:=((k:Nat):Int)) (b:=1) rfl rfl (by rw[show(((k:Nat):Int)+1:Int)=((k+1:Nat):Int)from bo];exact zM aU) (st (aS (Iw (k+1)) (zd ?_))))
 exact⟨_,by omega,k+1,_,rfl,sSf,by omega,(yV hm ⟨by omega,fun j9 I=>aK j9 om⟩),e⟩
 have y:=tD y
 refine zh rfl (zl (za (zx (za (zz kr (st (mV bg (st (mV (Iw j) ?_)))))))))
 have aV:j<((d.types.getD k default).fields).length:=bo
 refine st (zm (k:=4) (i:=j) mT lT rfl c.sl rfl aV (st (xF rfl ?_)))
 have o:j<((d.types.getD k default).fields).length:=bo
 let bn:=c.foot (ne_of_lt o)
 obtain⟨l,f,hoke47⟩:=c.fldD o
 have hsm49:((((d.types.getD k default).fields).getD j default).moves).length*32≤140737488355328:=f.small
 have an:=e.cells l bn
 refine st (lD (Iv (aQ.kind)) kT rfl (an.get (j:=0) rfl) (st (yc (k:=.i64) (a:=aQ.kind) (b:=4) rfl rfl (st (mV (.bool (decide ((aQ.kind)=4))) (stc (V:=bg) rfl rfl (fun aW=>?_) ?_))))))
 have hl52:=tD aW
 exact mV bg ⟨rfl,rfl⟩
 refine stc (V:=Iw j) rfl rfl (fun aX=>?_) ?_
 have hl54:=tD aX
 exact mV (Iw j) ⟨rfl,rfl⟩
 refine stc (V:=Ix (sb bg) (so bg+j*4)) rfl rfl (fun J=>?_) ?_
 have hl56:=tD J
 have aY:j<((d.types.getD k default).fields).length:=bo
 exact zm (k:=4) (i:=j) mT lT (if_pos J) c.sl (if_pos J) aY ⟨rfl,rfl⟩
 refine stc (V:=Ix (sb bg) (so bg+j*4+3)) rfl rfl (fun ac=>?_) ?_
 have hl59:=tD ac
 exact yL (if_pos ac) ⟨rfl,rfl⟩
 refine stc (V:=bk) rfl rfl (fun ad=>?_) ?_
 have hl61:=tD ad
 have ao:=e.cells l bn
 exact lD bk oT (if_pos ad) (ao.get (j:=3) rfl) ⟨rfl,rfl⟩
 refine stc (V:=Iw ((aQ.moves).length)) rfl rfl (fun ae=>?_) ?_
 have hl65:=tD ae
 exact zR (n:=(aQ.moves).length) nT (if_pos ae) f.sl ⟨rfl,rfl⟩
 refine stc (V:=.bool (decide (bh=0))) rfl rfl (fun af=>?_) ?_
 have hl67:=tD af
 exact yc (k:=.i64) (a:=bh) (b:=0) (if_pos af) rfl ⟨rfl,rfl⟩
 refine stc (V:=.bool (decide (bh=0))) rfl rfl (fun ag=>?_) ?_
 have hl69:=tD ag
 exact zV (v:=.bool (decide (bh=0))) (if_pos ag) ⟨rfl,rfl⟩
 refine yN (V:=bg) rfl rfl (fun ah=>?_) ?_
 have hl71:=tD ah.1
 have hl72:=fD ah.2
 exact mV bg ⟨rfl,rfl⟩
 refine yN (V:=Iw j) rfl rfl (fun ai=>?_) ?_
 have hl74:=tD ai.1
 have hl75:=fD ai.2
 exact mV (Iw j) ⟨rfl,rfl⟩
 refine yN (V:=Ix (sb bg) (so bg+j*4)) rfl rfl (fun p=>?_) ?_
 have hl77:=tD p.1
 have hl78:=fD p.2
 have aZ:j<((d.types.getD k default).fields).length:=bo
 exact zm (k:=4) (i:=j) mT lT (if_pos ⟨p.1,p.2⟩) c.sl (if_pos ⟨p.1,p.2⟩) aZ ⟨rfl,rfl⟩
 refine yN (V:=Ix (sb bg) (so bg+j*4+3)) rfl rfl (fun z=>?_) ?_
 have hl81:=tD z.1
 have hl82:=fD z.2
 exact yL (if_pos ⟨z.1,z.2⟩) ⟨rfl,rfl⟩
 refine yN (V:=bk) rfl rfl (fun A=>?_) ?_
 have hl84:=tD A.1
 have hl85:=fD A.2
 have ap:=e.cells l bn
 exact lD bk oT (if_pos ⟨A.1,A.2⟩) (ap.get (j:=3) rfl) ⟨rfl,rfl⟩
 refine yN (V:=Iw ((aQ.moves).length)) rfl rfl (fun B=>?_) ?_
 have hl89:=tD B.1
 have hl90:=fD B.2
 exact zR (n:=(aQ.moves).length) nT (if_pos ⟨B.1,B.2⟩) f.sl ⟨rfl,rfl⟩
 refine yN (V:=.bool (decide (16<bh))) rfl rfl (fun C=>?_) ?_
 have hl92:=tD C.1
 have hl93:=fD C.2
 exact yU (k:=.i64) (a:=bh) (b:=16) (if_pos ⟨C.1,C.2⟩) rfl ⟨rfl,rfl⟩
 refine stc (V:=.bool bm) rfl rfl (fun K=>?_) ?_
 have hl95:=tD K
 exact zp (b:=decide (bh=0)) (b':=decide (16<bh)) (if_pos K) (fun hbp=>(if_pos ⟨K,hbp⟩)) ⟨rfl,rfl⟩
 refine st (zC (b:=decide ((aQ.kind)=4)) (b':=(decide (bh=0))||(decide (16<bh))) rfl (fun hbp=>(if_pos hbp)) (st (mV (.bool ((decide ((aQ.kind)=4))&&bm)) (stc (V:=bg) rfl rfl (fun ba=>?_) ?_))))
 have bb:=ba
 try simp only[ze]at bb
 exact mV bg ⟨rfl,rfl⟩
 refine stc (V:=Iw j) rfl rfl (fun bc=>?_) ?_
 have bd:=bc
 try simp only[ze]at bd
 exact mV (Iw j) ⟨rfl,rfl⟩
 refine stc (V:=Ix (sb bg) (so bg+j*4)) rfl rfl (fun D=>?_) ?_
 have aq:=D
 try simp only[ze]at aq
 have ar:j<((d.types.getD k default).fields).length:=bo
 exact zm (k:=4) (i:=j) mT lT (if_pos D) c.sl (if_pos D) ar ⟨rfl,rfl⟩
 refine stc (V:=Ix (sb bg) (so bg+j*4)) rfl rfl (fun L=>?_) ?_
 have au:=L
 try simp only[ze]at au
 exact xF (if_pos L) ⟨rfl,rfl⟩
 refine stc (V:=Iv (aQ.kind)) rfl rfl (fun M=>?_) ?_
 have av:=M
 try simp only[ze]at av
 have aj:=e.cells l bn
 exact lD (Iv (aQ.kind)) kT (if_pos M) (aj.get (j:=0) rfl) ⟨rfl,rfl⟩
 refine stc (V:=.bool (!decide ((aQ.kind)=4))) rfl rfl (fun N=>?_) ?_
 have aw:=N
 try simp only[ze]at aw
 exact yh (k:=.i64) (a:=aQ.kind) (b:=4) (if_pos N) rfl ⟨rfl,rfl⟩
 refine stc (V:=.bool (!decide ((aQ.kind)=4))) rfl rfl (fun O=>?_) ?_
 have ax:=O
 try simp only[ze]at ax
 exact zV (v:=.bool (!decide ((aQ.kind)=4))) (if_pos O) ⟨rfl,rfl⟩
 refine yN (V:=bg) rfl rfl (fun P=>?_) ?_
 have ay:=P.1
 try simp only[ze]at ay
 have hl115:=zy P.2
 exact mV bg ⟨rfl,rfl⟩
 refine yN (V:=Iw j) rfl rfl (fun Q=>?_) ?_
 have az:=Q.1
 try simp only[ze]at az
 have hl118:=zy Q.2
 exact mV (Iw j) ⟨rfl,rfl⟩
 refine yN (V:=Ix (sb bg) (so bg+j*4)) rfl rfl (fun g=>?_) ?_
 have aA:=g.1
 try simp only[ze]at aA
 have hl121:=zy g.2
 have aB:j<((d.types.getD k default).fields).length:=bo
 exact zm (k:=4) (i:=j) mT lT (if_pos ⟨g.1,g.2⟩) c.sl (if_pos ⟨g.1,g.2⟩) aB ⟨rfl,rfl⟩
 refine yN (V:=Ix (sb bg) (so bg+j*4+3)) rfl rfl (fun q=>?_) ?_
 have aC:=q.1
 try simp only[ze]at aC
 have hl125:=zy q.2
 exact yL (if_pos ⟨q.1,q.2⟩) ⟨rfl,rfl⟩
 refine yN (V:=bk) rfl rfl (fun s=>?_) ?_
 have aD:=s.1
 try simp only[ze]at aD
 have hl128:=zy s.2
 have ak:=e.cells l bn
 exact lD bk oT (if_pos ⟨s.1,s.2⟩) (ak.get (j:=3) rfl) ⟨rfl,rfl⟩
 refine yN (V:=Iw ((aQ.moves).length)) rfl rfl (fun t=>?_) ?_
 have aE:=t.1
 try simp only[ze]at aE
 have hl133:=zy t.2
 exact zR (n:=(aQ.moves).length) nT (if_pos ⟨t.1,t.2⟩) f.sl ⟨rfl,rfl⟩
 refine yN (V:=.bool (!decide (bh=0))) rfl rfl (fun u=>?_) ?_
 have aF:=u.1
 try simp only[ze]at aF
 have hl136:=zy u.2
 exact yh (k:=.i64) (a:=bh) (b:=0) (if_pos ⟨u.1,u.2⟩) rfl ⟨rfl,rfl⟩
 refine stc (V:=.bool ((!decide ((aQ.kind)=4))&&(!decide (bh=0)))) rfl rfl (fun E=>?_) ?_
 have aG:=E
 try simp only[ze]at aG
 exact zC (b:= !decide ((aQ.kind)=4)) (b':= !decide (bh=0)) (if_pos E) (fun hbp=>(if_pos ⟨E,hbp⟩)) ⟨rfl,rfl⟩
 refine st (zp (b:=(decide ((aQ.kind)=4))&&bm) (b':=(!decide ((aQ.kind)=4))&&(!decide (bh=0))) rfl (fun hbp=>(if_pos hbp)) (zd ?_))
 cases F:((decide (((((d.types.getD k default).fields).getD j default).kind)=4))&&((decide (((((((d.types.getD k default).fields).getD j default).moves).length:Nat):Int)=0))||(decide (16<((((((d.types.getD k default).fields).getD j default).moves).length:Nat):Int)))))||((!decide (((((d.types.getD k default).fields).getD j default).kind)=4))&&(!decide (((((((d.types.getD k default).fields).getD j default).moves).length:Nat):Int)=0)))
 try simp only[ze]at F
 refine zg rfl (zl (R0 fun _=>st (mV (Iw j) ?_)))
 have aH:InR ((j+1:Nat):Int):=bo
 refine st (yb (r:=((j+1:Nat):Int)) (k:=.i64) (a:=((j:Nat):Int)) (b:=1) rfl rfl (by rw[show(((j:Nat):Int)+1:Int)=((j+1:Nat):Int)from bo];exact zM aH) (st (aS (Iw (j+1)) (zd ?_))))
 exact⟨_,by omega,j+1,_,rfl,sSf,by omega,(yV aK (by unfold zbC;have I:=F;omega)),e⟩
 try simp only[ze]at F
 refine zh rfl (za (R0 fun _=>st (aS (.bool true) (zd (zj (zK qR (show _=(.bool true:Value)from rfl) ?_))))))
 refine⟨true,rfl,?_,(e.s1_)⟩
 intro I
 exact absurd I dc
 try simp only[ze]at ab
 refine zh rfl (za (R0 fun _=>st (aS (.bool true) (zd (zj (zK qR (show _=(.bool true:Value)from rfl) ?_))))))
 refine⟨true,rfl,?_,(m.s1_)⟩
 intro I
 exact absurd I dc
 try simp only[ze]at X
 refine zh rfl (za (R0 fun _=>st (aS (.bool true) (zd (zj (zK qR (show _=(.bool true:Value)from rfl) ?_))))))
 refine⟨true,rfl,?_,(H.s1_)⟩
 intro I
 exact absurd I dc
theorem D_one {G:Nat→Prop}{W w:World}{Rs:List HP}{t:Typ}{dt0:Value}(hdt0:RdS W G dt0 t.fields)(ot:t.Ok){f:Fld}{df0:Value}(hdf0:RdS W G df0 f.moves)(of:f.Ok)(hS0:Sep G W Rs w):Ret Tryz.prog 47 [.agg (t.cells dt0).toArray,.agg (f.cells df0).toArray] w (fun r w'=> ∃(e:Int),r=(.int .i64 (e):Value)∧(InR e)∧(e=0→VM t f)∧Sep G W Rs w'):=by
 let cn:=decide (f.policy=1)
 let ck:=decide (f.policy=3)
 let cj:=decide (f.policy=2)
 let cm:=cj&&(!decide (f.kind=1))
 let ci:=((decide (f.policy=1))||((decide (f.policy=2))&&(!decide (f.kind=1))))||((decide (f.policy=3))&&(decide (f.kind=2)))
 have hdt0s:_*48≤_:=hdt0.small
 have hdf0s:_*32≤_:=hdf0.small
 refine zi (args:=[.agg (t.cells dt0).toArray,.agg (f.cells df0).toArray]) Tryz.func47 rfl rfl ?_
 refine za (R0 fun _=>st (zN (v:=.agg (t.cells dt0).toArray) rfl ?_))
 intro w3 b2 cd
 let co:=Blk b2 (t.cells dt0).toArray 53
 refine st (zN (v:=.agg (f.cells df0).toArray) rfl ?_)
 intro w7 l ce
 let cp:=Blk l (f.cells df0).toArray 110
 have g:=(hS0.new cd).new ce
 refine st (aS (Iv 0) (zd (za (za (zz kr (st (xF rfl (st (lD (Iv (f.kind)) kT rfl (zb (g.b0) rfl) (st (zJ (k:=.i64) (a:=f.kind) (b:=1) rfl rfl (st (mV (.bool (decide (f.kind<1))) (stc (V:=Ix l 0) rfl rfl (fun cf=>?_) ?_))))))))))))))
 have hl10:=fD cf
 exact xF rfl ⟨rfl,rfl⟩
 refine stc (V:=Iv (f.kind)) rfl rfl (fun ay=>?_) ?_
 have hl12:=fD ay
 exact lD (Iv (f.kind)) kT (if_pos ay) (zb (g.b0) rfl) ⟨rfl,rfl⟩
 refine stc (V:=.bool (decide (4<f.kind))) rfl rfl (fun az=>?_) ?_
 have hl14:=fD az
 exact yU (k:=.i64) (a:=f.kind) (b:=4) (if_pos az) rfl ⟨rfl,rfl⟩
 refine st (zp (b:=decide (f.kind<1)) (b':=decide (4<f.kind)) rfl (fun hbp=>(if_pos hbp)) (zd ?_))
 cases aA:(decide (f.kind<1))||(decide (4<f.kind))
 try simp only[ze]at aA
 refine zg rfl (zl (za (zz kr (st (Yw rfl (st (lD (Iv (f.policy)) kT rfl (zb (g.b0) rfl) (st (yc (k:=.i64) (a:=f.policy) (b:=1) rfl rfl (st (mV (.bool cn) (stc (V:=Ix l 1) rfl rfl (fun bI=>?_) ?_))))))))))))
 have hl17:=fD bI
 exact Yw rfl ⟨rfl,rfl⟩
 refine stc (V:=Iv (f.policy)) rfl rfl (fun aB=>?_) ?_
 have hl19:=fD aB
 exact lD (Iv (f.policy)) kT (if_pos aB) (zb (g.b0) rfl) ⟨rfl,rfl⟩
 refine stc (V:=.bool cj) rfl rfl (fun aC=>?_) ?_
 have hl21:=fD aC
 exact yc (k:=.i64) (a:=f.policy) (b:=2) (if_pos aC) rfl ⟨rfl,rfl⟩
 refine stc (V:=.bool cj) rfl rfl (fun aD=>?_) ?_
 have hl23:=fD aD
 exact zV (v:=.bool cj) (if_pos aD) ⟨rfl,rfl⟩
 refine yN (V:=Ix l 0) rfl rfl (fun aE=>?_) ?_
 have hl25:=fD aE.1
 have hl26:=tD aE.2
 exact xF rfl ⟨rfl,rfl⟩
 refine yN (V:=Iv (f.kind)) rfl rfl (fun F=>?_) ?_
 have hl28:=fD F.1
 have hl29:=tD F.2
 exact lD (Iv (f.kind)) kT (if_pos ⟨F.1,F.2⟩) (zb (g.b0) rfl) ⟨rfl,rfl⟩
 refine yN (V:=.bool (!decide (f.kind=1))) rfl rfl (fun H=>?_) ?_
 have hl31:=fD H.1
 have hl32:=tD H.2
 exact yh (k:=.i64) (a:=f.kind) (b:=1) (if_pos ⟨H.1,H.2⟩) rfl ⟨rfl,rfl⟩
 refine stc (V:=.bool cm) rfl rfl (fun T=>?_) ?_
 have hl34:=fD T
 exact zC (b:=decide (f.policy=2)) (b':= !decide (f.kind=1)) (if_pos T) (fun hbp=>(if_pos ⟨T,hbp⟩)) ⟨rfl,rfl⟩
 refine st (zp (b:=decide (f.policy=1)) (b':=cj&&(!decide (f.kind=1))) rfl (fun hbp=>(if_pos hbp)) (st (mV (.bool (cn||cm)) (stc (V:=Ix l 1) rfl rfl (fun bJ=>?_) ?_))))
 have bK:=bJ
 try simp only[ze]at bK
 exact Yw rfl ⟨rfl,rfl⟩
 refine stc (V:=Iv (f.policy)) rfl rfl (fun aF=>?_) ?_
 have bL:=aF
 try simp only[ze]at bL
 exact lD (Iv (f.policy)) kT (if_pos aF) (zb (g.b0) rfl) ⟨rfl,rfl⟩
 refine stc (V:=.bool ck) rfl rfl (fun aG=>?_) ?_
 have bM:=aG
 try simp only[ze]at bM
 exact yc (k:=.i64) (a:=f.policy) (b:=3) (if_pos aG) rfl ⟨rfl,rfl⟩
 refine stc (V:=.bool ck) rfl rfl (fun aH=>?_) ?_
 have bN:=aH
 try simp only[ze]at bN
 exact zV (v:=.bool ck) (if_pos aH) ⟨rfl,rfl⟩
 refine yN (V:=Ix l 0) rfl rfl (fun aI=>?_) ?_
 have bO:=aI.1
 try simp only[ze]at bO
 have hl45:=tD aI.2
 exact xF rfl ⟨rfl,rfl⟩
 refine yN (V:=Iv (f.kind)) rfl rfl (fun I=>?_) ?_
 have bP:=I.1
 try simp only[ze]at bP
 have hl48:=tD I.2
 exact lD (Iv (f.kind)) kT (if_pos ⟨I.1,I.2⟩) (zb (g.b0) rfl) ⟨rfl,rfl⟩
 refine yN (V:=.bool (decide (f.kind=2))) rfl rfl (fun J=>?_) ?_
 have bQ:=J.1
 try simp only[ze]at bQ
 have hl51:=tD J.2
 exact yc (k:=.i64) (a:=f.kind) (b:=2) (if_pos ⟨J.1,J.2⟩) rfl ⟨rfl,rfl⟩
 refine stc (V:=.bool (ck&&(decide (f.kind=2)))) rfl rfl (fun U=>?_) ?_
 have bR:=U
 try simp only[ze]at bR
 exact zC (b:=decide (f.policy=3)) (b':=decide (f.kind=2)) (if_pos U) (fun hbp=>(if_pos ⟨U,hbp⟩)) ⟨rfl,rfl⟩
 refine st (zp (b:=cn||cm) (b':=ck&&(decide (f.kind=2))) rfl (fun hbp=>(if_pos hbp)) (st (aS (.bool ci) (zd (za (za (zz kr (st (mV (.bool ci) (st (yF (a:=(cn||cm)||(ck&&(decide (f.kind=2)))) rfl (st (mV (.bool (!ci)) (stc (V:=Ix l 2) rfl rfl (fun bS=>?_) ?_))))))))))))))
 have bT:=bS
 try simp only[ze]at bT
 exact WG rfl ⟨rfl,rfl⟩
 refine stc (V:=.bool (f.floor)) rfl rfl (fun aJ=>?_) ?_
 have bU:=aJ
 try simp only[ze]at bU
 exact lD (.bool (f.floor)) Tryz.isAgg4 (if_pos aJ) (zb (g.b0) rfl) ⟨rfl,rfl⟩
 refine stc (V:=.bool (f.floor)) rfl rfl (fun aK=>?_) ?_
 have bV:=aK
 try simp only[ze]at bV
 exact zV (v:=.bool (f.floor)) (if_pos aK) ⟨rfl,rfl⟩
 refine yN (V:=Ix l 0) rfl rfl (fun aL=>?_) ?_
 have bW:=aL.1
 try simp only[ze]at bW
 have hl62:=aL.2
 exact xF rfl ⟨rfl,rfl⟩
 refine yN (V:=Iv (f.kind)) rfl rfl (fun K=>?_) ?_
 have bX:=K.1
 try simp only[ze]at bX
 have hl65:=K.2
 exact lD (Iv (f.kind)) kT (if_pos ⟨K.1,K.2⟩) (zb (g.b0) rfl) ⟨rfl,rfl⟩
 refine yN (V:=.bool (!decide (f.kind=1))) rfl rfl (fun L=>?_) ?_
 have bY:=L.1
 try simp only[ze]at bY
 have hl68:=L.2
 exact yh (k:=.i64) (a:=f.kind) (b:=1) (if_pos ⟨L.1,L.2⟩) rfl ⟨rfl,rfl⟩
 refine stc (V:=.bool (f.floor&&(!decide (f.kind=1)))) rfl rfl (fun X=>?_) ?_
 have bZ:=X
 try simp only[ze]at bZ
 exact zC (b:=f.floor) (b':= !decide (f.kind=1)) (if_pos X) (fun hbp=>(if_pos ⟨X,hbp⟩)) ⟨rfl,rfl⟩
 refine st (zp (b:= !ci) (b':=f.floor&&(!decide (f.kind=1))) rfl (fun hbp=>(if_pos hbp)) (zd ?_))
 cases Y:(!(((decide (f.policy=1))||((decide (f.policy=2))&&(!decide (f.kind=1))))||((decide (f.policy=3))&&(decide (f.kind=2)))))||(f.floor&&(!decide (f.kind=1)))
 try simp only[ze]at Y
 have hfl:f.floor=true→f.kind=1:=by
  intro D
  rcases Y.2 with h7|h7
  ·rw[D]at h7;cases h7
  ·exact h7
 refine zg rfl (zl (za (za (R0 fun _=>st (aS (Iv 0) (zd (zx (yq (fun mq σ Z=> ∃(k:Nat) (ρ:Env),mq=f.moves.length-k∧σ=yi ρ [(2,Ix b2 0),(3,Ix l 0),(6,Iw k)]∧(k≤f.moves.length)∧Sep G W ((Blk l (f.cells df0).toArray 110)::(Blk b2 (t.cells dt0).toArray 53)::Rs) Z) ⟨0,_,rfl,sSf,Nat.zero_le _,g⟩ ?_))))))))
 rintro m73 σ74 w72 ⟨k,ρl1,rfl,rfl,hkk,E⟩
 let ch:=f.moves.getD k default
 let cl:=decide ((ch.need)=(-1))
 refine za (za (R0 fun _=>st (mV (Iw k) (st (yL rfl (st (lD df0 oT rfl (zb (E.b0) rfl) (st (zR (n:=f.moves.length) nT rfl hdf0.sl (st (zJ (k:=.i64) (a:=((k:Nat):Int)) (b:=((f.moves.length:Nat):Int)) rfl rfl (zd ?_))))))))))))
 cases M:decide (((k:Nat):Int)<((f.moves.length:Nat):Int))
 have M:=fD M
 refine zg rfl (yr (yg (za (za (R0 fun _=>st (aS (Iv 0) (zd (zx (yq (fun mq σ Z=> ∃(j:Nat) (ρ:Env),mq=f.moves.length-j∧σ=yi ρ [(2,Ix b2 0),(3,Ix l 0),(8,Iw j)]∧(j≤f.moves.length)∧(∀i,i<j→(f.moves.getD i default).need= -1∨yH t (f.moves.getD i default).need=1)∧Sep G W ((Blk l (f.cells df0).toArray 110)::(Blk b2 (t.cells dt0).toArray 53)::Rs) Z) ⟨0,_,rfl,sSf,Nat.zero_le _,(fun i h=>absurd h (Nat.not_lt_zero i)),E⟩ ?_)))))))))
 rintro m78 σ79 w77 ⟨j,ρl2,rfl,rfl,hkj,hm,aa⟩
 let aU:=(f.moves.getD j default).need
 refine za (za (R0 fun _=>st (mV (Iw j) (st (yL rfl (st (lD df0 oT rfl (zb (aa.b0) rfl) (st (zR (n:=f.moves.length) nT rfl hdf0.sl (st (zJ (k:=.i64) (a:=((j:Nat):Int)) (b:=((f.moves.length:Nat):Int)) rfl rfl (zd ?_))))))))))))
 cases N:decide (((j:Nat):Int)<((f.moves.length:Nat):Int))
 have N:=fD N
 refine zg rfl (yr (yg (za (R0 fun _=>st (aS (Iv 0) (zd (zj (zK mR (show _=(Iv 0:Value)from rfl) ?_))))))))
 refine⟨0,rfl,?_,?_,(aa.s2_)⟩
 decide
 intro D
 exact⟨by omega,hfl,fun i hi=>hm i om⟩
 have N:=tD N
 refine zh rfl (zl (za (zx (za ?_))))
 refine WD4 ((fun TT bH=>WF [fun vals Z=>Sep G W (bH::TT) Z,fun vals Z=>(vals 15=(if(!decide (aU=(-1)))=true then(Iv ((yH t aU)):Value)else undef))∧Sep G W (bH::TT) Z]) (co::Rs) cp) (AF [Vl 0 (Ix l 3),Vl 1 (df0),Vl 2 (Iw j),Vl 3 (Ix (sb df0) (so df0+j*4)),Vl 4 (Ix (sb df0) (so df0+j*4+2)),Vl 5 (Iv aU),Vl 6 (.bool (!decide (aU=(-1)))),Vl 7 (.bool (!decide (aU=(-1)))),Vl 8 (if(!decide (aU=(-1)))=true then .agg (t.cells dt0).toArray else undef),Vl 9 (if(!decide (aU=(-1)))=true then Ix l 3 else undef),Vl 10 (if(!decide (aU=(-1)))=true then df0 else undef),Vl 11 (if(!decide (aU=(-1)))=true then Iw j else undef),Vl 12 (if(!decide (aU=(-1)))=true then Ix (sb df0) (so df0+j*4)else undef),Vl 13 (if(!decide (aU=(-1)))=true then Ix (sb df0) (so df0+j*4+2)else undef),Vl 14 (if(!decide (aU=(-1)))=true then Iv aU else undef),fun _=>True,Vl 16 (if(!decide (aU=(-1)))=true then .bool (!decide ((yH t aU)=1))else undef),Vl 17 (.bool ((!decide (aU=(-1)))&&(!decide ((yH t aU)=1))))]) [[],[0],[],[0,1,2],(rg 4),(rg 5),(rg 6),(rg 7),(rg 8),(rg 8),[0,1,2,3,4,5,6,7,9],(rg 8),[0,1,2,3,4,5,6,7,9,10,11],[0,1,2,3,4,5,6,7,9,10,11,12],[0,1,2,3,4,5,6,7,9,10,11,12,13],(rg 15),(rg 16),(rg 17)] [15] [(0,0),(0,0),(0,0),(0,0),(0,0),(0,0),(0,0),(0,0),(0,0),(0,0),(0,0),(0,0),(0,0),(0,0),(0,0),(0,0),(1,1),(1,1)] aa ⟨fun _ _ _ _ _ _ _=>obl rfl (yL rfl dR),ob1 0 fun _ _ (aV:Sep _ _ _ _) aW=>obl rfl (lD df0 oT (aW 0 dc) (zb (aV.b0) rfl) dR),fun _ _ _ _ _ _ _=>obl rfl (mV (Iw j) dR),?_,fun _ _ _ _ _ _ aX=>obl rfl (Yr (aX 3 dc) dR),?_,ob1 0 fun _ _ _ aY=>obl rfl (yh (k:=.i64) (a:=(f.moves.getD j default).need) (b:= -1) (aY 5 dc) rfl dR),fun _ _ _ _ _ _ aZ=>obl rfl (zV (v:=.bool (!decide (aU=(-1)))) (aZ 6 dc) dR),?_,?_,?_,?_,?_,?_,?_,?_,?_,fun _ _ _ _ _ _ ac=>obl rfl (zC (b:= !decide (aU=(-1))) (b':= !decide ((yH t aU)=1)) (ac 7 dc) (fun hbp=>(Eq.trans (ac 16 dc) (if_pos hbp))) dR),trivial⟩ ?_
 refine ob1 0 fun _ _ _ ad=>(obl rfl ?_)
 have ba:j<f.moves.length:=bo
 exact zm (k:=4) (i:=j) nT rT (ad 1 dc) hdf0.sl (ad 2 dc) ba dR
 refine ob1 0 fun _ _ (bb:Sep _ _ _ _) bc=>(obl rfl ?_)
 have ae:j<f.moves.length:=bo
 obtain⟨aM,hoke303⟩:=hdf0.mvD ae
 have aN:=bb.cells aM (hdf0.foot (ne_of_lt ae))
 exact lD (Iv aU) kT (bc 4 dc) (aN.get (j:=2) rfl) dR
 refine ob1 0 fun _ _ (bd:Sep _ _ _ _) be=>(zX rfl rfl (be 7 dc) (fun y=>?_) (fun y=>fun c d _=>⟨trivial,d.trans (if_neg y).symm⟩))
 have hl330:=zy y
 exact zf (k:=1) Tryz.isAgg53 tT rfl rfl (CellsAt.all (bd.b1)) (fun c d _=>⟨rfl,d.trans (if_pos y).symm⟩)
 refine fun _ _ _ _ _ _ bf=>(zX rfl rfl (bf 7 dc) (fun z=>?_) (fun z=>fun c d _=>⟨trivial,d.trans (if_neg z).symm⟩))
 have hl339:=zy z
 exact yL rfl (fun c d _=>⟨rfl,d.trans (if_pos z).symm⟩)
 refine ob1 0 fun _ _ (bg:Sep _ _ _ _) af=>(zX rfl rfl (af 7 dc) (fun q=>?_) (fun q=>fun c d _=>⟨trivial,d.trans (if_neg q).symm⟩))
 have hl350:=zy q
 exact lD df0 oT (Eq.trans (af 9 dc) (if_pos q)) (zb (bg.b0) rfl) (fun c d _=>⟨rfl,d.trans (if_pos q).symm⟩)
 refine fun _ _ _ _ _ _ bh=>(zX rfl rfl (bh 7 dc) (fun A=>?_) (fun A=>fun c d _=>⟨trivial,d.trans (if_neg A).symm⟩))
 have hl359:=zy A
 exact mV (Iw j) (fun c d _=>⟨rfl,d.trans (if_pos A).symm⟩)
 refine ob1 0 fun _ _ _ O=>(zX rfl rfl (O 7 dc) (fun m=>?_) (fun m=>fun c d _=>⟨trivial,d.trans (if_neg m).symm⟩))
 have hl371:=zy m
 have bi:j<f.moves.length:=bo
 exact zm (k:=4) (i:=j) nT rT (Eq.trans (O 10 dc) (if_pos m)) hdf0.sl (Eq.trans (O 11 dc) (if_pos m)) bi (fun c d _=>⟨rfl,d.trans (if_pos m).symm⟩)
 refine fun _ _ _ _ _ _ ag=>(zX rfl rfl (ag 7 dc) (fun s=>?_) (fun s=>fun c d _=>⟨trivial,d.trans (if_neg s).symm⟩))
 have hl382:=zy s
 exact Yr (Eq.trans (ag 12 dc) (if_pos s)) (fun c d _=>⟨rfl,d.trans (if_pos s).symm⟩)
 refine ob1 0 fun _ _ (bj:Sep _ _ _ _) ah=>(zX rfl rfl (ah 7 dc) (fun u=>?_) (fun u=>fun c d _=>⟨trivial,d.trans (if_neg u).symm⟩))
 have hl393:=zy u
 have ai:j<f.moves.length:=bo
 obtain⟨aO,hoke394⟩:=hdf0.mvD ai
 have aP:=bj.cells aO (hdf0.foot (ne_of_lt ai))
 exact lD (Iv aU) kT (Eq.trans (ah 13 dc) (if_pos u)) (aP.get (j:=2) rfl) (fun c d _=>⟨rfl,d.trans (if_pos u).symm⟩)
 refine ob1 0 fun vals ca (P:Sep _ _ _ _) Q=>(zX rfl rfl (Q 7 dc) (fun o=>?_) (fun o c d cg=>?_))
 have hl233:=zy o
 have aj:j<f.moves.length:=bo
 obtain⟨aQ,ax⟩:=hdf0.mvD aj
 have hcw236:=P.cells aQ (hdf0.foot (ne_of_lt aj))
 refine(zG (f:=49) (vals:=[.agg (t.cells dt0).toArray,Iv aU]) (cap:=[]) rfl (yK ⟨(Eq.trans (Q 8 dc) (if_pos o)),(Eq.trans (Q 14 dc) (if_pos o)),trivial⟩) Tryz.call49 (Jd (t:=t) (n:=(f.moves.getD j default).need) hdt0 ot ax.need P) ?_)
 rintro _ w237 ⟨rfl,bk⟩
 exact fun c d cg=>⟨(zv (d.trans (if_pos o).symm) bk),trivial⟩
 refine⟨?_,trivial⟩
 show(c 15=(if(!decide (aU=(-1)))=true then(Iv ((yH t aU)):Value)else undef))∧Sep G W (cp::co::Rs) ca
 exact⟨(d.trans (if_neg o).symm),P⟩
 refine ob1 1 fun _ _ bl bm=>?_
 obtain⟨ak,hS403⟩:=bl
 refine zX rfl rfl (bm 7 dc) (fun x=>?_) (fun x=>fun c d _=>⟨trivial,d.trans (if_neg x).symm⟩)
 have hl406:=zy x
 exact yh (k:=.i64) (a:=(yH t aU)) (b:=1) (Eq.trans ak (if_pos x)) rfl (fun c d _=>⟨rfl,d.trans (if_pos x).symm⟩)
 intro vals w415 bn bp
 obtain⟨ak,al⟩:=bn
 have cb:=bp 17 dc
 refine zZ (kv:=[(2,Ix b2 0),(3,Ix l 0),(8,Iw j),(81,Iw j),(82,Ix l 3),(83,df0),(84,Iw f.moves.length),(85,.bool true),(105,.bool ((!decide (aU=(-1)))&&(!decide ((yH t aU)=1))))]) ⟨rfl,rfl,rfl,rfl,rfl,rfl,rfl,rfl,(by exact cb),trivial⟩ (fun ρw415=>(zd ?_))
 cases R:(!decide (((f.moves.getD j default).need)=(-1)))&&(!decide ((yH t ((f.moves.getD j default).need))=1))
 try simp only[ze]at R
 refine zg rfl (zl (R0 fun _=>st (mV (Iw j) ?_)))
 have bq:InR ((j+1:Nat):Int):=bo
 refine st (yb (r:=((j+1:Nat):Int)) (k:=.i64) (a:=((j:Nat):Int)) (b:=1) rfl rfl (by rw[show(((j:Nat):Int)+1:Int)=((j+1:Nat):Int)from bo];exact zM bq) (st (aS (Iw (j+1)) (zd ?_))))
 exact⟨_,by omega,j+1,_,rfl,sSf,by omega,(yV hm (by have D:=R;omega)),al⟩
 try simp only[ze]at R
 refine zh rfl (za (R0 fun _=>st (aS (Iv 8) (zd (zj (zK mR (show _=(Iv 8:Value)from rfl) ?_))))))
 refine⟨8,rfl,?_,?_,(al.s2_)⟩
 decide
 intro D
 exact absurd D dc
 have M:=tD M
 refine zh rfl (zl (za (zx (za (R0 fun _=>st (yL rfl (st (lD df0 oT rfl (zb (E.b0) rfl) (st (mV (Iw k) ?_))))))))))
 have br:k<f.moves.length:=bo
 refine st (zm (k:=4) (i:=k) nT rT rfl hdf0.sl rfl br ?_)
 have am:k<f.moves.length:=bo
 obtain⟨aR,hoke424⟩:=hdf0.mvD am
 have aT:=E.cells aR (hdf0.foot (ne_of_lt am))
 refine st (zf (k:=4) rY rT rfl rfl aT (st (zt sY ?_)))
 intro w429 ab bs
 have an:=E.new bs
 refine stn (zq (v:=.agg (ch.cells).toArray) (c':=(ch.cells).toArray) rT rfl rfl (an.b0) (ye ⟨rfl,rfl,rfl,rfl,trivial⟩) yqc rfl ?_)
 intro cc bt
 have p:=an.pt0 bt
 refine zd (za (zz kr (st (UW rfl (st (lD (Iv (ch.frm)) kT rfl (zb (p.b0) rfl) (st (zJ (k:=.i64) (a:=ch.frm) (b:=0) rfl rfl (st (mV (.bool (decide ((ch.frm)<0))) (stc (V:=Ix ab 1) rfl rfl (fun bu=>?_) ?_)))))))))))
 have hl435:=fD bu
 exact UY rfl ⟨rfl,rfl⟩
 refine stc (V:=Iv (ch.to)) rfl rfl (fun ao=>?_) ?_
 have hl437:=fD ao
 exact lD (Iv (ch.to)) kT (if_pos ao) (zb (p.b0) rfl) ⟨rfl,rfl⟩
 refine stc (V:=.bool (decide ((ch.to)<0))) rfl rfl (fun ap=>?_) ?_
 have hl439:=fD ap
 exact zJ (k:=.i64) (a:=ch.to) (b:=0) (if_pos ap) rfl ⟨rfl,rfl⟩
 refine st (zp (b:=decide ((ch.frm)<0)) (b':=decide ((ch.to)<0)) rfl (fun hbp=>(if_pos hbp)) (st (mV (.bool ((decide ((ch.frm)<0))||(decide ((ch.to)<0)))) (stc (V:=Ix ab 2) rfl rfl (fun bv=>?_) ?_))))
 have bw:=bv
 try simp only[ze]at bw
 exact Yr rfl ⟨rfl,rfl⟩
 refine stc (V:=Iv (ch.need)) rfl rfl (fun aq=>?_) ?_
 have bx:=aq
 try simp only[ze]at bx
 exact lD (Iv (ch.need)) kT (if_pos aq) (zb (p.b0) rfl) ⟨rfl,rfl⟩
 refine stc (V:=.bool cl) rfl rfl (fun ar=>?_) ?_
 have bz:=ar
 try simp only[ze]at bz
 exact yc (k:=.i64) (a:=ch.need) (b:= -1) (if_pos ar) rfl ⟨rfl,rfl⟩
 refine stc (V:=.bool cl) rfl rfl (fun au=>?_) ?_
 have bA:=au
 try simp only[ze]at bA
 exact zV (v:=.bool cl) (if_pos au) ⟨rfl,rfl⟩
 refine yN (V:=Ix ab 3) rfl rfl (fun av=>?_) ?_
 have bB:=av.1
 try simp only[ze]at bB
 have hl450:=tD av.2
 exact UX rfl ⟨rfl,rfl⟩
 refine yN (V:=Iv (ch.least)) rfl rfl (fun B=>?_) ?_
 have bC:=B.1
 try simp only[ze]at bC
 have hl453:=tD B.2
 exact lD (Iv (ch.least)) kT (if_pos ⟨B.1,B.2⟩) (zb (p.b0) rfl) ⟨rfl,rfl⟩
 refine yN (V:=.bool (!decide ((ch.least)=0))) rfl rfl (fun C=>?_) ?_
 have bD:=C.1
 try simp only[ze]at bD
 have hl456:=tD C.2
 exact yh (k:=.i64) (a:=ch.least) (b:=0) (if_pos ⟨C.1,C.2⟩) rfl ⟨rfl,rfl⟩
 refine stc (V:=.bool (cl&&(!decide ((ch.least)=0)))) rfl rfl (fun S=>?_) ?_
 have bE:=S
 try simp only[ze]at bE
 exact zC (b:=decide ((ch.need)=(-1))) (b':= !decide ((ch.least)=0)) (if_pos S) (fun hbp=>(if_pos ⟨S,hbp⟩)) ⟨rfl,rfl⟩
 refine st (zp (b:=(decide ((ch.frm)<0))||(decide ((ch.to)<0))) (b':=cl&&(!decide ((ch.least)=0))) rfl (fun hbp=>(if_pos hbp)) (zd ?_))
 cases aw:((decide (((f.moves.getD k default).frm)<0))||(decide (((f.moves.getD k default).to)<0)))||((decide (((f.moves.getD k default).need)=(-1)))&&(!decide (((f.moves.getD k default).least)=0)))
 try simp only[ze]at aw
 refine zg rfl (zl (R0 fun _=>st (mV (Iw k) ?_)))
 have bF:InR ((k+1:Nat):Int):=bo
 refine st (yb (r:=((k+1:Nat):Int)) (k:=.i64) (a:=((k:Nat):Int)) (b:=1) rfl rfl (by rw[show(((k:Nat):Int)+1:Int)=((k+1:Nat):Int)from bo];exact zM bF) (st (aS (Iw (k+1)) (zd ?_))))
 have bG:Sep G W (cp::co::Rs) cc:=p.sel 3 [1,2] (Nat.le_add_left _ _) rfl rfl
 exact⟨_,by omega,k+1,_,rfl,sSf,by omega,bG⟩
 try simp only[ze]at aw
 refine zh rfl (za (R0 fun _=>st (aS (Iv 1) (zd (zj (zK mR (show _=(Iv 1:Value)from rfl) ?_))))))
 refine⟨1,rfl,?_,?_,(p.s3_)⟩
 decide
 intro D
 exact absurd D dc
 try simp only[ze]at Y
 refine zh rfl (za (R0 fun _=>st (aS (Iv 1) (zd (zj (zK mR (show _=(Iv 1:Value)from rfl) ?_))))))
 refine⟨1,rfl,?_,?_,(g.s2_)⟩
 decide
 intro D
 exact absurd D dc
 try simp only[ze]at aA
 refine zh rfl (za (R0 fun _=>st (aS (Iv 2) (zd (zj (zK mR (show _=(Iv 2:Value)from rfl) ?_))))))
 refine⟨2,rfl,?_,?_,(g.s2_)⟩
 decide
 intro D
 exact absurd D dc
theorem zaY:Elem Tryz.prog 108 136 4 32:=⟨nT,_,_,rfl,rfl,rfl,rfl,rfl⟩
theorem zaC {G:Nat→Prop}{W w:World}{Rs:List HP}{d:Dcl}{dd0:Value}(hdd0:RdS W G dd0 d.types){dd1:Value}(hdd1:RdS W G dd1 d.projs)(od:d.Ok){ty:Int}(hty:InR ty){fi:Int}(hfi:InR fi)(hS0:Sep G W Rs w):Ret Tryz.prog 48 [.agg (d.cells dd0 dd1).toArray,.int .i64 (ty),.int .i64 (fi)] w (fun r w'=> ∃(c1:Int) (c2:Int) (c3:Bool) (dx:Value) (b:Bool),r=(.tuple #[.agg #[.int .i64 (c1),.int .i64 (c2),.bool c3,dx],.bool b]:Value)∧(dx.oneCell'=true)∧(b=true→(0≤ty∧ty<d.types.length)∧0≤fi∧fi<(d.types.getD ty.toNat default).fields.length)∧Sep G W Rs w'):=by
 let aP:=zI W (sb dd0) (so dd0+ty.toNat*1+0)
 let aQ:=zI W (sb aP) (so aP+fi.toNat*4+3)
 have hdd0s:_*24≤_:=hdd0.small
 have hdd1s:_*40≤_:=hdd1.small
 refine zi (args:=[.agg (d.cells dd0 dd1).toArray,Iv ty,Iv fi]) Tryz.func48 rfl rfl ?_
 refine za (R0 fun _=>st (zN (v:=.agg (d.cells dd0 dd1).toArray) rfl ?_))
 intro w3 b2 aL
 refine st (zt tY ?_)
 intro w7 S aM
 have g:=(hS0.new aL).new aM
 refine st (aS (.bool false) (zd (za (za (zz kr (st (mV (Iv ty) (st (zJ (k:=.i64) (a:=ty) (b:=0) rfl rfl (st (mV (.bool (decide (ty<0))) (stc (V:=Iv ty) rfl rfl (fun aN=>?_) ?_))))))))))))
 have hl10:=fD aN
 exact mV (Iv ty) ⟨rfl,rfl⟩
 refine stc (V:=Ix b2 0) rfl rfl (fun ai=>?_) ?_
 have hl12:=fD ai
 exact yG rfl ⟨rfl,rfl⟩
 refine stc (V:=dd0) rfl rfl (fun A=>?_) ?_
 have hl14:=fD A
 exact lD dd0 pT (if_pos A) (zb (g.b1) rfl) ⟨rfl,rfl⟩
 refine stc (V:=Iw d.types.length) rfl rfl (fun B=>?_) ?_
 have hl16:=fD B
 exact zR (n:=d.types.length) qT (if_pos B) hdd0.sl ⟨rfl,rfl⟩
 refine stc (V:=.bool (decide (((d.types.length:Nat):Int)≤ty))) rfl rfl (fun q=>?_) ?_
 have hl18:=fD q
 exact xv (k:=.i64) (a:=ty) (b:=((d.types.length:Nat):Int)) (if_pos q) (if_pos q) ⟨rfl,rfl⟩
 refine st (zp (b:=decide (ty<0)) (b':=decide (((d.types.length:Nat):Int)≤ty)) rfl (fun hbp=>(if_pos hbp)) (st (mV (.bool ((decide (ty<0))||(decide (((d.types.length:Nat):Int)≤ty)))) (stc (V:=Iv fi) rfl rfl (fun aj=>?_) ?_))))
 have ak:=aj
 try simp only[ze]at ak
 exact mV (Iv fi) ⟨rfl,rfl⟩
 refine stc (V:=.bool (decide (fi<0))) rfl rfl (fun C=>?_) ?_
 have al:=C
 try simp only[ze]at al
 exact zJ (k:=.i64) (a:=fi) (b:=0) (if_pos C) rfl ⟨rfl,rfl⟩
 refine st (zp (b:=(decide (ty<0))||(decide (((d.types.length:Nat):Int)≤ty))) (b':=decide (fi<0)) rfl (fun hbp=>(if_pos hbp)) (st (mV (.bool (((decide (ty<0))||(decide (((d.types.length:Nat):Int)≤ty)))||(decide (fi<0)))) (stc (V:=Iv fi) rfl rfl (fun am=>?_) ?_))))
 have an:=am
 try simp only[ze]at an
 exact mV (Iv fi) ⟨rfl,rfl⟩
 refine stc (V:=Ix b2 0) rfl rfl (fun ao=>?_) ?_
 have ap:=ao
 try simp only[ze]at ap
 exact yG rfl ⟨rfl,rfl⟩
 refine stc (V:=dd0) rfl rfl (fun D=>?_) ?_
 have aq:=D
 try simp only[ze]at aq
 exact lD dd0 pT (if_pos D) (zb (g.b1) rfl) ⟨rfl,rfl⟩
 refine stc (V:=Iv ty) rfl rfl (fun ar=>?_) ?_
 have au:=ar
 try simp only[ze]at au
 exact mV (Iv ty) ⟨rfl,rfl⟩
 refine stc (V:=Ix (sb dd0) (so dd0+ty.toNat*1)) rfl rfl (fun s=>?_) ?_
 have av:=s
 try simp only[ze]at av
 have hi33:ty.toNat<d.types.length:=bo
 exact zA (k:=1) (i:=ty) qT tT (if_pos s) hdd0.sl (if_pos s) ⟨by omega,by omega⟩ ⟨rfl,rfl⟩
 refine stc (V:=Ix (sb dd0) (so dd0+ty.toNat*1)) rfl rfl (fun E=>?_) ?_
 have aw:=E
 try simp only[ze]at aw
 exact xe (if_pos E) ⟨rfl,rfl⟩
 refine stc (V:=aP) rfl rfl (fun F=>?_) ?_
 have ax:=F
 try simp only[ze]at ax
 have H:ty.toNat<d.types.length:=bo
 obtain⟨T,z,hoke38⟩:=hdd0.typD H
 have hsm40:((d.types.getD ty.toNat default).fields).length*48≤140737488355328:=z.small
 have U:=g.cells T (hdd0.foot (ne_of_lt H))
 exact lD aP sT (if_pos F) (U.get (j:=0) rfl) ⟨rfl,rfl⟩
 refine stc (V:=Iw (((d.types.getD ty.toNat default).fields).length)) rfl rfl (fun I=>?_) ?_
 have ay:=I
 try simp only[ze]at ay
 have J:ty.toNat<d.types.length:=bo
 obtain⟨X,l,hoke44⟩:=hdd0.typD J
 have hsm46:((d.types.getD ty.toNat default).fields).length*48≤140737488355328:=l.small
 have hcw47:=g.cells X (hdd0.foot (ne_of_lt J))
 exact zR (n:=((d.types.getD ty.toNat default).fields).length) mT (if_pos I) l.sl ⟨rfl,rfl⟩
 refine stc (V:=.bool (decide (((((d.types.getD ty.toNat default).fields).length:Nat):Int)≤fi))) rfl rfl (fun t=>?_) ?_
 have az:=t
 try simp only[ze]at az
 exact xv (k:=.i64) (a:=fi) (b:=((((d.types.getD ty.toNat default).fields).length:Nat):Int)) (if_pos t) (if_pos t) ⟨rfl,rfl⟩
 refine st (zp (b:=((decide (ty<0))||(decide (((d.types.length:Nat):Int)≤ty)))||(decide (fi<0))) (b':=decide (((((d.types.getD ty.toNat default).fields).length:Nat):Int)≤fi)) rfl (fun hbp=>(if_pos hbp)) (zd ?_))
 cases K:(((decide (ty<0))||(decide (((d.types.length:Nat):Int)≤ty)))||(decide (fi<0)))||(decide (((((d.types.getD ty.toNat default).fields).length:Nat):Int)≤fi))
 try simp only[ze]at K
 refine zg rfl (zl (za (R0 fun _=>st (yG rfl (st (lD dd0 pT rfl (zb (g.b1) rfl) (st (mV (Iv ty) ?_))))))))
 have hi51:ty.toNat<d.types.length:=bo
 refine st (zA (k:=1) (i:=ty) qT tT rfl hdd0.sl rfl ⟨by omega,by omega⟩ (st (xe rfl ?_)))
 have L:ty.toNat<d.types.length:=bo
 obtain⟨Y,f,hoke52⟩:=hdd0.typD L
 have hsm54:((d.types.getD ty.toNat default).fields).length*48≤140737488355328:=f.small
 have Z:=g.cells Y (hdd0.foot (ne_of_lt L))
 refine st (lD aP sT rfl (Z.get (j:=0) rfl) (st (mV (Iv fi) ?_)))
 have hi56:fi.toNat<((d.types.getD ty.toNat default).fields).length:=bo
 refine st (zA (k:=4) (i:=fi) mT lT rfl f.sl rfl ⟨by omega,by omega⟩ ?_)
 have M:fi.toNat<((d.types.getD ty.toNat default).fields).length:=bo
 obtain⟨aa,e,p⟩:=f.fldD M
 have hsm59:((((d.types.getD ty.toNat default).fields).getD fi.toNat default).moves).length*32≤140737488355328:=e.small
 have ab:=g.cells aa (f.foot (ne_of_lt M))
 refine st (zf (k:=4) lR lT rfl rfl ab (st (zt tY ?_)))
 intro w63 ag aA
 have N:=g.new aA
 refine stn (zq (v:=.agg ((((d.types.getD ty.toNat default).fields).getD fi.toNat default).cells aQ).toArray) (c':=((((d.types.getD ty.toNat default).fields).getD fi.toNat default).cells aQ).toArray) lT rfl rfl (N.b0) (ye ⟨rfl,rfl,rfl,e.sl.one,trivial⟩) yqc rfl ?_)
 intro w65 aB
 refine zd (za (R0 fun _=>st (aS (Iz) (zd (za (za (R0 fun _=>st (aS (Iv 0) (zd (zx ?_))))))))))
 have aC:Sep _ _ ((RowE (α:=Mv) own 136 (Iz) ([]:List Mv))::_) _:=(N.pt0 aB).rowNil own 136
 refine yq (fun mq σ wq=> ∃(k:Nat) (vm:Value) (ρ:Env),mq=((d.types.getD ty.toNat default).fields.getD fi.toNat default).moves.length-k∧σ=yi ρ [(3,Ix b2 0),(6,Ix S 0),(8,Ix ag 0),(10,Iw k),(9,vm)]∧(k≤((d.types.getD ty.toNat default).fields.getD fi.toNat default).moves.length)∧Sep G W ((RowE (α:=Mv) own 136 vm (((d.types.getD ty.toNat default).fields.getD fi.toNat default).moves.take k))::(Blk ag ((((d.types.getD ty.toNat default).fields).getD fi.toNat default).cells (zI W (sb (zI W (sb dd0) (so dd0+ty.toNat*1+0))) (so (zI W (sb dd0) (so dd0+ty.toNat*1+0))+fi.toNat*4+3))).toArray 110)::(Blk S #[Iv 0,Iv 0,.bool false,(Iz)] 110)::(Blk b2 (d.cells dd0 dd1).toArray 25)::Rs) wq) ⟨0,(Iz),_,rfl,sSf,Nat.zero_le _,aC⟩ ?_
 rintro m70 σ71 w69 ⟨k,vm,ρl1,rfl,rfl,hkk,h⟩
 have m:=h.r0
 have hr73s:_*32≤_:=m.2
 refine za (za (R0 fun _=>st (mV (Iw k) (st (yL rfl (st (lD aQ oT rfl (zb (h.b1) rfl) (st (zR (n:=((((d.types.getD ty.toNat default).fields).getD fi.toNat default).moves).length) nT rfl e.sl (st (zJ (k:=.i64) (a:=((k:Nat):Int)) (b:=((((((d.types.getD ty.toNat default).fields).getD fi.toNat default).moves).length:Nat):Int)) rfl rfl (zd ?_))))))))))))
 cases o:decide (((k:Nat):Int)<((((((d.types.getD ty.toNat default).fields).getD fi.toNat default).moves).length:Nat):Int))
 have o:=fD o
 refine zg rfl (yr (yg (za (R0 fun _=>st (mV vm (st (yL rfl (stn (yz (v:=vm) (c:=[Iv ((((d.types.getD ty.toNat default).fields).getD fi.toNat default).kind),Iv ((((d.types.getD ty.toNat default).fields).getD fi.toNat default).policy),.bool ((((d.types.getD ty.toNat default).fields).getD fi.toNat default).floor),aQ]) (c':=[Iv ((((d.types.getD ty.toNat default).fields).getD fi.toNat default).kind),Iv ((((d.types.getD ty.toNat default).fields).getD fi.toNat default).policy),.bool ((((d.types.getD ty.toNat default).fields).getD fi.toNat default).floor),vm]) Tryz.sizeOf108 rfl rfl (h.b1) m.1.one rfl rfl ?_)))))))))
 intro w75 aD
 have ok77:Fld.Ok (⟨(((d.types.getD ty.toNat default).fields).getD fi.toNat default).kind,(((d.types.getD ty.toNat default).fields).getD fi.toNat default).policy,(((d.types.getD ty.toNat default).fields).getD fi.toNat default).floor,((d.types.getD ty.toNat default).fields.getD fi.toNat default).moves.take k⟩:Fld):=⟨(show InR ((((d.types.getD ty.toNat default).fields).getD fi.toNat default).kind)from p.kind),(show InR ((((d.types.getD ty.toNat default).fields).getD fi.toNat default).policy)from p.policy)⟩
 have u:=h.pt1 aD
 refine zd (za (R0 fun _=>st (zf (k:=4) lR lT rfl rfl (CellsAt.all (u.b1)) (stn (zq (v:=.agg ((⟨(((d.types.getD ty.toNat default).fields).getD fi.toNat default).kind,(((d.types.getD ty.toNat default).fields).getD fi.toNat default).policy,(((d.types.getD ty.toNat default).fields).getD fi.toNat default).floor,((d.types.getD ty.toNat default).fields.getD fi.toNat default).moves.take k⟩:Fld).cells vm).toArray) (c':=((⟨(((d.types.getD ty.toNat default).fields).getD fi.toNat default).kind,(((d.types.getD ty.toNat default).fields).getD fi.toNat default).policy,(((d.types.getD ty.toNat default).fields).getD fi.toNat default).floor,((d.types.getD ty.toNat default).fields.getD fi.toNat default).moves.take k⟩:Fld).cells vm).toArray) lT rfl rfl (u.b2) (ye ⟨rfl,rfl,rfl,m.1.one,trivial⟩) yqc rfl ?_)))))
 intro aO aE
 have O:=u.pt2 aE
 refine st (aS (.bool true) (zd (zj (ZJ (b:=S) uY lR lT rfl rfl (CellsAt.all (O.b2)) (show _=(.bool true:Value)from rfl) ?_))))
 have aF:Sep G W Rs aO:=O.sel 4 [] (Nat.le_add_left _ _) rfl rfl
 refine⟨(((d.types.getD ty.toNat default).fields).getD fi.toNat default).kind,(((d.types.getD ty.toNat default).fields).getD fi.toNat default).policy,(((d.types.getD ty.toNat default).fields).getD fi.toNat default).floor,vm,true,rfl,?_,?_,aF⟩
 exact m.1.one
 intro _;omega
 have o:=tD o
 refine zh rfl (zl (za (zx (R0 fun _=>st (mV vm (st (yL rfl (st (lD aQ oT rfl (zb (h.b1) rfl) (st (mV (Iw k) ?_)))))))))))
 have aG:k<((((d.types.getD ty.toNat default).fields).getD fi.toNat default).moves).length:=bo
 refine st (zm (k:=4) (i:=k) nT rT rfl e.sl rfl aG ?_)
 have P:k<((((d.types.getD ty.toNat default).fields).getD fi.toNat default).moves).length:=bo
 obtain⟨ac,Q⟩:=e.mvD P
 have ad:=h.cells ac (e.foot (ne_of_lt P))
 refine st (zf (k:=4) rY rT rfl rfl ad (st (zY (k:=4) (parts':=[(0,.agg ((((((d.types.getD ty.toNat default).fields).getD fi.toNat default).moves).getD k default).cells).toArray)]) (c:=((((((d.types.getD ty.toNat default).fields).getD fi.toNat default).moves).getD k default).cells).toArray) nT rT sY dc rfl kr ?_)))
 intro w89 b88 aH
 have R:=h.new aH
 have ae:=R.b0
 refine st (xg (src:=own) (bytes:=32) (x1:=(((((d.types.getD ty.toNat default).fields).getD fi.toNat default).moves).getD k default)) ((R.s5_bcde).emp1) zaY rfl rfl ae (fun _ _ _=>(show _ from⟨rfl,Q⟩)) yqb rfl ?_)
 intro ah w91 x
 have aI:=x.r0
 have hr97s:_*32≤_:=aI.2
 refine st (aS ah (zd (R0 fun _=>st (mV (Iw k) ?_))))
 have aJ:InR ((k+1:Nat):Int):=bo
 refine st (yb (r:=((k+1:Nat):Int)) (k:=.i64) (a:=((k:Nat):Int)) (b:=1) rfl rfl (by rw[show(((k:Nat):Int)+1:Int)=((k+1:Nat):Int)from bo];exact zM aJ) (st (aS (Iw (k+1)) (zd ?_))))
 have aK:(((d.types.getD ty.toNat default).fields.getD fi.toNat default).moves.take (k+1))=(((d.types.getD ty.toNat default).fields.getD fi.toNat default).moves.take k)++[(((((d.types.getD ty.toNat default).fields).getD fi.toNat default).moves).getD k default)]:=(List.take_getD om)
 rw[←aK]at x
 exact⟨_,by omega,k+1,ah,_,rfl,sSf,by omega,x⟩
 try simp only[ze]at K
 refine zh rfl (za (R0 fun _=>?_))
 have ok100:Fld.Ok (⟨0,0,false,[]⟩:Fld):=⟨(show InR (0)from dc),(show InR (0)from dc)⟩
 refine st (zP (parts':=[]) (v:=.agg ((⟨0,0,false,[]⟩:Fld).cells (Iz)).toArray) rfl (by simp+zetaDelta [Instr.build,Instr.fill,Ev.cells,go_sem,Mv.cells,Fld.cells,Typ.cells,Prj.cells,Dcl.cells,Cel.cells,AskR.cells]) (stn (zq (v:=.agg ((⟨0,0,false,[]⟩:Fld).cells (Iz)).toArray) (c':=((⟨0,0,false,[]⟩:Fld).cells (Iz)).toArray) lT rfl rfl (g.b0) (ye ⟨rfl,rfl,rfl,rfl,trivial⟩) yqc rfl ?_)))
 intro w101 af
 have y:=g.pt0 af
 refine st (aS (.bool false) (zd (zj (ZJ (b:=S) uY lR lT rfl rfl (CellsAt.all (y.b0)) (show _=(.bool false:Value)from rfl) ?_))))
 refine⟨0,0,false,(Iz),false,rfl,?_,?_,(y.s2_)⟩
 rfl
 intro h9;cases h9
end
end Go.Proofs.YtbbabhaalmkbkaaGreatDoor
