import Derived.Test.YtpdolkiohjdodaaGreatDoorM4
import Derived.Lib.LaidTab
import Derived.LaidMore
import Derived.LaidLaws
import Derived.Stop.Joined
import Derived.Test.YtpdolkiohjdodaaGreatDoorRows
import Derived.OpenShut
import Derived.MakeChecks
set_option maxRecDepth 8000
set_option maxHeartbeats 4000000
set_option linter.unusedSimpArgs false
set_option linter.unusedVariables false
set_option linter.unusedSectionVars false
set_option linter.deprecated false
open Go.Proofs.Tryz renaming underlying53→kT,sizeOf3→lT,isAgg3→mT,sizeOf87→nT,underlying46→oT,results95→pT,zeroValue3→qT,sizeOf105→rT,isAgg87→sT,call115→tT,results8→uT,results51→vT,isAgg81→wT,underlying81→kR,underlying85→lR,zeroValue87→mR,isAgg22→nR,underlying22→oR,results114→pR,results90→qR,results35→rR,sizeOf83→sR,isAgg85→tR,underlying174→uR
namespace Go.Proofs.YtpdolkiohjdodaaGreatDoor
variable {G:Nat→Prop}{W w:World}{Rs:List HP}
section
open Go.Proofs Go.RowKit
theorem Yl {x:Int}(hx:InR x){n:Nat}(hn:1≤n∧n≤281474976710656)(hS0:Sep G W Rs w):Ret Tryz.prog 8 [.int .i64 (x),.int .i64 ((n:Nat):Int)] w (fun r w'=> ∃(q:Nat),r=(.int .i64 ((q:Nat):Int):Value)∧(q<n)∧Sep G W Rs w'):=by
 refine zn Tryz.func8 rfl rfl ?_
 refine za (R0 fun _=>st (aS (Iv 0) (zb (za (za (R0 fun _=>st (mV (Iw n) (st (zK rfl rfl (zb ?_))))))))))
 cases d:decide (((n:Nat):Int)<1)
 have d:=fD d
 refine ze rfl (zp (za (R0 fun _=>st (mV (Iv x) (st (mV (Iw n) ?_))))))
 have f:(0:Int)<((n:Nat):Int):=by omega
 have h:=Int.tmod_lt_of_pos x f;have i:=Int.lt_tmod_of_pos x f
 obtain⟨c,g⟩: ∃z,Int.tmod x ((n:Nat):Int)=z:=⟨_,rfl⟩;rw[g]at h i
 refine st (zaK (r:=c) rfl rfl f g (st (aS (Iv c) (zb (za (za (R0 fun _=>st (mV (Iv c) (st (zK rfl rfl (zb ?_)))))))))))
 cases e:decide (c<0)
 have e:=fD e
 refine ze rfl (zp (za (R0 fun _=>st (mV (Iv c) (st (aS (Iv c) (zb (zq (zU uT (show _=(Iv c:Value)from rfl) ?_)))))))))
 refine⟨(c).toNat,?_,?_,hS0⟩
 rw[Int.toNat_of_nonneg (by omega)]
 omega
 have e:=tD e
 refine zg rfl (R0 fun _=>st (mV (Iv c) (st (mV (Iw n) ?_))))
 have j:InR (c+((n:Nat):Int)):=by omega
 refine st (zO rfl rfl (zw j) (st (aS (Iv (c+((n:Nat):Int))) (zb (za (R0 fun _=>st (mV (Iv (c+((n:Nat):Int))) (st (aS (Iv (c+((n:Nat):Int))) (zb (zq (zU uT (show _=(Iv (c+((n:Nat):Int)):Value)from rfl) ?_))))))))))))
 refine⟨(c+((n:Nat):Int)).toNat,?_,?_,hS0⟩
 rw[Int.toNat_of_nonneg (by omega)]
 omega
 have d:=tD d
 refine zg rfl (za (R0 fun _=>st (aS (Iv 0) (zb (zq (zU uT rfl ?_))))))
 refine⟨0,?_,?_,hS0⟩
 exfalso;omega
 omega
theorem XC {α:Type}{a b:List α}{d:α}(hl:a.length=b.length)(h: ∀i,i<a.length→a.getD i d=b.getD i d):a=b:=by
 refine List.ext_getElem hl (fun i h1 h2=>?_)
 have:=h i h1
 rwa [zJ _ h1,zJ _ h2]at this
theorem VD {vl:Value}{l:List Int}(hl:RdS W G vl l)(hS0:Sep G W Rs w):Ret Tryz.prog 62 [vl] w (fun r w'=> ∃(v:Value),r=(v:Value)∧Sep G W ((RowE (α:=Int) own 3 v l)::Rs) w'):=by
 have hls:_*8≤_:=hl.small
 refine zn Tryz.func62 rfl rfl ?_
 refine za (R0 fun _=>st (aS Iz (zb (za (R0 fun _=>st (aS Iz (zb (za (za (R0 fun _=>st (aS (Iv 0) (zb (zt ?_)))))))))))))
 have z:Sep G W ((RowE (α:=Int) own 3 Iz [])::Rs) w:=hS0.rowNil own 3
 refine zZ (fun mq σ D=> ∃k vo ρ,mq=l.length-k∧σ=yf ρ [(0,vl),(4,Iw k),(3,vo)]∧(k≤l.length)∧Sep G W ((RowE own 3 vo (l.take k))::Rs) D) ⟨0,(Iz),_,rfl,sSf,zY _,z⟩ ?_
 rintro m3 σ4 w2 ⟨k,vo,ρl1,rfl,rfl,hkk,d⟩
 have A:=d.r0
 have hr6s:_*8≤_:=A.2
 refine za (za (R0 fun _=>st (mV (Iw k) (st (mV vl (st (zC kT rfl hl.sl (st (zK rfl rfl (zb ?_))))))))))
 cases f:decide (((k:Nat):Int)<((l.length:Nat):Int))
 have f:=fD f
 refine ze rfl (ya (zR (za (R0 fun _=>st (mV vo (st (aS vo (zb (zq (zU Tryz.results62 (show _=(vo:Value)from rfl) ?_))))))))))
 have B:k=l.length:=by omega
 rw[B,List.take_length]at d
 refine⟨vo,rfl,d⟩
 have f:=tD f
 refine zg rfl (zp (za (zt (R0 fun _=>st (mV vo (st (mV vl (st (mV (Iw k) ?_)))))))))
 have C:k<l.length:=bo
 refine st (zf (k:=1) kT lT rfl hl.sl rfl C ?_)
 have g:k<l.length:=bo
 obtain⟨q,s⟩:=hl.intD g
 have m:=d.cells q (hl.foot (ne_of_lt g))
 refine st (lD (Iv ((l.getD k 0))) mT rfl (m.get (j:=0) rfl) (st (zH (c:=#[Iv ((l.getD k 0))]) kT lT qT dc rfl kr ?_)))
 intro w14 b13 t
 have h:=d.new t
 have o:=h.b0
 refine st (yq (src:=own) (bytes:=8) (x1:=(l.getD k 0)) ((h.s2_b).emp1) QU rfl rfl o (fun _ _ _=>(show _ from⟨rfl,s⟩)) yqb rfl ?_)
 intro p w16 e
 have u:=e.r0
 have hr22s:_*8≤_:=u.2
 refine st (aS p (zb (R0 fun _=>st (mV (Iw k) ?_))))
 have x:InR ((k+1:Nat):Int):=bo
 refine st (zO (r:=((k+1:Nat):Int)) rfl rfl (by rw[show(((k:Nat):Int)+1:Int)=((k+1:Nat):Int)from bo];exact zw x) (st (aS (Iw (k+1)) (zb ?_))))
 have y:(l.take (k+1))=(l.take k)++[(l.getD k 0)]:=(List.take_getD om)
 rw[←y]at e
 exact⟨_,by omega,k+1,p,_,rfl,sSf,by omega,e⟩
theorem Vh {va:Value}{a:List Int}(ha:RdS W G va a){vb:Value}{b:List Int}(hb:RdS W G vb b)(hS0:Sep G W Rs w):Ret Tryz.prog 51 [va,vb] w (fun r w'=>r=(.bool (decide (a=b)):Value)∧Sep G W Rs w'):=by
 have has:_*8≤_:=ha.small
 have hbs:_*8≤_:=hb.small
 refine zn Tryz.func51 rfl rfl ?_
 refine za (R0 fun _=>st (aS (.bool false) (zb (za (za (R0 fun _=>st (mV va (st (zC kT rfl ha.sl (st (mV vb (st (zC kT rfl hb.sl (st (yy rfl rfl (zb ?_))))))))))))))))
 cases d: !decide (((a.length:Nat):Int)=((b.length:Nat):Int))
 have d:=zQ d
 refine ze rfl (zp (za (za (R0 fun _=>st (aS (Iv 0) (zb (zt (zZ (fun mq σ I=> ∃k ρ,mq=a.length-k∧σ=yf ρ [(0,va),(1,vb),(5,Iw k)]∧(k≤a.length)∧(∀i,i<k→a.getD i 0=b.getD i 0)∧Sep G W Rs I) ⟨0,_,rfl,sSf,zY _,(fun i h=>absurd h (yO i)),hS0⟩ ?_))))))))
 rintro m3 σ4 w2 ⟨k,ρl1,rfl,rfl,hkk,hm,H⟩
 refine za (za (R0 fun _=>st (mV (Iw k) (st (mV va (st (zC kT rfl ha.sl (st (zK rfl rfl (zb ?_))))))))))
 cases f:decide (((k:Nat):Int)<((a.length:Nat):Int))
 have f:=fD f
 refine ze rfl (ya (zR (za (R0 fun _=>st (aS (.bool true) (zb (zq (zU vT (show _=(.bool true:Value)from rfl) ?_))))))))
 refine⟨?_,H⟩
 rw[decide_eq_true (XC (by omega) (fun i hi=>hm i (by omega)))]
 have f:=tD f
 refine zg rfl (zp (za (zt (za (WD4 (WF [fun vals I=>Sep G W Rs I]) (AF [Vl 0 va,Vl 1 (Iw k),Vl 2 (Ix (sb va) (so va+k*1)),Vl 3 (Iv ((a.getD k 0))),Vl 4 vb,Vl 5 (Iw k),Vl 6 (Ix (sb vb) (so vb+k*1)),Vl 7 (Iv ((b.getD k 0))),Vl 8 (.bool (!decide ((a.getD k 0)=(b.getD k 0))))]) [[],[],[0,1],[0,1,2],[],[],[4,5],[4,5,6],(rg 8)] [] [(0,0),(0,0),(0,0),(0,0),(0,0),(0,0),(0,0),(0,0),(0,0)] H ⟨fun _ _ _ _ _ _ _=>obl rfl (mV va dR),fun _ _ _ _ _ _ _=>obl rfl (mV (Iw k) dR),?_,?_,fun _ _ _ _ _ _ _=>obl rfl (mV vb dR),fun _ _ _ _ _ _ _=>obl rfl (mV (Iw k) dR),?_,?_,ob1 0 fun _ _ _ g=>obl rfl (yy (g 3 dc) (g 7 dc) dR),zl⟩ ?_)))))
 refine ob1 0 fun _ _ _ q=>(obl rfl ?_)
 have x:k<a.length:=bo
 exact zf (k:=1) kT lT (q 0 dc) ha.sl (q 1 dc) x dR
 refine ob1 0 fun _ _ (y:Sep _ _ _ _) z=>(obl rfl ?_)
 have l:k<a.length:=bo
 obtain⟨s,hxe112⟩:=ha.intD l
 have t:=y.cells s (ha.foot (ne_of_lt l))
 exact lD (Iv ((a.getD k 0))) mT (z 2 dc) (t.get (j:=0) rfl) dR
 refine ob1 0 fun _ _ _ m=>(obl rfl ?_)
 have A:k<b.length:=bo
 exact zf (k:=1) kT lT (m 4 dc) hb.sl (m 5 dc) A dR
 refine ob1 0 fun _ _ (B:Sep _ _ _ _) C=>(obl rfl ?_)
 have o:k<b.length:=bo
 obtain⟨u,hxe145⟩:=hb.intD o
 have v:=B.cells u (hb.foot (ne_of_lt o))
 exact lD (Iv ((b.getD k 0))) mT (C 6 dc) (v.get (j:=0) rfl) dR
 intro vals w157 D E
 have p:=D
 have J:=E 8 dc
 refine yg (kv:=[(0,va),(1,vb),(5,Iw k),(11,Iw k),(12,va),(13,Iw a.length),(14,.bool true),(25,.bool (!decide ((a.getD k 0)=(b.getD k 0))))]) ⟨rfl,rfl,rfl,rfl,rfl,rfl,rfl,(by exact J),zl⟩ (fun ρw157=>(zb ?_))
 cases c: !decide ((a.getD k 0)=(b.getD k 0))
 have c:=zQ c
 refine ze rfl (zp (R0 fun _=>st (mV (Iw k) ?_)))
 have F:InR ((k+1:Nat):Int):=bo
 refine st (zO (r:=((k+1:Nat):Int)) rfl rfl (by rw[show(((k:Nat):Int)+1:Int)=((k+1:Nat):Int)from bo];exact zw F) (st (aS (Iw (k+1)) (zb ?_))))
 exact⟨_,by omega,k+1,_,rfl,sSf,by omega,(xf hm om),p⟩
 have c:=yn c
 refine zg rfl (za (R0 fun _=>st (aS (.bool false) (zb (zq (zU vT (show _=(.bool false:Value)from rfl) ?_))))))
 refine⟨?_,p⟩
 rw[decide_eq_false (fun e=>by subst e;omega)]
 have d:=yn d
 refine zg rfl (za (R0 fun _=>st (aS (.bool false) (zb (zq (zU vT (show _=(.bool false:Value)from rfl) ?_))))))
 refine⟨?_,hS0⟩
 rw[decide_eq_false (fun e=>by subst e;omega)]
end
section
open Go.RowKit
section
variable {G:Nat→Prop}{W w:World}{As:List HP}{T Ti:TypeId}{v:Value}{sh:List CelS}{l:List Cel}
theorem CelW.rowP {f:Nat→Prop}(h:(CelW v T Ti l).p w f):(RowE (α:=Cel) own T v l).p w f:=by
 obtain⟨sh,⟨hlen,hn⟩,hA⟩:=h
 obtain⟨fs,q1,q2⟩:=hA
 obtain⟨⟨css,hE,hown,hrow,hsm⟩,hf0⟩:=q1 0 _ rfl
 obtain⟨hSt,hf1⟩:=q1 1 _ rfl
 have q2':=q2 0 1 (by simp) (by simp) (by simp)
 have hcl:=hE.length
 refine⟨css,EP.of_at (by omega) (fun i h1 h2=>?_),by rw[←hlen];exact hown,fun b hb=>(hf0 b (hrow b hb)).1,by rw[←hlen];exact hsm⟩
 have hs:i<sh.length:=by omega
 obtain⟨hcs,hin,hone⟩:css[i]=sh[i].cells∧InR sh[i].n∧sh[i].v.oneCell'=true:=(EP.at2 hE i h1 hs).imp id (fun h=>⟨h.n,h.one⟩)
 have hr:(RowE (α:=Int) own Ti (sh.getD i default).v (l.getD i default).set).p w (fs 1):=Star.at_ hSt (SetRows.get hs h2)
 have hsoft:=RowE.soft hr
 have hni:=hn i h2
 rw[zJ _ hs,zJ _ h2]at hsoft hni
 refine⟨sh[i].v,?_,hsoft.mono (fun b hb hlt=>⟨rfl,⟨(hf1 b hb.1).1,fun e=>q2' b (hrow b e) hb.1⟩,hb.2⟩),⟨by rw[←hni];exact hin⟩⟩
 rw[hcs]
 show[Value.int .i64 sh[i].n,sh[i].v]=_
 rw[hni];rfl
theorem CelW.rd {f:Nat→Prop}(h:(CelW v T Ti l).p w f):RdS w f v l:=RowE.rd (CelW.rowP h)
end
end
section
open Go.Proofs Go.RowKit
def Zy (l:List Int)(n:Int)(b:Bool):List Int:=if b=true then l.filter (fun y=>decide (y<n))++n::l.filter (fun y=>decide (n<y))else l.filter (fun y=>decide (y≠n))
def XV (l:List Int)(n:Int)(b:Bool):Prop:=(b=false→ ∀y∈l,y≤n)∧(b=true→ ∃y∈l,n<y)
theorem w_le {l:List Int}{n:Int}(h: ∀y∈l,y≤n):l.filter (fun y=>decide (y≠n))=l.filter (fun y=>decide (y<n))∧l.filter (fun y=>decide (n<y))=[]:=by
 constructor
 ·refine List.filter_congr (fun y hy=>?_)
  have:=h y hy
  rw[decide_eq_decide];omega
 ·refine List.filter_eq_nil_iff.2 (fun y hy=>?_)
  have:=h y hy
  simp only[decide_eq_true_eq];omega
theorem KJ {l:List Int}{n x:Int}{b:Bool}(h:XV l n b)(hb:b=false)(hx:n<x):Zy (l++[x]) n true=Zy l n b++[n]++[x]∧XV (l++[x]) n true:=by
 subst hb
 obtain⟨e1,e2⟩:=w_le (h.1 rfl)
 refine⟨?_,fun h=>Bool.noConfusion h,fun _=>⟨x,by simp,hx⟩⟩
 unfold Zy
 rw[if_pos rfl,if_neg (by decide),e1,List.filter_append,List.filter_append,e2,List.filter_cons,List.filter_cons,if_neg (by simp;omega),if_pos (by simpa using hx)]
 simp
theorem KK {l:List Int}{n x:Int}{b:Bool}(h:XV l n b)(ha:Asc (l++[x]))(hc:b=true∨x≤n)(hx: ¬x=n):Zy (l++[x]) n b=Zy l n b++[x]∧XV (l++[x]) n b:=by
 cases b with
 |false=>
  have hxn:x≤n:=by rcases hc with h|h;·cases h
                   ·exact h
  refine⟨?_,fun _ y hy=>?_,fun h=>Bool.noConfusion h⟩
  ·unfold Zy
   rw[if_neg (by decide),if_neg (by decide),List.filter_append,List.filter_cons,if_pos (by simpa using hx)];rfl
  ·rcases List.mem_append.1 hy with hy|hy
   ·exact h.1 rfl y hy
   ·rw[List.mem_singleton.1 hy];exact hxn
 |true=>
  obtain⟨y,hy,hny⟩:=h.2 rfl
  have hyx:y<x:=(List.pairwise_append.1 ha).2.2 y hy x (List.mem_singleton.2 rfl)
  refine⟨?_,fun h=>Bool.noConfusion h,fun _=>⟨y,List.mem_append_left _ hy,hny⟩⟩
  unfold Zy
  rw[if_pos rfl,if_pos rfl,List.filter_append,List.filter_append,List.filter_cons,List.filter_cons,if_neg (by simp;omega),if_pos (by simp;omega)]
  simp
theorem Ux {l:List Int}{n x:Int}{b:Bool}(h:XV l n b)(hx:x=n):Zy (l++[x]) n b=Zy l n b∧XV (l++[x]) n b:=by
 subst hx
 refine⟨?_,fun hb y hy=>?_,fun hb=>?_⟩
 ·unfold Zy
  simp[List.filter_append,List.filter_cons]
 ·rcases List.mem_append.1 hy with hy|hy
  ·exact h.1 hb y hy
  ·rw[List.mem_singleton.1 hy];exact Int.le_refl _
 ·obtain⟨y,hy,hl⟩:=h.2 hb;exact⟨y,List.mem_append_left _ hy,hl⟩
theorem JT {l:List Int}(ha:Asc l)(n:Int):Zy l n true=ZW l n:=by
 unfold Zy
 rw[if_pos rfl]
 refine zcl ?_ (QL ha n) (fun y=>?_)
 ·refine List.pairwise_append.2 ⟨ha.filter _,List.pairwise_cons.2 ⟨fun y hy=>?_,ha.filter _⟩,fun a ha2 b hb=>?_⟩
  ·simpa using(List.mem_filter.1 hy).2
  ·have h1:a<n:=by simpa using(List.mem_filter.1 ha2).2
   rcases List.mem_cons.1 hb with rfl|hb
   ·exact h1
   ·have h2:n<b:=by simpa using(List.mem_filter.1 hb).2
    omega
 ·rw[zaX]
  simp only[List.mem_append,List.mem_cons,List.mem_filter,decide_eq_true_eq]
  constructor
  ·rintro(⟨h1,_⟩|rfl|⟨h1,_⟩)
   ·exact .inr h1
   ·exact .inl rfl
   ·exact .inr h1
  ·rintro(rfl|h1)
   ·exact .inr (.inl rfl)
   ·rcases Int.lt_trichotomy y n with h2|h2|h2
    ·exact .inl ⟨h1,h2⟩
    ·exact .inr (.inl h2)
    ·exact .inr (.inr ⟨h1,h2⟩)
theorem w_end {l:List Int}{n:Int}{b:Bool}(h:XV l n b)(hb:b=false)(ha:Asc l):Zy l n b++[n]=ZW l n:=by
 subst hb
 obtain⟨e1,e2⟩:=w_le (h.1 rfl)
 rw[←JT ha]
 unfold Zy
 rw[if_pos rfl,if_neg (by decide),e1,e2]
theorem XD {l:List Int}(h:Asc l)(k:Nat):Asc (l.take k):=h.sublist (List.take_sublist k l)
theorem w_ini (l:List Int)(n:Int):XV (l.take 0) n false:=by
 rw[List.take_zero]
 exact⟨fun _ y hy=>(List.not_mem_nil hy).elim,fun h=>Bool.noConfusion h⟩
theorem zam (l:List Int)(n:Int)(b:Bool):(Zy l n b).length≤l.length+1:=by
 have key: ∀l:List Int,(l.filter (fun y=>decide (y<n))).length+(l.filter (fun y=>decide (n<y))).length≤l.length:=by
  intro l
  induction l with
  |nil=>simp
  |cons x l ih=>
   rw[List.filter_cons,List.filter_cons]
   by_cases h1:x<n
   ·rw[if_pos (by simpa using h1),if_neg (by simp;omega)];simp only[List.length_cons];omega
   ·rw[if_neg (by simpa using h1)]
    split
    ·simp only[List.length_cons];omega
    ·simp only[List.length_cons];omega
 unfold Zy
 split
 ·have:=key l
  simp only[List.length_append,List.length_cons];omega
 ·have:=List.length_filter_le (fun y=>decide (y≠n)) l
  omega
theorem Zg {l:List Int}{k:Nat}(h:k<l.length):l.take (k+1)=l.take k++[l.getD k 0]:=by rw[List.take_succ_eq_append_getElem h,zJ _ h]
theorem zdz {vl:Value}{l:List Int}(hl:RdS W G vl l){n:Int}(hn:InR n)(hS0:Sep G W Rs w)(hasc:Asc l)(hfew:l.length≤1000):Ret Tryz.prog 90 [vl,.int .i64 (n)] w (fun r w'=> ∃(v:Value),r=(v:Value)∧Sep G W ((RowE (α:=Int) own 3 v (ZW l n))::Rs) w'):=by
 refine zn Tryz.func90 rfl rfl ?_
 refine za (R0 fun _=>st (aS Iz (zb (za (R0 fun _=>st (aS Iz (zb (za (R0 fun _=>st (aS (.bool false) (zb (za (za (R0 fun _=>st (aS (Iv 0) (zb (zt ?_)))))))))))))))))
 have aH:Sep G W ((RowE (α:=Int) own 3 Iz [])::Rs) w:=hS0.rowNil own 3
 refine zZ (fun mq σ wq=> ∃k vo ld ρ,mq=l.length-k∧σ=yf ρ [(0,vl),(1,Iv n),(5,vo),(6,.bool ld),(7,Iw k)]∧(k≤l.length)∧(XV (l.take k) n ld)∧Sep G W ((RowE own 3 vo (Zy (l.take k) n ld))::Rs) wq) ⟨0,Iz,false,_,rfl,sSf,zY _,(w_ini l n),aH⟩ ?_
 rintro m3 σ4 w2 ⟨k,vo,ld,ρl1,rfl,rfl,hk,hw,e⟩
 have aI:=e.r0
 have hwl:=zam (l.take k) n ld
 rw[List.length_take]at hwl
 refine za (za (R0 fun _=>st (mV (Iw k) (st (mV vl (st (zC kT rfl hl.sl (st (zK rfl rfl (zb ?_))))))))))
 cases A:decide (((k:Nat):Int)<((l.length:Nat):Int))
 have A:=fD A
 refine ze rfl (ya (zR (za (za (R0 fun _=>st (mV (.bool ld) (st (yD rfl (zb ?_)))))))))
 cases B: !ld
 try simp only[zi]at B
 refine ze rfl (zp (za (R0 fun _=>st (mV vo (st (aS vo (zb (zq (zU qR (show _=(vo:Value)from rfl) ?_)))))))))
 have p:k=l.length:=by omega
 rw[p,List.take_length]at e
 rw[p,List.take_length]at hw
 rw[B,JT hasc]at e
 refine⟨vo,rfl,e⟩
 try simp only[zi]at B
 refine zg rfl (R0 fun _=>st (mV vo (st (mV (Iv n) (st (zH (c:=#[Iv n]) kT lT qT dc rfl kr ?_))))))
 intro w11 b10 aJ
 have E:=e.new aJ
 have Q:=E.b0
 refine st (yq (src:=own) (bytes:=8) ((E.s2_b).emp1) QU rfl rfl Q (fun _ _ _=>(show _ from⟨rfl,hn⟩)) yqb rfl ?_)
 intro q w13 o
 have ag:=o.r0
 refine st (aS q (zb (za (R0 fun _=>st (mV q (st (aS q (zb (zq (zU qR (show _=(q:Value)from rfl) ?_))))))))))
 have p:k=l.length:=by omega
 rw[p,List.take_length]at o
 rw[p,List.take_length]at hw
 rw[w_end hw B hasc]at o
 refine⟨q,rfl,o⟩
 have A:=tD A
 refine zg rfl (zp (za (zt (za (za (zF kr (st (mV (.bool ld) (st (yD rfl (st (mV (.bool (!ld)) (stc (V:=vl) rfl rfl (fun ah=>?_) ?_)))))))))))))
 have ai:=ah
 try simp only[zi]at ai
 exact mV vl rflB
 refine stc (V:=Iw k) rfl rfl (fun aj=>?_) ?_
 have ak:=aj
 try simp only[zi]at ak
 exact mV (Iw k) rflB
 refine stc (V:=Ix (sb vl) (so vl+k*1)) rfl rfl (fun s=>?_) ?_
 have al:=s
 try simp only[zi]at al
 have am:k<l.length:=bo
 exact zf (k:=1) kT lT (ifpC s) hl.sl (ifpC s) am rflB
 refine stc (V:=Iv ((l.getD k 0))) rfl rfl (fun F=>?_) ?_
 have an:=F
 try simp only[zi]at an
 have H:k<l.length:=bo
 obtain⟨R,hxe29⟩:=hl.intD H
 have S:=e.cells R (hl.foot (ne_of_lt H))
 exact lD (Iv ((l.getD k 0))) mT (ifpC F) (S.get (j:=0) rfl) rflB
 refine stc (V:=Iv n) rfl rfl (fun ao=>?_) ?_
 have ap:=ao
 try simp only[zi]at ap
 exact mV (Iv n) rflB
 refine stc (V:=.bool (decide (n<(l.getD k 0)))) rfl rfl (fun t=>?_) ?_
 have aq:=t
 try simp only[zi]at aq
 exact xh (k:=.i64) (a:=(l.getD k 0)) (b:=n) (ifpC t) (ifpC t) rflB
 refine st (zx rfl (fun hbp=>(ifpC hbp)) (zb ?_))
 cases d:(!ld)&&(decide (n<(l.getD k 0)))
 try simp only[zi]at d
 refine ze rfl (zp (za (R0 fun _=>st (mV vl (st (mV (Iw k) ?_))))))
 have ar:k<l.length:=bo
 refine st (zf (k:=1) kT lT rfl hl.sl rfl ar ?_)
 have u:k<l.length:=bo
 obtain⟨C,T⟩:=hl.intD u
 have U:=e.cells C (hl.foot (ne_of_lt u))
 refine st (lD (Iv ((l.getD k 0))) mT rfl (U.get (j:=0) rfl) (st (mV (Iv n) (st (yy rfl rfl (zb ?_))))))
 cases f: !decide ((l.getD k 0)=n)
 have f:=zQ f
 refine ze rfl (zp (R0 fun _=>st (mV (Iw k) ?_)))
 have au:InR ((k+1:Nat):Int):=bo
 refine st (zO (r:=((k+1:Nat):Int)) rfl rfl (by rw[show(((k:Nat):Int)+1:Int)=((k+1:Nat):Int)from bo];exact zw au) (st (aS (Iw (k+1)) (zb ?_))))
 have I:Zy (l.take (k+1)) n ld=(Zy (l.take k) n ld)∧XV (l.take (k+1)) n ld:=by
  rw[Zg (by omega)]
  have m:Asc (l.take k++[l.getD k 0]):=by rw[←Zg (by omega)];exact XD hasc _
  first|(exfalso;omega)|exact KJ hw d.1 d.2|exact KK hw m d f|exact Ux hw f
 rw[←I.1]at e
 exact⟨_,by omega,k+1,vo,ld,_,rfl,sSf,by omega,I.2,e⟩
 have f:=yn f
 refine zg rfl (R0 fun _=>st (mV vo (st (mV vl (st (mV (Iw k) ?_))))))
 have av:k<l.length:=bo
 refine st (zf (k:=1) kT lT rfl hl.sl rfl av ?_)
 have X:=e.cells C (hl.foot (ne_of_lt u))
 refine st (lD (Iv ((l.getD k 0))) mT rfl (X.get (j:=0) rfl) (st (zH (c:=#[Iv ((l.getD k 0))]) kT lT qT dc rfl kr ?_)))
 intro w49 b48 aw
 have J:=e.new aw
 have Y:=J.b0
 refine st (yq (src:=own) (bytes:=8) ((J.s2_b).emp1) QU rfl rfl Y (fun _ _ _=>(show _ from⟨rfl,T⟩)) yqb rfl ?_)
 intro ae w51 x
 have ax:=x.r0
 refine st (aS ae (zb (R0 fun _=>st (mV (Iw k) ?_))))
 have ay:InR ((k+1:Nat):Int):=bo
 refine st (zO (r:=((k+1:Nat):Int)) rfl rfl (by rw[show(((k:Nat):Int)+1:Int)=((k+1:Nat):Int)from bo];exact zw ay) (st (aS (Iw (k+1)) (zb ?_))))
 have K:Zy (l.take (k+1)) n ld=(Zy (l.take k) n ld)++[(l.getD k 0)]∧XV (l.take (k+1)) n ld:=by
  rw[Zg (by omega)]
  have m:Asc (l.take k++[l.getD k 0]):=by rw[←Zg (by omega)];exact XD hasc _
  first|(exfalso;omega)|exact KJ hw d.1 d.2|exact KK hw m d f|exact Ux hw f
 rw[←K.1]at x
 exact⟨_,by omega,k+1,ae,ld,_,rfl,sSf,by omega,K.2,x⟩
 try simp only[zi]at d
 refine zg rfl (za (R0 fun _=>st (mV vo (st (mV (Iv n) (st (zH (c:=#[Iv n]) kT lT qT dc rfl kr ?_)))))))
 intro w62 b61 az
 have L:=e.new az
 have Z:=L.b0
 refine st (yq (src:=own) (bytes:=8) ((L.s2_b).emp1) QU rfl rfl Z (fun _ _ _=>(show _ from⟨rfl,hn⟩)) yqb rfl ?_)
 intro M w64 h
 have aA:=h.r0
 refine st (aS M (zb (R0 fun _=>st (aS (.bool true) (zb (za (R0 fun _=>st (mV vl (st (mV (Iw k) ?_))))))))))
 have aB:k<l.length:=bo
 refine st (zf (k:=1) kT lT rfl hl.sl rfl aB ?_)
 have y:k<l.length:=bo
 obtain⟨D,aa⟩:=hl.intD y
 have ab:=h.cells D (hl.foot (ne_of_lt y))
 refine st (lD (Iv ((l.getD k 0))) mT rfl (ab.get (j:=0) rfl) (st (mV (Iv n) (st (yy rfl rfl (zb ?_))))))
 cases g: !decide ((l.getD k 0)=n)
 have g:=zQ g
 refine ze rfl (zp (R0 fun _=>st (mV (Iw k) ?_)))
 have aC:InR ((k+1:Nat):Int):=bo
 refine st (zO (r:=((k+1:Nat):Int)) rfl rfl (by rw[show(((k:Nat):Int)+1:Int)=((k+1:Nat):Int)from bo];exact zw aC) (st (aS (Iw (k+1)) (zb ?_))))
 have N:Zy (l.take (k+1)) n true=(Zy (l.take k) n ld)++[n]∧XV (l.take (k+1)) n true:=by
  rw[Zg (by omega)]
  have m:Asc (l.take k++[l.getD k 0]):=by rw[←Zg (by omega)];exact XD hasc _
  first|(exfalso;omega)|exact KJ hw d.1 d.2|exact KK hw m d g|exact Ux hw g
 rw[←N.1]at h
 exact⟨_,by omega,k+1,M,true,_,rfl,sSf,by omega,N.2,h⟩
 have g:=yn g
 refine zg rfl (R0 fun _=>st (mV M (st (mV vl (st (mV (Iw k) ?_))))))
 have aD:k<l.length:=bo
 refine st (zf (k:=1) kT lT rfl hl.sl rfl aD ?_)
 have ac:=h.cells D (hl.foot (ne_of_lt y))
 refine st (lD (Iv ((l.getD k 0))) mT rfl (ac.get (j:=0) rfl) (st (zH (c:=#[Iv ((l.getD k 0))]) kT lT qT dc rfl kr ?_)))
 intro w83 b82 aE
 have O:=h.new aE
 have ad:=O.b0
 refine st (yq (src:=own) (bytes:=8) ((O.s2_b).emp1) QU rfl rfl ad (fun _ _ _=>(show _ from⟨rfl,aa⟩)) yqb rfl ?_)
 intro af w85 z
 have aF:=z.r0
 refine st (aS af (zb (R0 fun _=>st (mV (Iw k) ?_))))
 have aG:InR ((k+1:Nat):Int):=bo
 refine st (zO (r:=((k+1:Nat):Int)) rfl rfl (by rw[show(((k:Nat):Int)+1:Int)=((k+1:Nat):Int)from bo];exact zw aG) (st (aS (Iw (k+1)) (zb ?_))))
 have P:Zy (l.take (k+1)) n true=(Zy (l.take k) n ld)++[n]++[(l.getD k 0)]∧XV (l.take (k+1)) n true:=by
  rw[Zg (by omega)]
  have m:Asc (l.take k++[l.getD k 0]):=by rw[←Zg (by omega)];exact XD hasc _
  first|(exfalso;omega)|exact KJ hw d.1 d.2|exact KK hw m d g|exact Ux hw g
 rw[←P.1]at z
 exact⟨_,by omega,k+1,af,true,_,rfl,sSf,by omega,P.2,z⟩
theorem zdg {sh:List CelS}{c:List Cel}{k:Nat}{v:Value}(hlen:sh.length=c.length)(hn: ∀i,i<k→(sh.getD i default).n=(c.getD i default).n)(hk:k<c.length): ∀i,i<k+1→((sh.set k ⟨(c.getD k default).n,v⟩).getD i default).n=(c.getD i default).n:=by
 intro i hi
 by_cases e:i=k
 ·subst e;rw[Xj (by omega)]
 ·rw[Ws (fun h=>e h.symm)];exact hn i (by omega)
theorem zdF {vc:Value}{c:List Cel}(hc:RdS W G vc c)(hS0:Sep G W Rs w):Ret Tryz.prog 89 [vc] w (fun r w'=> ∃(v:Value),r=(v:Value)∧Sep G W ((CelW v 105 3 c)::Rs) w'):=by
 have hcs:_*32≤_:=hc.small
 refine zn Tryz.func89 rfl rfl ?_
 refine za (R0 fun _=>st (aS Iz (zb (za (R0 fun _=>st (mV vc (st (zC (n:=c.length) oT rfl hc.sl (st (Yv (α:=CelS) (T:=105) (bytes:=32) (n:=c.length) (x1:=(⟨0,Iz⟩:CelS)) oT ⟨_,_,rfl,rfl,rfl,rfl,rfl,fun _ _=>⟨rfl,⟨by decide,rfl⟩⟩⟩ rfl rfl rfl (by show c.length*32≤140737488355328;omega) ?_))))))))))
 intro w6 g aW he3 hl4 aX
 let aV:=Iy g c.length c.length
 have aL:Sep G W ((RowE (α:=CelS) own 105 aV (List.replicate c.length (⟨0,Iz⟩:CelS)))::Rs) w6:=hS0.made aW aX
 have aY:=aL.r0
 refine st (aS aV (zb (za (za (R0 fun _=>st (aS (Iv 0) (zb (zt ?_))))))))
 have aZ:Sep G W ((Star [])::(RowE (α:=CelS) own 105 aV (List.replicate c.length (⟨0,Iz⟩:CelS)))::Rs) w6:=aL.nilStar
 refine zZ (fun mq σ B=> ∃k shk ρ,mq=c.length-k∧σ=yf ρ [(0,vc),(3,(Iy g c.length c.length)),(4,Iw k)]∧(k≤c.length)∧(shk.length=c.length)∧(∀i,i<k→(shk.getD i default).n=(c.getD i default).n)∧Sep G W ((RowE own 105 (Iy g c.length c.length) shk)::(Star (SetRows 3 (shk.take k) (c.take k)))::Rs) B) ⟨0,List.replicate c.length (⟨0,Iz⟩:CelS),_,rfl,sSf,zY _,by rw[List.length_replicate],(fun i h=>absurd h (yO i)),(aZ.mv1)⟩ ?_
 rintro m12 σ13 ba ⟨k,shk,ρl1,rfl,rfl,hkk,hshl,hshn,q⟩
 let bb:=zT W (sb vc) (so vc+k*2+1)
 have ad:=q.r0
 refine za (za (R0 fun _=>st (mV (Iw k) (st (mV vc (st (zC oT rfl hc.sl (st (zK rfl rfl (zb ?_))))))))))
 cases s:decide (((k:Nat):Int)<((c.length:Nat):Int))
 have s:=fD s
 refine ze rfl (ya (zR (za (R0 fun _=>st (mV aV (st (aS aV (zb (zq (zU Tryz.results89 (show _=(aV:Value)from rfl) ?_))))))))))
 have hkl:k=c.length:=by omega
 rw[hkl,List.take_of_length_le (Nat.le_of_eq hshl),List.take_length]at q
 have aN:Sep G W ((CelW (Iy g c.length c.length) 105 3 c)::Rs) ba:=CelW.mk q ⟨hshl,fun i hi=>hshn i om⟩
 refine⟨aV,rfl,aN⟩
 have s:=tD s
 refine zg rfl (zp (za (zt ?_)))
 refine WD4 ((fun TT aM=>WF [fun vals B=>Sep G W (aM::TT) B,fun vals B=> ∃d,(vals 12=d)∧Sep G W ((RowE own 3 d ((c.gd k).set))::aM::TT) B,fun vals B=> ∃d,(vals 12=d)∧Sep G W ((RowE own 105 aV (shk.set k (⟨(c.gd k).n,d⟩:CelS)))::(RowE own 3 d ((c.gd k).set))::TT) B]) ((Star (SetRows 3 (shk.take k) (c.take k)))::Rs) (RowE own 105 aV shk)) (AF [Vl 0 aV,Vl 1 (Iw k),Vl 2 vc,Vl 3 (Iw k),Vl 4 (Ix (sb vc) (so vc+k*2)),Vl 5 (Ix (sb vc) (so vc+k*2)),Vl 6 (Iv ((c.gd k).n)),Vl 7 vc,Vl 8 (Iw k),Vl 9 (Ix (sb vc) (so vc+k*2)),Vl 10 (Ix (sb vc) (so vc+k*2+1)),Vl 11 bb,fun _=>True,fun vals=> ∀(d:Value),vals 12=d→vals 13=(.agg #[Iv ((c.gd k).n),d]:Value),Vl 14 (Ix (sb aV) (so aV+k*2)),fun _=>True]) [[],[],[],[],[2,3],[2,3,4],[2,3,4,5],[],[],[7,8],[7,8,9],[7,8,9,10],[7,8,9,10,11],[2,3,4,5,6,7,8,9,10,11,12],(rg 14),(rg 15)] [12,15] [(0,1),(0,1),(0,1),(0,1),(0,1),(0,1),(0,1),(0,0),(0,0),(0,0),(0,0),(0,0),(0,0),(1,1),(1,1),(1,1)] q ⟨fun _ _ _ _ _ _ _=>obl rfl (mV aV dR),fun _ _ _ _ _ _ _=>obl rfl (mV (Iw k) dR),fun _ _ _ _ _ _ _=>obl rfl (mV vc dR),fun _ _ _ _ _ _ _=>obl rfl (mV (Iw k) dR),?_,fun _ _ _ _ _ _ am=>obl rfl (xa (am 4 dc) dR),?_,fun _ _ _ _ _ _ _=>obl rfl (mV vc dR),fun _ _ _ _ _ _ _=>obl rfl (mV (Iw k) dR),?_,fun _ _ _ _ _ _ an=>obl rfl (yY (an 9 dc) dR),?_,?_,?_,?_,?_,zl⟩ ?_ (hlocA:=xi ⟨dA,dA,dA,dA,dA,dA,dA,dA,dA,dA,dA,dA,dT,fun vals t C h=>fun d I=>(C 13 (.inl rfl)).trans (h d ((C 12 (.inr dc)).symm.trans I)),dA,dT,zl⟩)
 refine fun x _ _ aO aP J m=>?_
 have hkk:=xE aO aP
 rcases hkk with rfl|rfl
 refine obl rfl ?_
 have ao:k<c.length:=bo
 exact zf (k:=2) oT rT (m 2 dc) hc.sl (m 3 dc) ao dR
 obtain⟨d,e,hS202⟩:=J
 refine obl rfl ?_
 have ap:k<c.length:=bo
 exact zf (k:=2) oT rT (m 2 dc) hc.sl (m 3 dc) ap dR
 refine fun y _ _ aQ aR K L=>?_
 have hkk:=xE aQ aR
 rcases hkk with rfl|rfl
 have aq:=K
 refine obl rfl ?_
 have M:k<c.length:=bo
 obtain⟨ae,D,hoke221⟩:=hc.celD M
 have af:=aq.cells ae (hc.foot (ne_of_lt M))
 exact lD (Iv ((c.gd k).n)) mT (L 5 dc) (af.get (j:=0) rfl) dR
 obtain⟨d,e,ar⟩:=K
 refine obl rfl ?_
 have N:k<c.length:=bo
 obtain⟨ag,E,hoke227⟩:=hc.celD N
 have ah:=ar.cells ag (hc.foot (ne_of_lt N))
 exact lD (Iv ((c.gd k).n)) mT (L 5 dc) (ah.get (j:=0) rfl) dR
 refine ob1 0 fun _ _ _ O=>(obl rfl ?_)
 have au:k<c.length:=bo
 exact zf (k:=2) oT rT (O 7 dc) hc.sl (O 8 dc) au dR
 refine ob1 0 fun _ _ (av:Sep _ _ _ _) aw=>(obl rfl ?_)
 have P:k<c.length:=bo
 obtain⟨ai,F,hoke268⟩:=hc.celD P
 have aj:=av.cells ai (hc.foot (ne_of_lt P))
 exact lD bb Tryz.isAgg53 (aw 10 dc) (aj.get (j:=1) rfl) dR
 refine ob1 0 fun vals _ (Q:Sep _ _ _ _) ax=>(obl rfl ?_)
 have R:k<c.length:=bo
 obtain⟨ak,p,hoke120⟩:=hc.celD R
 refine(zW (vals:=[bb]) rfl (yM ⟨(ax 11 dc),zl⟩) Tryz.call62 (VD p Q) ?_)
 rintro d w125 ⟨_,rfl,S⟩
 have ay:=S.r0
 exact fun t C U=>⟨(exiA d (zA C S)),zl⟩
 refine ob1 1 fun _ _ az aA=>?_
 obtain⟨d,e,aB⟩:=az
 refine obl rfl ?_
 have V:=aB.r0
 refine zV (parts':=[(0,Iv ((c.getD k default).n)),(1,d)]) (v:=.agg #[Iv ((c.getD k default).n),d]) (Za ⟨rfl,(aA 6 (by decide)),rfl,e,zl⟩) (by obtain⟨_,_,aC,_⟩:=V.1;rw[show d=Value.slice _ _ _ from aC];simp[Instr.build,Instr.fill,go_sem,YN]) (fun t C U=>⟨rfl,?_⟩)
 intro v124q I
 rw[U 12 (by decide)]at I;cases e.symm.trans I
 exact C
 refine ob1 1 fun _ _ aD X=>?_
 obtain⟨d,e,hS288⟩:=aD
 refine obl rfl ?_
 have aE:k<shk.length:=bo
 exact zf (k:=2) oT rT (X 0 dc) ad.1 (X 1 dc) aE dR
 refine ob1 1 fun vals _ aF Y=>?_
 obtain⟨d,e,z⟩:=aF
 have aT:=Y 13 dc d e
 refine obl rfl ?_
 have Z:k<c.length:=bo
 obtain⟨al,H,ac⟩:=hc.celD Z
 have A:=z.r0
 have aG:=(z.mv1).emp1
 refine(yJ (α:=CelS) (j:=k) (o:=0) (us:=[Iv ((c.getD k default).n),d]) (x1:=(⟨(c.getD k default).n,d⟩:CelS)) aG rT bo (Y 14 (by decide)) aT rfl (yQ rfl) (yo ⟨rfl,A.1.one,zl⟩) (fun _ _ _ hel _=>(by rw[←zJ default (by omega)]at hel;obtain⟨rfl,hok⟩:=hel;exact⟨rfl,⟨ac.n,A.1.one⟩⟩)) ?_)
 intro w158 aa
 have aH:=aa.r0
 exact fun t C U=>⟨(exiA d (zA ((U 12 dc).trans e) aa)),zl⟩
 intro vals aU aI hA294
 obtain⟨d,e,aJ⟩:=aI
 refine yg (kv:=[(0,vc),(3,aV),(4,Iw k),(8,Iw k),(9,vc),(10,Iw c.length),(11,.bool true)]) sEv (fun ρw292=>(zb (R0 fun _=>st (mV (Iw k) ?_))))
 have aK:InR ((k+1:Nat):Int):=bo
 refine st (zO (r:=((k+1:Nat):Int)) rfl rfl (by rw[show(((k:Nat):Int)+1:Int)=((k+1:Nat):Int)from bo];exact zw aK) (st (aS (Iw (k+1)) (zb ?_))))
 have ab:Sep G W ((Star (SetRows 3 (shk.take k) (c.take k)++[(RowE (α:=Int) own 3 d ((c.gd k).set))]))::(RowE own 105 aV (shk.set k (⟨(c.gd k).n,d⟩:CelS)))::Rs) aU:=(aJ.s3_bca).snocStar
 rw[←SetRows.step (⟨(c.getD k default).n,d⟩:CelS) hshl (by omega)]at ab
 exact⟨_,by omega,k+1,shk.set k (⟨(c.getD k default).n,d⟩:CelS),_,rfl,sSf,by omega,by rw[List.length_set];exact hshl,(zdg hshl hshn (by omega)),(ab.mv1)⟩
end
section
open Go.Proofs Go.RowKit
theorem KG {t:Typ}:Right t (List.replicate t.fields.length ⟨0,[]⟩):=by
 have key: ∀i,i<(List.replicate t.fields.length (⟨0,[]⟩:Cel)).length→(List.replicate t.fields.length (⟨0,[]⟩:Cel)).getD i default=⟨0,[]⟩:=by
  intro i hi
  rw[zJ _ hi,List.getElem_replicate]
 refine⟨by simp,fun i hi _=>?_,fun i hi _=>?_,fun i hi _=>?_,fun i hi=>?_,fun i hi=>?_⟩<;>rw[key i hi]
 ·exact Int.le_refl _
 ·simp
 ·exact List.Pairwise.nil
theorem zaN {l:List Int}{k:Nat}{n:Int}(hk:k<l.length)(h:l.getD k 0=n):n∈l:=by rw[zJ _ hk]at h;rw[←h];exact List.getElem_mem hk
theorem UQ {l:List Int}{n:Int}(h: ∀i,i<l.length→ ¬l.getD i 0=n): ¬n∈l:=by
 intro hm
 obtain⟨i,hi,e⟩:=List.getElem_of_mem hm
 exact h i hi (by rw[zJ _ hi];exact e)
theorem D_New {t:Typ}{dt0:Value}(hdt0:RdS W G dt0 t.fields)(ot:t.Ok)(hS0:Sep G W Rs w):Ret Tryz.prog 97 [.agg (t.cells dt0).toArray] w (fun r w'=> ∃(v:Value),r=(v:Value)∧Sep G W ((RowE (α:=Cel) own 105 v (List.replicate t.fields.length (⟨0,[]⟩:Cel)))::Rs) w'):=by
 have hdt0s:_*48≤_:=hdt0.small
 refine zn Tryz.func97 rfl rfl ?_
 refine za (R0 fun _=>st (zX rfl ?_))
 intro w3 b2 e
 have c:=hS0.new e
 refine st (aS Iz (zb (za (R0 fun _=>st (yU rfl (st (lD dt0 wT rfl (zd (c.b0) rfl) (st (zC kR rfl hdt0.sl (st (Yv (α:=Cel) (T:=105) (bytes:=32) (n:=t.fields.length) (x1:=(⟨0,[]⟩:Cel)) oT ⟨_,_,rfl,rfl,rfl,rfl,rfl,fun _ _=>⟨_,rfl,RdS.nil _ _,⟨by decide⟩⟩⟩ rfl rfl rfl (by show t.fields.length*32≤140737488355328;omega) ?_)))))))))))
 intro f b g he7 hl8 h
 let i:=Iy b t.fields.length t.fields.length
 have a:Sep G W ((RowE (α:=Cel) own 105 i (List.replicate t.fields.length (⟨0,[]⟩:Cel)))::(Blk b2 (t.cells dt0).toArray 83)::Rs) f:=c.made g h
 have d:=a.r0
 refine st (aS i (zb (zq (zU Tryz.results97 rfl ?_))))
 refine⟨i,rfl,(a.s2_a)⟩
instance (t:Typ) (c:List Cel) (f op arg:Int):Decidable (Wy t c f op arg):=by unfold Wy Asc;infer_instance
end
section
open Go.ChangeShapes Go.WideShapes Go.ChangeAt Go.RowKit
theorem zcs {P:Program}{W:World}{name:String}{zs:List Int}{g:Nat}(hg:P.globalNamed name=some g)(h:Lib.TabIs P W name .i64 zs)(hz: ∀z∈zs,InR z)(hs:zs.length*8≤140737488355328):
 RdS W (WU W) (.slice (some ⟨g,0,none⟩) zs.length zs.length) zs:=by
 have hc: ∀i,W.cell? ⟨g,i,none⟩=(zs.map fun z=>Value.int .i64 z)[i]? :=fun i=>by
  rw[World.var?_cell hg h i];simp
 refine⟨⟨_,_,rfl,Nat.le_refl _,fun _=>⟨_,_,rfl⟩⟩,fun hne=>?_,hs,fun i hi=>?_⟩
 ·have h0:0<zs.length:=List.length_pos_iff.2 hne
  have h1:=hc 0
  rw[List.getElem?_eq_getElem (by simpa using h0)]at h1
  exact Yi h1
 ·refine⟨[.int .i64 zs[i]],fun j hj=>?_,⟨rfl,hz _ (List.getElem_mem hi)⟩⟩
  obtain rfl:j=0:=by simp at hj;omega
  have h1:=hc i
  rw[List.getElem?_eq_getElem (by simpa using hi)]at h1
  have e:(so (.slice (some ⟨g,0,none⟩) zs.length zs.length)+i*Rep.k Int+0)=i:=by
   show 0+i*1+0=i
   omega
  show W.cell? ⟨g,so (.slice (some ⟨g,0,none⟩) zs.length zs.length)+i*Rep.k Int+0,none⟩=_
  rw[e,h1]
  simp
theorem VM {P:Program}{d:Option Tmp}{ty:TypeId}{pos:String}{af:Array Edge}{g:Option (Nat×Bool)}{σ:Env}{w:World}{K:Value→World→Prop}{t e:TypeId}{k n b o off:Nat}{i:Int}{x y:Operand}{ki:IntKind}(hU:P.underlying t=some (.array n e))(hS: ∀w,(sizeOf e).run P w=.ok k w)(hx:ev σ x=.pointer (some ⟨b,o,none⟩))(hy:ev σ y=.int ki i)
 (hi:0≤i∧i<n) (ho:i.toNat*k=off) (h:K (.pointer (some ⟨b,o+off,none⟩)) w):opV P ⟨d,.indexAddr t x y,ty,pos,af,g⟩ σ w K:=by
 obtain⟨m,rfl⟩:=Int.eq_ofNat_of_zero_le hi.1
 exact VH (i:=m) hU hS hx hy (by omega) (by simpa using ho) h
theorem WB {H:Type}{enc:TypeId×Value→H}{C:Checked}{os:Os}{f:FuncId}{fn:Func}{s:ChangeSpec}{tb:TypeId}{laid:List (String×DataW Unit)}
 (own:ownKnob C.prog.godebug=none) (started:os.Started) (noInit:C.prog.inits.idxOf? f=none) (hfn:C.prog.funcs[f]? =some fn)
 (hl:laidOutB C.prog=true) (hrt:fn.resultTypes=#[tb]) (htb:C.prog.underlying tb=some .bool) (hsv:s.vars=[])
 (hsf: ∀ds:List (DataW H),ds.length=fn.params.size→s.fn H ds={results:=[.lit (.bool true)],args:=ds})
 (hps: ∀t∈fn.params.toList,C.prog.readableRec t=true∧t<C.prog.types.size)
 (witness: ∃(w:World) (tape:Tape) (i:Input),w.os=os∧(w.forCall tape i).Shaped C.prog∧i.vars=[]∧Input.okWide C.prog (w.forCall tape i) .any w.heap.size f i∧
  ((s.pre enc C.prog fn [] false (w.forCall tape i).memory i.args∧laidMetH C.prog laid (w.forCall tape i).memory)∧sizedMet enc C.prog fn (OpenSpec.ofChange s) false (w.forCall tape i).memory i.args)∧({}:Assume).holds C.prog (lone (Frame.enter C.prog f i.args .normal) [] (w.forCall tape i)))
 (contract: ∀(W:World) (base:Nat) (args:Array Value) (ds:List (DataW H)) (ps:List MemPlace),
  (∀(j:Nat) t v,fn.params[j]? =some t→args[j]? =some v→Value.okWide C.prog W .any base t v)→
  DataW.TrodAll enc C.prog W 0 (fun _=>true) true fn.params.toList args.toList ds ps→
  (∀(j:Nat) t d,fn.params.toList[j]? =some t→ds[j]? =some d→zcz C.prog t d)→laidMetH C.prog laid W→
  Ret C.prog f args.toList W (fun r w'=>r=.bool true∧Ext W w')):
 ReturnsInHanded {} C os f .any (fun w args=>(s.pre enc C.prog fn [] false w args∧laidMetH C.prog laid w)∧sizedMet enc C.prog fn (OpenSpec.ofChange s) false w args) (s.post enc C.prog fn false true false false):=by
 refine returnsInHanded_of_change_and (C:=C) (X:=fun w _=>laidMetH C.prog laid w) (fun _ _ _ hh h=>h.of_heap hh) own started noInit hfn witness ?_
 intro W base args ds gs before hval hW _ hsz hL _
 have hW':=hW
 obtain⟨p,q,hA,hV,rfl,hfz,hnd⟩:=hW
 have hlt:=hW'.lt
 rw[hsv]at hV
 obtain⟨rfl,rfl⟩:=trodVars_none hV
 simp only[List.append_nil]at hW' hlt
 have hlen:ds.length=fn.params.size:=by
  have: ∀{ts:List TypeId} {vs:List Value} {ds:List (DataW H)} {ps:List MemPlace},DataW.TrodAll enc C.prog W 0 (fun _=>true) true ts vs ds ps→ds.length=ts.length:=by
   intro ts
   induction ts with
   |nil=>intro vs ds ps h;obtain⟨_,rfl,_⟩:=trodAll_nil h;rfl
   |cons t ts ih=>intro vs ds ps h;obtain⟨_,_,_,ds1,_,_,_,rfl,_,_,h2⟩:=trodAll_cons h;simp[ih h2]
  simpa using this hA
 have hc:=contract W base args ds p hval hA (fun j t d ht hd n hn=>by
  have:=List.all_eq_true.1 hsz n (by
   rw[List.append_nil]
   refine DataW.weights_mem_each (j:=j) (t:=t) ?_ hd n hn
   rw[List.getElem?_append_left (by exact(List.getElem?_eq_some_iff.1 ht).1)]
   exact ht)
  simpa using this) hL
 have hc':Calls C.prog f args W fun e w'=> ∃v,e=.returned v∧v=.bool true∧Ext W w':=by
  have:args.toList.toArray=args:=by simp
  rw[←this];exact hc
 refine hc'.mono fun e W' ⟨v,he,hv,hx⟩=>⟨v,he,?_⟩
 subst hv
 have hb:=hx.below
 refine⟨ds,[],p,[],p,[],hW',?_,?_,?_,hb.frame _,fun h=>by cases h⟩
 ·rw[List.append_nil,hsf ds hlen,hrt]
  exact trodAll_mk1 (shut_bool htb _)
 ·rw[List.append_nil,hsf ds hlen]
  exact Xg hl hb hps hA (fun x hx=>hlt x hx)
 ·rw[List.append_nil,hsf ds hlen,hsv]
  rfl
end
section
open Go.Proofs Go.RowKit
def kindsL:List Int:=[0,1,2,3,3,4]
theorem Ks:kindsL.length=6:=rfl
def yI (d:Dcl)(ty f:Int):Bool:=(decide (0≤ty)&&decide (ty≤((d.types.length:Nat):Int)-1))&&(decide (0≤f)&&decide (f≤(((d.types.getD ty.toNat default).fields.length:Nat):Int)-1))
def yj (d:Dcl)(ty f:Int):Fld:=if yI d ty f=true then(d.types.getD ty.toNat default).fields.getD f.toNat default else⟨0,0,false,[]⟩
def xp (d:Dcl)(ty f op arg:Int):Int:=
 if(!yI d ty f)=true then 8 else if(!(decide (1≤op)&&decide (op≤5))|| !decide (kindsL.getD op.toNat 0=(yj d ty f).kind))=true then 2
 else if(decide (op=1)&&decide (arg=0))=true then 1 else if(decide (op=5)&& !(decide (0≤arg)&&decide (arg≤(((yj d ty f).moves.length:Nat):Int)-1)))=true then 1 else 0
theorem XR {d:Dcl}{ty f op arg:Int}(h:xp d ty f op arg=0):0≤ty∧ty<d.types.length∧Fits (d.types.getD ty.toNat default) f op arg:=by
 unfold xp at h
 split at h
 ·cases h
 rename_i h1
 split at h
 ·cases h
 rename_i h2
 split at h
 ·cases h
 rename_i h3
 split at h
 ·cases h
 rename_i h4
 have hB:yI d ty f=true:=by simpa using h1
 have hz:yj d ty f=(d.types.getD ty.toNat default).fields.getD f.toNat default:=by unfold yj;rw[hB];rfl
 rw[hz]at h2 h4
 unfold yI at hB
 simp only[Bool.and_eq_true,decide_eq_true_eq]at hB
 simp only[Bool.or_eq_true,Bool.not_eq_true',Bool.and_eq_false_iff,Bool.and_eq_true,decide_eq_true_eq,decide_eq_false_iff_not,not_or,Decidable.not_not,not_and]at h2 h3 h4
 refine⟨hB.1.1,by omega,⟨hB.2.1,by omega,?_⟩⟩
 have h5:op=1∨op=2∨op=3∨op=4∨op=5:=by omega
 have h6:=h2.2
 unfold xn
 rcases h5 with rfl|rfl|rfl|rfl|rfl
 ·exact .inl ⟨rfl,h6.symm⟩
 ·exact .inr (.inl ⟨rfl,h6.symm⟩)
 ·exact .inr (.inr (.inl ⟨.inl rfl,h6.symm⟩))
 ·exact .inr (.inr (.inl ⟨.inr rfl,h6.symm⟩))
 ·have:=h4 rfl
  exact .inr (.inr (.inr ⟨rfl,h6.symm,by omega,by omega⟩))
instance:Flat Mv:=⟨fun h=>h⟩
theorem XL {x:Int}(hx:InR x){lo:Int}(hlo:InR lo){hi:Int}(hhi:InR hi)(hS0:Sep G W Rs w):Ret Tryz.prog 115 [.int .i64 (x),.int .i64 (lo),.int .i64 (hi)] w (fun r w'=>r=(.bool ((decide (lo≤x)&&decide (x≤hi))):Value)∧Sep G W Rs w'):=by
 refine zn Tryz.func115 rfl rfl ?_
 refine za (R0 fun _=>st (aS (.bool false) (zb (za (zF kr (st (mV (Iv x) (st (mV (Iv lo) (st (xv rfl rfl (st (mV (.bool (decide (lo≤x))) (stc (V:=Iv x) rfl rfl (fun d=>?_) ?_))))))))))))))
 exact mV (Iv x) rflB
 refine stc (V:=Iv hi) rfl rfl (fun e=>?_) ?_
 exact mV (Iv hi) rflB
 refine stc (V:=.bool (decide (x≤hi))) rfl rfl (fun c=>?_) ?_
 exact Kv (ifpC c) (ifpC c) rflB
 refine st (zx rfl (fun hbp=>(ifpC hbp)) (st (aS (.bool ((decide (lo≤x))&&(decide (x≤hi)))) (zb (zq (zU Tryz.results115 rfl ?_))))))
 refine⟨rfl,hS0⟩
theorem Wi {vl:Value}{l:List Mv}(hl:RdS W G vl l)(hS0:Sep G W Rs w):Ret Tryz.prog 35 [vl] w (fun r w'=> ∃(v:Value),r=(v:Value)∧Sep G W ((RowE (α:=Mv) own 90 v l)::Rs) w'):=by
 have hls:_*32≤_:=hl.small
 refine zn Tryz.func35 rfl rfl ?_
 refine za (R0 fun _=>st (aS Iz (zb (za (za (R0 fun _=>st (mV vl (st (ZG (v:=vl) lR rfl hl.sl (zb ?_))))))))))
 cases i:ZA vl
 refine ze rfl (zp (za (R0 fun _=>st (zH (c:=#[]) lR Tryz.sizeOf90 Tryz.zeroValue90 dc rfl kr ?_))))
 intro o p j
 refine st (mV vl ?_)
 have d:Sep G W ((RowE (α:=Mv) own 90 (Iy p 0 0) [])::Rs) o:=Sep.blkRow (css:=[]) (hS0.new j) rfl trivial yqa
 have e:=d.r0
 refine st (xO (src:=own) (bytes:=32) d zbK rfl rfl hl yqb rfl (hq':=fun _ _ h _ _=>WY h) ?_)
 intro b q a
 have a:Sep G W ((RowE (α:=Mv) own 90 b l)::Rs) q:=a
 have f:=a.r0
 refine st (aS b (zb (zq (zU rR rfl ?_))))
 refine⟨b,rfl,a⟩
 have m:=YX hl.sl i
 refine zg rfl (za (R0 fun _=>st (aS Iz (zb (zq (zU rR rfl ?_))))))
 have g:Sep G W ((RowE (α:=Mv) own 90 Iz [])::Rs) w:=hS0.rowNil own 90
 have n:=List.length_eq_zero_iff.1 m
 subst n
 refine⟨(Iz),rfl,g⟩
theorem zco {d:Dcl}{dd0:Value}(hdd0:RdS W G dd0 d.types){dd1:Value}(hdd1:RdS W G dd1 d.projs)(od:d.Ok){ty:Int}(hty:InR ty){f:Int}(hf:InR f)(hS0:Sep G W Rs w):Ret Tryz.prog 114 [.agg (d.cells dd0 dd1).toArray,.int .i64 (ty),.int .i64 (f)] w (fun r w'=> ∃(v:Value),r=(.tuple #[.agg ((yj d ty f).cells v).toArray,.bool ((yI d ty f))]:Value)∧((yj d ty f).Ok)∧Sep G W ((RowE (α:=Mv) own 90 v ((yj d ty f).moves))::Rs) w'):=by
 let ag:=zT W (sb dd0) (so dd0+ty.toNat*1+0)
 let aE:=zT W (sb ag) (so ag+f.toNat*4+3)
 have hdd0s:_*24≤_:=hdd0.small
 have hdd1s:_*40≤_:=hdd1.small
 refine zn Tryz.func114 rfl rfl ?_
 refine za (R0 fun _=>st (zX rfl ?_))
 intro w3 b2 aI
 refine st (zG mR ?_)
 intro w7 b6 aJ
 have ae:=(hS0.new aI).new aJ
 refine st (aS (.bool false) (zb (za (za (zF kr (st (mV (Iv ty) (st (yH rfl (st (lD dd0 nR rfl (zd (ae.b1) rfl) (st (zC oR rfl hdd0.sl ?_)))))))))))))
 have af:InR (((d.types.length:Nat):Int)-1):=by omega
 refine st (xK (r:=((d.types.length:Nat):Int)-1) (b:=1) rfl rfl (zw af) (st (cL tT (XL (x:=ty) (lo:=0) (hi:=((d.types.length:Nat):Int)-1) hty dc af ae) ?_)))
 rintro _ w10 ⟨rfl,e⟩
 refine st (yD rfl (st (mV (.bool (!(decide (0≤ty)&&decide (ty≤(((d.types.length:Nat):Int)-1))))) (stc (V:=Iv f) rfl rfl (fun ah=>?_) ?_))))
 have ai:=ah
 try simp only[zi]at ai
 exact mV (Iv f) rflB
 refine stc (V:=Ix b2 0) rfl rfl (fun aj=>?_) ?_
 have ak:=aj
 try simp only[zi]at ak
 exact yH rfl rflB
 refine stc (V:=dd0) rfl rfl (fun F=>?_) ?_
 have al:=F
 try simp only[zi]at al
 exact lD dd0 nR (ifpC F) (zd (e.b1) rfl) rflB
 refine stc (V:=Iv ty) rfl rfl (fun am=>?_) ?_
 have an:=am
 try simp only[zi]at an
 exact mV (Iv ty) rflB
 refine stc (V:=Ix (sb dd0) (so dd0+ty.toNat*1)) rfl rfl (fun t=>?_) ?_
 have ao:=t
 try simp only[zi]at ao
 have hi22:ty.toNat<d.types.length:=bo
 exact zB oR sR (ifpC t) hdd0.sl (ifpC t) ⟨by omega,by omega⟩ rflB
 refine stc (V:=Ix (sb dd0) (so dd0+ty.toNat*1)) rfl rfl (fun H=>?_) ?_
 have ap:=H
 try simp only[zi]at ap
 exact yU (ifpC H) rflB
 refine stc (V:=ag) rfl rfl (fun I=>?_) ?_
 have aq:=I
 try simp only[zi]at aq
 have J:ty.toNat<d.types.length:=bo
 obtain⟨X,D,hoke27⟩:=hdd0.typD J
 have hsm29:((d.types.getD ty.toNat default).fields).length*48≤140737488355328:=D.small
 have Y:=e.cells X (hdd0.foot (ne_of_lt J))
 exact lD ag wT (ifpC I) (Y.get (j:=0) rfl) rflB
 refine stc (V:=Iw (((d.types.getD ty.toNat default).fields).length)) rfl rfl (fun K=>?_) ?_
 have ar:=K
 try simp only[zi]at ar
 have L:ty.toNat<d.types.length:=bo
 obtain⟨Z,o,hoke33⟩:=hdd0.typD L
 have hsm35:((d.types.getD ty.toNat default).fields).length*48≤140737488355328:=o.small
 have hcw36:=e.cells Z (hdd0.foot (ne_of_lt L))
 exact zC kR (ifpC K) o.sl rflB
 refine stc (V:=Iv (((((d.types.getD ty.toNat default).fields).length:Nat):Int)-1)) rfl rfl (fun M=>?_) ?_
 have au:=M
 try simp only[zi]at au
 have N:ty.toNat<d.types.length:=bo
 obtain⟨aa,E,hoke39⟩:=hdd0.typD N
 have hsm41:((d.types.getD ty.toNat default).fields).length*48≤140737488355328:=E.small
 have hcw42:=e.cells aa (hdd0.foot (ne_of_lt N))
 have av:InR (((((d.types.getD ty.toNat default).fields).length:Nat):Int)-1):=by omega
 exact xK (r:=((((d.types.getD ty.toNat default).fields).length:Nat):Int)-1) (k:=.i64) (a:=((((d.types.getD ty.toNat default).fields).length:Nat):Int)) (b:=1) (ifpC M) rfl (zw av) rflB
 cases u: !(decide (0≤ty)&&decide (ty≤(((d.types.length:Nat):Int)-1)))
 have hg44r:=u
 try simp only[zi]at u
 have y:ty.toNat<d.types.length:=bo
 obtain⟨C,g,hoke45⟩:=hdd0.typD y
 have hsm47:((d.types.getD ty.toNat default).fields).length*48≤140737488355328:=g.small
 have hcw48:=e.cells C (hdd0.foot (ne_of_lt y))
 refine sty rfl rfl (cL tT (XL (x:=f) (lo:=0) (hi:=((((d.types.getD ty.toNat default).fields).length:Nat):Int)-1) hf dc om e) ?_)
 rintro _ w49 ⟨rfl,h⟩
 refine sty rfl rfl (yD rfl (st (yt rfl rfl (zb ?_))))
 cases O: !(decide (0≤f)&&decide (f≤(((((d.types.getD ty.toNat default).fields).length:Nat):Int)-1)))
 try simp only[zi]at O
 refine ze rfl (zp (za (R0 fun _=>st (yH rfl (st (lD dd0 nR rfl (zd (h.b1) rfl) (st (mV (Iv ty) ?_))))))))
 refine st (zB oR sR rfl hdd0.sl rfl ⟨by omega,by omega⟩ (st (yU rfl ?_)))
 have ab:=h.cells C (hdd0.foot (ne_of_lt y))
 refine st (lD ag wT rfl (ab.get (j:=0) rfl) (st (mV (Iv f) ?_)))
 refine st (zB kR nT rfl g.sl rfl ⟨by omega,by omega⟩ ?_)
 have P:f.toNat<((d.types.getD ty.toNat default).fields).length:=bo
 obtain⟨ac,m,p⟩:=g.fldD P
 have ad:=h.cells ac (g.foot (ne_of_lt P))
 refine st (zh sT nT rfl rfl ad (st (zG mR ?_)))
 intro w62 b61 aw
 have Q:=h.new aw
 refine stn (zy (v:=.agg ((((d.types.getD ty.toNat default).fields).getD f.toNat default).cells aE).toArray) nT rfl rfl (Q.b0) (yo ⟨rfl,rfl,rfl,m.sl.one,zl⟩) yqc rfl ?_)
 intro w64 ax
 have R:=Q.pt0 ax
 refine zb (za (R0 fun _=>st (yT rfl (st (lD aE tR rfl (zd (R.b0) rfl) (st (cL Tryz.call35 (Wi (l:=(((d.types.getD ty.toNat default).fields).getD f.toNat default).moves) (vl:=aE) m R) ?_)))))))
 rintro q w68 ⟨_,rfl,z⟩
 have A:=z.r0
 refine st (yT rfl (stn (ym (v:=q) Tryz.sizeOf85 rfl rfl (z.b1) A.1.one rfl rfl ?_)))
 intro w71 ay
 have az:Fld.Ok (((d.types.getD ty.toNat default).fields).getD f.toNat default):=⟨(show InR ((((d.types.getD ty.toNat default).fields).getD f.toNat default).kind)from p.kind),(show InR ((((d.types.getD ty.toNat default).fields).getD f.toNat default).policy)from p.policy)⟩
 have B:=z.pt1 ay
 refine zb (za (R0 fun _=>st (zh sT nT rfl rfl (zo (B.b1)) (stn (zy (v:=.agg ((((d.types.getD ty.toNat default).fields).getD f.toNat default).cells q).toArray) nT rfl rfl (B.b2) (yo ⟨rfl,rfl,rfl,A.1.one,zl⟩) yqc rfl ?_)))))
 intro w75 aA
 have S:=B.pt2 aA
 refine st (aS (.bool true) (zb (zq (ZV (b:=b6) pR sT nT rfl rfl (zo (S.b2)) (show _=(.bool true:Value)from rfl) ?_))))
 have s:yI d ty f=true:=by unfold yI;simp only[Bool.and_eq_true,decide_eq_true_eq];omega
 have hz:yj d ty f=(((d.types.getD ty.toNat default).fields).getD f.toNat default):=by unfold yj;rw[s];rfl
 rw[hz,s]
 refine⟨q,rfl,?_,(S.s4_a)⟩
 exact az
 try simp only[zi]at O
 refine zg rfl (za (R0 fun _=>?_))
 have aB:Fld.Ok (⟨0,0,false,[]⟩:Fld):=⟨(show InR (0)from dc),(show InR (0)from dc)⟩
 refine st (zV (parts':=[]) (v:=.agg ((⟨0,0,false,[]⟩:Fld).cells Iz).toArray) rfl (by simp+zetaDelta [Instr.build,Instr.fill,go_sem,YN]) (stn (zy (v:=.agg ((⟨0,0,false,[]⟩:Fld).cells Iz).toArray) nT rfl rfl (h.b0) (yo ⟨rfl,rfl,rfl,rfl,zl⟩) yqc rfl ?_)))
 intro w80 aC
 have T:=h.pt0 aC
 refine st (aS (.bool false) (zb (zq (ZV (b:=b6) pR sT nT rfl rfl (zo (T.b0)) (show _=(.bool false:Value)from rfl) ?_))))
 have aD:Sep _ _ ((RowE (α:=Mv) own 90 Iz [])::_) _:=T.rowNil own 90
 have s:yI d ty f=false:=by unfold yI;rw[Bool.eq_false_iff];intro h9;simp only[Bool.and_eq_true,decide_eq_true_eq]at h9;omega
 have hz:yj d ty f=(⟨0,0,false,[]⟩:Fld):=by unfold yj;rw[s];rfl
 rw[hz,s]
 refine⟨(Iz),rfl,?_,(aD.s3_a)⟩
 exact aB
 try simp only[zi]at u
 refine stx rfl rfl (stx rfl rfl (st (yC rfl rfl (zb (zg rfl (za (R0 fun _=>?_)))))))
 have aF:Fld.Ok (⟨0,0,false,[]⟩:Fld):=⟨(show InR (0)from dc),(show InR (0)from dc)⟩
 refine st (zV (parts':=[]) (v:=.agg ((⟨0,0,false,[]⟩:Fld).cells Iz).toArray) rfl (by simp+zetaDelta [Instr.build,Instr.fill,go_sem,YN]) (stn (zy (v:=.agg ((⟨0,0,false,[]⟩:Fld).cells Iz).toArray) nT rfl rfl (e.b0) (yo ⟨rfl,rfl,rfl,rfl,zl⟩) yqc rfl ?_)))
 intro w86 aG
 have U:=e.pt0 aG
 refine st (aS (.bool false) (zb (zq (ZV (b:=b6) pR sT nT rfl rfl (zo (U.b0)) (show _=(.bool false:Value)from rfl) ?_))))
 have aH:Sep _ _ ((RowE (α:=Mv) own 90 Iz [])::_) _:=U.rowNil own 90
 have s:yI d ty f=false:=by unfold yI;rw[Bool.eq_false_iff];intro h9;simp only[Bool.and_eq_true,decide_eq_true_eq]at h9;omega
 have hz:yj d ty f=(⟨0,0,false,[]⟩:Fld):=by unfold yj;rw[s];rfl
 rw[hz,s]
 refine⟨(Iz),rfl,?_,(aH.s3_a)⟩
 exact aF
theorem zdG {d:Dcl}{dd0:Value}(hdd0:RdS W G dd0 d.types){dd1:Value}(hdd1:RdS W G dd1 d.projs)(od:d.Ok){ty:Int}(hty:InR ty){f:Int}(hf:InR f){op:Int}(hop:InR op){arg:Int}(harg:InR arg)(hKN:RdS W G (.slice (some ⟨0,0,none⟩) 6 6) kindsL)(hS0:Sep G W Rs w):Ret Tryz.prog 95 [.agg (d.cells dd0 dd1).toArray,.int .i64 (ty),.int .i64 (f),.int .i64 (op),.int .i64 (arg)] w (fun r w'=>r=(.int .i64 (xp d ty f op arg):Value)∧Sep G W Rs w'):=by
 have hdd0s:_*24≤_:=hdd0.small
 have hdd1s:_*40≤_:=hdd1.small
 have hKNs:_*8≤_:=hKN.small
 refine zn Tryz.func95 rfl rfl ?_
 refine za (R0 fun _=>st (zX rfl ?_))
 intro w3 b2 aL
 have aB:=hS0.new aL
 refine st (aS (Iv 0) (zb (za (R0 fun _=>st (zh Tryz.isAgg25 Tryz.sizeOf25 rfl rfl (zo (aB.b0)) (st (mV (Iv ty) (st (mV (Iv f) (st (cL Tryz.call114 (zco (d:=d) (ty:=ty) (f:=f) hdd0 hdd1 od hty hf aB) ?_)))))))))))
 rintro _ w7 ⟨z,rfl,hfok6,aC⟩
 let aG:=(yj d ty f).cells z
 have X:=aC.r0
 have hr9s:_*32≤_:=X.2
 refine st (mV (.tuple #[.agg aG.toArray,.bool ((yI d ty f))]) (st (zz rfl rfl (st (zz rfl rfl (st (zG mR ?_)))))))
 intro w12 K aE
 have Y:=aC.new aE
 refine stn (zy (v:=.agg aG.toArray) nT rfl rfl (Y.b0) (yo ⟨rfl,rfl,rfl,X.1.one,zl⟩) yqc rfl ?_)
 intro w14 aF
 have Z:=Y.pt0 aF
 refine st (aS (.bool ((yI d ty f))) (zb (za (zt (za (R0 fun _=>st (mV (.bool ((yI d ty f))) (st (yD rfl (st (aS (.bool (!(yI d ty f))) (zb ?_))))))))))))
 cases I: !(yI d ty f)
 have h:=I
 try simp only[zi]at I
 refine ze rfl (za ?_)
 refine WD4 ((fun TT aD=>WF [fun vals wq=>Sep G W (aD::TT) wq,fun vals wq=>(vals 1=(.bool ((decide (1≤op)&&decide (op≤5))):Value))∧Sep G W (aD::TT) wq]) ((RowE own 90 z ((yj d ty f).moves))::(Blk b2 (d.cells dd0 dd1).toArray 25)::Rs) (Blk K aG.toArray 87)) (AF [Vl 0 (Iv op),fun _=>True,Vl 2 (.bool (!(decide (1≤op)&&decide (op≤5)))),Vl 3 (.bool (!(decide (1≤op)&&decide (op≤5)))),Vl 4 (if(!(decide (1≤op)&&decide (op≤5)))=false then Iv op else undef),Vl 5 (if(!(decide (1≤op)&&decide (op≤5)))=false then Ix (sb (Iy 0 6 6)) (so (Iy 0 6 6)+op.toNat*1)else undef),Vl 6 (if(!(decide (1≤op)&&decide (op≤5)))=false then Iv ((kindsL.getD op.toNat 0))else undef),Vl 7 (if(!(decide (1≤op)&&decide (op≤5)))=false then Ix K 0 else undef),Vl 8 (if(!(decide (1≤op)&&decide (op≤5)))=false then Iv ((yj d ty f).kind)else undef),Vl 9 (if(!(decide (1≤op)&&decide (op≤5)))=false then .bool (!decide ((kindsL.getD op.toNat 0)=((yj d ty f).kind)))else undef),Vl 10 (.bool ((!(decide (1≤op)&&decide (op≤5)))||(!decide ((kindsL.getD op.toNat 0)=((yj d ty f).kind))))),Vl 11 (.bool ((!(decide (1≤op)&&decide (op≤5)))||(!decide ((kindsL.getD op.toNat 0)=((yj d ty f).kind)))))]) [[],[0],[0,1],[0,1,2],(rg 4),(rg 5),(rg 6),(rg 4),[0,1,2,3,7],(rg 9),(rg 10),(rg 11)] [1] [(0,0),(0,0),(1,1),(1,1),(1,1),(1,1),(1,1),(1,1),(1,1),(1,1),(1,1),(1,1)] Z ⟨fun _ _ _ _ _ _ _=>obl rfl (mV (Iv op) dR),?_,?_,fun _ _ _ _ _ _ ac=>obl rfl (zP (ac 2 dc) dR),?_,?_,?_,?_,?_,?_,fun _ _ _ _ _ _ L=>obl rfl (zI (L 3 dc) (fun hbp=>(zr (L 9 dc) (ifpC hbp))) dR),fun _ _ _ _ _ _ ad=>obl rfl (zM (ad 10 dc) dR),zl⟩ ?_
 refine ob1 0 fun vals _ (aH:Sep _ _ _ _) aI=>(obl rfl ((zW (vals:=[Iv op,Iv 1,Iv 5]) rfl (yM ⟨(aI 0 dc),rfl,rfl,zl⟩) tT (XL (x:=op) (lo:=1) (hi:=5) om dc dc aH) ?_)))
 rintro _ w32 ⟨rfl,aJ⟩
 exact fun c e hv'=>⟨(zA e aJ),zl⟩
 refine ob1 1 fun _ _ ae _=>?_
 obtain⟨A,hS142⟩:=ae
 exact obl rfl (yD A dR)
 refine fun _ _ _ _ _ _ af=>(zN rfl rfl (af 3 dc) (fun B=>?_) yd)
 have ag:=B
 try simp only[zi]at ag
 exact mV (Iv op) (yc B)
 refine ob1 1 fun _ _ ah M=>?_
 obtain⟨A,hS165⟩:=ah
 refine zN rfl rfl (M 3 dc) (fun q=>?_) yd
 have ai:=q
 try simp only[zi]at ai
 exact VM (b:=sb (Iy 0 6 6)) (o:=so (Iy 0 6 6)) (k:=1) (n:=6) (i:=op) (off:=op.toNat*1) uR lT rfl (zr (M 4 dc) (ifpC q)) om rfl (yc q)
 refine ob1 1 fun _ _ aj N=>?_
 obtain⟨A,ak⟩:=aj
 refine zN rfl rfl (N 3 dc) (fun s=>?_) yd
 have al:=s
 try simp only[zi]at al
 have O:op.toNat<kindsL.length:=(by first|omega|(rw[Ks];omega))
 obtain⟨aa,hxe181⟩:=hKN.intD O
 have ab:=ak.cells aa (hKN.foot (ne_of_lt O))
 exact lD (Iv ((kindsL.getD op.toNat 0))) mT (zr (N 5 dc) (ifpC s)) (ab.get (j:=0) rfl) (yc s)
 refine fun _ _ _ _ _ _ am=>(zN rfl rfl (am 3 dc) (fun C=>?_) yd)
 have an:=C
 try simp only[zi]at an
 exact xG rfl (yc C)
 refine ob1 1 fun _ _ ao P=>?_
 obtain⟨A,ap⟩:=ao
 refine zN rfl rfl (P 3 dc) (fun t=>?_) yd
 have aq:=t
 try simp only[zi]at aq
 exact lD (Iv ((yj d ty f).kind)) mT (zr (P 7 dc) (ifpC t)) (zd (ap.b0) rfl) (yc t)
 refine ob1 1 fun _ _ ar J=>?_
 obtain⟨A,hS210⟩:=ar
 refine zN rfl rfl (J 3 dc) (fun m=>?_) yd
 have au:=m
 try simp only[zi]at au
 exact yy (zr (J 6 dc) (ifpC m)) (zr (J 8 dc) (ifpC m)) (yc m)
 intro vals w231 av aw
 obtain⟨A,u⟩:=av
 have aK:=aw 11 dc
 refine yg (kv:=[(0,.agg (d.cells dd0 dd1).toArray),(1,Iv ty),(2,Iv f),(3,Iv op),(4,Iv arg),(5,Ix b2 0),(10,Iv 0),(14,.agg (d.cells dd0 dd1).toArray),(15,Iv ty),(16,Iv f),(17,.tuple #[.agg ((yj d ty f).cells z).toArray,.bool ((yI d ty f))]),(13,.tuple #[.agg ((yj d ty f).cells z).toArray,.bool ((yI d ty f))]),(18,.agg ((yj d ty f).cells z).toArray),(19,.bool ((yI d ty f))),(11,Ix K 0),(12,.bool ((yI d ty f))),(21,.bool ((yI d ty f))),(22,.bool false),(20,.bool false),(23,.bool ((!(decide (1≤op)&&decide (op≤5)))||(!decide ((kindsL.getD op.toNat 0)=((yj d ty f).kind)))))]) ⟨rfl,rfl,rfl,rfl,rfl,rfl,rfl,rfl,rfl,rfl,rfl,rfl,rfl,rfl,rfl,rfl,rfl,rfl,rfl,(by exact aK),zl⟩ (fun ρw231=>(zb ?_))
 cases D:(!(decide (1≤op)&&decide (op≤5)))||(!decide ((kindsL.getD op.toNat 0)=((yj d ty f).kind)))
 have g:=D
 try simp only[zi]at D
 refine ze rfl (za (za (zF kr (st (mV (Iv op) (st (zS rfl rfl (st (mV (.bool (decide (op=1))) (stc (V:=Iv arg) rfl rfl (fun ax=>?_) ?_))))))))))
 have hl238:=tD ax
 exact mV (Iv arg) rflB
 refine stc (V:=.bool (decide (arg=0))) rfl rfl (fun Q=>?_) ?_
 have hl240:=tD Q
 exact zS (ifpC Q) rfl rflB
 refine st (zx rfl (fun hbp=>(ifpC hbp)) (st (aS (.bool ((decide (op=1))&&(decide (arg=0)))) (zb ?_))))
 cases E:(decide (op=1))&&(decide (arg=0))
 have l:=E
 try simp only[zi]at E
 refine ze rfl (zF kr (st (mV (Iv op) (st (zS rfl rfl (st (mV (.bool (decide (op=5))) (stc (V:=Iv arg) rfl rfl (fun ay=>?_) ?_))))))))
 have hl243:=tD ay
 exact mV (Iv arg) rflB
 refine stc (V:=Ix K 3) rfl rfl (fun az=>?_) ?_
 have hl245:=tD az
 exact yT rfl rflB
 refine stc (V:=z) rfl rfl (fun R=>?_) ?_
 have hl247:=tD R
 exact lD z tR (ifpC R) (zd (u.b0) rfl) rflB
 refine stc (V:=Iw (((yj d ty f).moves).length)) rfl rfl (fun S=>?_) ?_
 have hl249:=tD S
 exact zC lR (ifpC S) X.1 rflB
 refine stc (V:=Iv (((((yj d ty f).moves).length:Nat):Int)-1)) rfl rfl (fun T=>?_) ?_
 have hl251:=tD T
 have aA:InR (((((yj d ty f).moves).length:Nat):Int)-1):=by omega
 exact xK (r:=((((yj d ty f).moves).length:Nat):Int)-1) (b:=1) (ifpC T) rfl (zw aA) rflB
 cases p:decide (op=5)
 have y:=p
 have p:=fD p
 refine stx rfl rfl (stx rfl rfl (st (yt rfl rfl (st (aS (.bool false) (zb (ze rfl (zp (za (R0 fun _=>st (aS (Iv 0) (zb (zq (zU pT (show _=(Iv 0:Value)from rfl) ?_))))))))))))))
 refine⟨?_,(u.s3_)⟩
 unfold xp
 simp only[h,g,l,y,Bool.not_false,Bool.not_true,Bool.true_and,Bool.false_and,Bool.or_true,if_true,if_false,Bool.false_eq_true,↓reduceIte]
 have y:=p
 have p:=tD p
 refine sty rfl rfl (cL tT (XL (x:=arg) (lo:=0) (hi:=((((yj d ty f).moves).length:Nat):Int)-1) harg dc om u) ?_)
 rintro _ w255 ⟨rfl,U⟩
 refine sty rfl rfl (yD rfl (st (yC rfl rfl (st (aS (.bool (!(decide (0≤arg)&&decide (arg≤(((((yj d ty f).moves).length:Nat):Int)-1))))) (zb ?_))))))
 cases F: !(decide (0≤arg)&&decide (arg≤(((((yj d ty f).moves).length:Nat):Int)-1)))
 have H:=F
 try simp only[zi]at F
 refine ze rfl (zp (za (R0 fun _=>st (aS (Iv 0) (zb (zq (zU pT (show _=(Iv 0:Value)from rfl) ?_)))))))
 refine⟨?_,(U.s3_)⟩
 unfold xp
 simp only[h,g,l,y,H,Bool.not_false,Bool.not_true,Bool.true_and,Bool.false_and,Bool.or_true,if_true,if_false,Bool.false_eq_true,↓reduceIte]
 have H:=F
 try simp only[zi]at F
 refine zg rfl (za (R0 fun _=>st (aS (Iv 1) (zb (zq (zU pT (show _=(Iv 1:Value)from rfl) ?_))))))
 refine⟨?_,(U.s3_)⟩
 unfold xp
 simp only[h,g,l,y,H,Bool.not_false,Bool.not_true,Bool.true_and,Bool.false_and,Bool.or_true,if_true,if_false,Bool.false_eq_true,↓reduceIte]
 have l:=E
 try simp only[zi]at E
 refine zg rfl (zp (zg rfl (za (R0 fun _=>st (aS (Iv 1) (zb (zq (zU pT (show _=(Iv 1:Value)from rfl) ?_))))))))
 refine⟨?_,(u.s3_)⟩
 unfold xp
 simp only[h,g,l,Bool.not_false,Bool.not_true,Bool.true_and,Bool.false_and,Bool.or_true,if_true,if_false,Bool.false_eq_true,↓reduceIte]
 have g:=D
 try simp only[zi]at D
 refine zg rfl (za (R0 fun _=>st (aS (Iv 2) (zb (zq (zU pT (show _=(Iv 2:Value)from rfl) ?_))))))
 refine⟨?_,(u.s3_)⟩
 unfold xp
 simp only[h,g,Bool.not_false,Bool.not_true,Bool.true_and,Bool.false_and,Bool.or_true,if_true,if_false,Bool.false_eq_true,↓reduceIte]
 have h:=I
 try simp only[zi]at I
 refine zg rfl (za (R0 fun _=>st (aS (Iv 8) (zb (zq (zU pT (show _=(Iv 8:Value)from rfl) ?_))))))
 refine⟨?_,(Z.s3_)⟩
 unfold xp
 simp only[h,Bool.not_false,Bool.not_true,Bool.true_and,Bool.false_and,Bool.or_true,if_true,if_false,Bool.false_eq_true,↓reduceIte]
end
section
set_option maxRecDepth 100000
open Go.ChangeShapes Go.WideShapes Go.ChangeAt Go.RowKit
theorem Tryz.own:ownKnob Tryz.prog.godebug=none:=by kernel_rfl
theorem Tryz.laidOut:laidOutB Tryz.prog=true:=by kernel_rfl
theorem zab:Tryz.prog.globalNamed "quayside/schema.kinds" =some 0:=by kernel_rfl
theorem zdm:(Tryz.prog.globals[0]?).map (·.type)=some 174:=by kernel_rfl
theorem JF {W:World}(h:laidMetH Tryz.prog [("quayside/schema.kinds",Rows.laid_quayside_schema_kinds)] W):RdS W (WU W) (.slice (some ⟨0,0,none⟩) 6 6) kindsL:=by
 rw[MakeChecks.laidMetH_plain _ _ _ (by kernel_rfl)]at h
 exact zcs zab (Lib.tabIs_of_head (k:=.i64) (zs:=kindsL) zab zdm uR Tryz.underlying3 (by kernel_rfl) (by kernel_rfl) h) (by decide) (by decide)
theorem zas (os:Os)(args:Array Value):laidMetH Tryz.prog [("quayside/schema.kinds",Rows.laid_quayside_schema_kinds)] ((World.doorLaid Tryz.prog 14 os).forCall (fun _ _=>0) ⟨#[],args,[]⟩).memory:=
 laidMetH_of_parts3 (fuel:=8) (laidMet_of_run' 8 (by kernel_rfl) (by kernel_rfl)) (by kernel_rfl) (by kernel_rfl)
end
section
open Go.Proofs Go.RowKit
theorem zbH {t:Typ}{c:List Cel}{f op arg:Int}(h:xB t c f op arg=0):xC (xn t f) c (yE c f) op arg=true:=by
 unfold xB at h
 split at h
 ·assumption
 ·cases h
end
section
open Go.RowKit Go.MapKept
structure KLaw (P:Program) (kt:TypeId) {κ:Type} [DecidableEq κ] (enc:κ→Value):Prop where
 inj: ∀{a b:κ},enc a=enc b→a=b
 desc: ∃d,P.underlying kt=some d∧ ∀a b,Instr.sameNow d (enc a) (enc b)=none
 check: ∀(w:World) (e:Bool) (k:κ),(Instr.checkKey e 10000 kt (enc k)).run P w=.ok () w
 eql: ∀(w:World) (a b:κ),(Op.equal kt (enc a) (enc b)).run P w=.ok (decide (a=b)) w
 stays: ∀k,Instr.sameBits 10000 (enc k) (enc k)=true
def yW {κ β:Type}[DecidableEq κ](L:List (κ×β))(k:κ):Option β:=(L.find? fun p=>decide (p.1=k)).map (·.2)
def UB {κ β:Type}[DecidableEq κ](L:List (κ×β))(k:κ)(x:β):List (κ×β):=match L.findIdx? fun p=>decide (p.1=k)with
 |some j=>L.set j (k,x)
 |none=>L++[(k,x)]
def QE {κ β:Type}[DecidableEq κ](L:List (κ×β))(k:κ)(z:β):List (κ×β):=match L.findIdx? fun p=>decide (p.1=k)with
 |some _=>L
 |none=>L++[(k,z)]
section
variable {P:Program}{kt:TypeId}{κ:Type}[DecidableEq κ]{enc:κ→Value}
theorem KLaw.ask (K:KLaw P kt enc)(k:κ)(w:World): ∀(es:List MapEntry) (i:Nat),(∀e∈es,∃q,e.key=enc q)→
 ((Instr.findAsking kt (enc k) es i).run P w=.ok none w∧ ∀e∈es,e.key≠enc k)∨ ∃j e,(Instr.findAsking kt (enc k) es i).run P w=.ok (some (i+j,e.val)) w∧es[j]? =some e∧e.key=enc k
 |[],i,_=>.inl ⟨rfl,by simp⟩
 |e::es,i,h=>by
  obtain⟨q,hq⟩:=h e (.head _)
  by_cases hk:k=q
  ·subst hk
   refine .inr ⟨0,e,?_,rfl,hq⟩
   simp[Instr.findAsking,hq,K.eql,go_sem]
  ·rcases KLaw.ask K k w es (i+1) (fun x hx=>h x (.tail _ hx))with⟨h1,h2⟩|⟨j,e',h1,h2,h3⟩
   ·refine .inl ⟨?_,fun x hx=>?_⟩
    ·simp[Instr.findAsking,hq,K.eql,hk,h1,go_sem]
    ·rcases List.mem_cons.1 hx with rfl|hx
     ·rw[hq];exact fun e=>hk (K.inj e).symm
     ·exact h2 x hx
   ·refine .inr ⟨j+1,e',?_,by simpa using h2,h3⟩
    have e9:i+1+j=i+(j+1):=by omega
    rw[e9]at h1
    simp[Instr.findAsking,hq,K.eql,hk,h1,go_sem]
theorem KLaw.find (K:KLaw P kt enc)(k:κ)(w:World)(es:List MapEntry)(h: ∀e∈es,∃q,e.key=enc q):
 ((Instr.findKey kt (enc k) es).run P w=.ok none w∧ ∀e∈es,e.key≠enc k)∨ ∃j e,(Instr.findKey kt (enc k) es).run P w=.ok (some (j,e.val)) w∧es[j]? =some e∧e.key=enc k:=by
 obtain⟨d,hd,hs⟩:=K.desc
 match es,h with
 |[],h=>exact .inl ⟨by simp[Instr.findKey,run_underlying hd,Instr.findNow,go_sem],by simp⟩
 |e::es,h=>
  obtain⟨q,hq⟩:=h e (.head _)
  have hn:Instr.findNow d (enc k) (e::es) 0=none:=by simp[Instr.findNow,hq,hs]
  have hr: ∀r,(Instr.findAsking kt (enc k) (e::es) 0).run P w=.ok r w→(Instr.findKey kt (enc k) (e::es)).run P w=.ok r w:=by
   intro r hr
   simp[Instr.findKey,run_underlying hd,hn,go_sem]
   exact hr
  rcases K.ask k w (e::es) 0 h with⟨h1,h2⟩|⟨j,e',h1,h2,h3⟩
  ·exact .inl ⟨hr _ h1,h2⟩
  ·exact .inr ⟨j,e',hr _ (by rw[h1,Nat.zero_add]),h2,h3⟩
theorem KLaw.keeps (K:KLaw P kt enc)(k:κ)(w:World):(Instr.keyThatStays (enc k) (enc k)).run P w=.ok (enc k) w:=by
 simp[Instr.keyThatStays,K.stays]
def EntsV (enc:κ→Value)(es:List MapEntry)(L:List (κ×Value)):Prop:=es.map (fun e=>(e.key,e.val))=L.map (fun p=>(enc p.1,p.2))
theorem EntsV.len {es:List MapEntry}{L:List (κ×Value)}(h:EntsV enc es L):es.length=L.length:=by have:=congrArg List.length h;simpa using this
theorem EntsV.at_ {es:List MapEntry}{L:List (κ×Value)}(h:EntsV enc es L){j:Nat}{e:MapEntry}(he:es[j]? =some e): ∃p,L[j]? =some p∧e.key=enc p.1∧e.val=p.2:=by
 have h1:(es.map (fun e=>(e.key,e.val)))[j]? =(L.map (fun p=>(enc p.1,p.2)))[j]? :=by rw[show es.map _=L.map _ from h]
 rw[List.getElem?_map,List.getElem?_map,he]at h1
 cases hp:L[j]? with
 |none=>rw[hp]at h1;cases h1
 |some p=>rw[hp]at h1;simp only[Option.map_some,Option.some.injEq,Prod.mk.injEq]at h1;exact⟨p,rfl,h1.1,h1.2⟩
theorem EntsV.keys {es:List MapEntry}{L:List (κ×Value)}(h:EntsV enc es L): ∀e∈es,∃q,e.key=enc q:=by
 intro e he
 obtain⟨j,hj,rfl⟩:=List.getElem_of_mem he
 obtain⟨p,_,h1,_⟩:=h.at_ (List.getElem?_eq_getElem hj)
 exact⟨p.1,h1⟩
theorem EntsV.nodup {es:List MapEntry}{L:List (κ×Value)}(h:EntsV enc es L)(hp:(es.map (·.key)).Nodup):(L.map (·.1)).Nodup:=by
 have h1:(es.map (·.key))=(L.map (·.1)).map enc:=by
  have:=congrArg (List.map Prod.fst) h
  simpa[Function.comp_def]using this
 have h2:((L.map (·.1)).map enc).Nodup:=by rw[←h1];exact hp
 exact(List.pairwise_map.1 h2).imp (fun hne e=>hne (by rw[e]))
theorem EntsV.none {es:List MapEntry}{L:List (κ×Value)}(h:EntsV enc es L){k:κ}(hk: ∀e∈es,e.key≠enc k):(L.findIdx? fun p=>decide (p.1=k))=none∧yW L k=none:=by
 have key: ∀p∈L,¬p.1=k:=by
  intro p hp e
  obtain⟨j,hj,rfl⟩:=List.getElem_of_mem hp
  have hje:j<es.length:=by rw[h.len];exact hj
  obtain⟨q,h1,h2,_⟩:=h.at_ (List.getElem?_eq_getElem hje)
  rw[List.getElem?_eq_getElem hj]at h1
  cases h1
  exact hk _ (List.getElem_mem hje) (by rw[h2,e])
 refine⟨by rw[List.findIdx?_eq_none_iff];intro p hp;simpa using key p hp,?_⟩
 unfold yW
 rw[Option.map_eq_none_iff,List.find?_eq_none]
 intro p hp
 simpa using key p hp
theorem EntsV.some {es:List MapEntry}{L:List (κ×Value)}(h:EntsV enc es L)(hi: ∀{a b:κ},enc a=enc b→a=b)(hp:(es.map (·.key)).Nodup){k:κ}{j:Nat}{e:MapEntry}(he:es[j]? =some e)(hk:e.key=enc k):
 j<L.length∧(L.findIdx? fun p=>decide (p.1=k))=some j∧yW L k=some e.val:=by
 obtain⟨p,h1,h2,h3⟩:=h.at_ he
 have hjl:=(List.getElem?_eq_some_iff.1 h1).1
 have hpe:L[j]=p:=(List.getElem?_eq_some_iff.1 h1).2
 have hpk:p.1=k:=hi (by rw[←h2,hk])
 have hn:=h.nodup hp
 have first: ∀i (hij:i<j),¬(L[i]'(by omega)).1=k:=fun i hij=>by
  have:=List.pairwise_iff_getElem.1 (List.pairwise_map.1 hn) i j (by omega) hjl hij
  intro e;exact this (by rw[e,hpe,hpk])
 refine⟨hjl,?_,?_⟩
 ·rw[List.findIdx?_eq_some_iff_getElem]
  exact⟨hjl,by simp[hpe,hpk],fun i hi=>by simpa using first i hi⟩
 ·unfold yW
  have:(L.find? fun p=>decide (p.1=k))=Option.some p:=by
   rw[List.find?_eq_some_iff_getElem]
   exact⟨by simp[hpk],j,hjl,hpe,fun i hi=>by simpa using first i hi⟩
  rw[this,Option.map_some,h3]
def IsMap (enc:κ→Value)(w:World)(m:Nat)(L:List (κ×Value)):Prop:= ∃es clock,w.heap[m]? =some (.map es clock)∧Stamped es clock∧EntsV enc es.toList L∧clock=es.size
def IsMapE (enc:κ→Value)(w:World)(m:Nat)(L:List (κ×Value))(j:Nat)(s:Int):Prop:= ∃es clock,w.heap[m]? =some (.map es clock)∧Stamped es clock∧EntsV enc es.toList L∧clock=es.size∧ ∃e,es[j]? =some e∧(e.born:Int)=s
theorem IsMapE.is {w:World}{m j:Nat}{s:Int}{L:List (κ×Value)}(h:IsMapE enc w m L j s):IsMap enc w m L:=by obtain⟨es,c,h1,h2,h3,h4,_⟩:=h;exact⟨es,c,h1,h2,h3,h4⟩
theorem IsMap.lt {w:World}{m:Nat}{L:List (κ×Value)}(h:IsMap enc w m L):m<w.heap.size:=by obtain⟨es,c,hb,_⟩:=h;exact xz hb
end
section
variable {P:Program}{d:Option Tmp}{ty:TypeId}{pos:String}{af:Array Edge}{gd:Option (Nat×Bool)}{σ:Env}{w:World}{K:Value→World→Prop}{κ:Type}[DecidableEq κ]{enc:κ→Value}{G:Nat→Prop}{W:World}{As:List HP}{m:Nat}{L:List (κ×Value)}
theorem YL {m:Nat}{es es':Array MapEntry}{c c':Nat}(hb:w.heap[m]? =some (.map es c)):Chg (fun i=>i=m) w {w with heap:=w.heap.setIfInBounds m (.map es' c')}:=by
 refine⟨rfl,rfl,rfl,by simp,fun i hi hne=>(heap_set hb).2 i hne,?_,Nat.le_refl _⟩
 rintro i ⟨c,T,hc⟩
 have hne:i≠m:=fun e=>by subst e;rw[hb]at hc;cases hc
 exact⟨c,T,by rw[(heap_set hb).2 i hne];exact hc⟩
theorem Vv {es:Array MapEntry}(h:EntsV enc es.toList L)(k:κ)(v:Value)(n:Nat):EntsV enc (es.push {key:=enc k,val:=v,born:=n}).toList (L++[(k,v)]):=by
 unfold EntsV at*
 rw[Array.toList_push,List.map_append,List.map_append,h]
 rfl
theorem Wg {es:Array MapEntry}(h:EntsV enc es.toList L){k:κ}{v:Value}{j:Nat}{e:MapEntry}(he:es.toList[j]? =some e)(f:MapEntry→MapEntry)(hk:(f e).key=enc k)(hv:(f e).val=v):EntsV enc (es.modify j f).toList (L.set j (k,v)):=by
 unfold EntsV at*
 rw[Array.toList_modify,List.modify_eq_set,he]
 simp only[Option.map_some,Option.getD_some,List.map_set,h,hk,hv]
theorem Kd {t kt et:TypeId}{x y:Operand}{k:κ}{z:Value}(hK:KLaw P kt enc)(hU:P.underlying t=some (.map kt et))(hZ: ∀w,(zeroValue et).run P w=.ok z w)
 (hx:ev σ x=.map (some m)) (hy:ev σ y=enc k) (hm:IsMap enc w m L) (h:K ((yW L k).getD z) w):opV P ⟨d,.lookup t x y false,ty,pos,af,gd⟩ σ w K:=by
 obtain⟨es,clock,hb,hs,he,_⟩:=hm
 rcases hK.find k w es.toList he.keys with⟨h1,h2⟩|⟨j,e,h1,h2,h3⟩
 ·rw[(he.none h2).2]at h
  refine yp (v:=z) (w':=w) ?_ h
  simp[execOp,hx,hy,Instr.lookup,run_underlying hU,MapKept.run_getObj_map hb,hK.check,h1,hZ,go_sem]
 ·rw[(he.some hK.inj hs.2.2 h2 h3).2.2]at h
  refine yp (v:=e.val) (w':=w) ?_ h
  simp[execOp,hx,hy,Instr.lookup,run_underlying hU,MapKept.run_getObj_map hb,hK.check,h1,go_sem]
theorem Qh {t kt et:TypeId}{x y:Operand}{k:κ}{z:Value}(hK:KLaw P kt enc)(hU:P.underlying t=some (.map kt et))(hZ: ∀w,(zeroValue et).run P w=.ok z w)
 (hx:ev σ x=.map (some m)) (hy:ev σ y=enc k) (hm:IsMap enc w m L) (h:K (.tuple #[(yW L k).getD z,.bool (yW L k).isSome]) w):opV P ⟨d,.lookup t x y true,ty,pos,af,gd⟩ σ w K:=by
 obtain⟨es,clock,hb,hs,he,_⟩:=hm
 rcases hK.find k w es.toList he.keys with⟨h1,h2⟩|⟨j,e,h1,h2,h3⟩
 ·rw[(he.none h2).2]at h
  refine yp (v:=.tuple #[z,.bool false]) (w':=w) ?_ h
  simp[execOp,hx,hy,Instr.lookup,run_underlying hU,MapKept.run_getObj_map hb,hK.check,h1,hZ,go_sem]
 ·rw[(he.some hK.inj hs.2.2 h2 h3).2.2]at h
  refine yp (v:=.tuple #[e.val,.bool true]) (w':=w) ?_ h
  simp[execOp,hx,hy,Instr.lookup,run_underlying hU,MapKept.run_getObj_map hb,hK.check,h1,go_sem]
theorem VK {t kt et:TypeId}{x y z:Operand}{k:κ}{v:Value}(hK:KLaw P kt enc)(hU:P.underlying t=some (.map kt et))(hx:ev σ x=.map (some m))(hy:ev σ y=enc k)(hz:ev σ z=v)(hm:IsMap enc w m L)
 (h: ∀w1,IsMap enc w1 m (UB L k v)→Chg (fun i=>i=m) w w1→K undef w1):opV P ⟨d,.mapUpdate t x y z,ty,pos,af,gd⟩ σ w K:=by
 obtain⟨es,clock,hb,hs,he,hcl⟩:=hm
 rcases hK.find k w es.toList he.keys with⟨h1,h2⟩|⟨j,e,h1,h2,h3⟩
 ·refine YY (w':={w with heap:=w.heap.setIfInBounds m (.map (es.push {key:=enc k,val:=v,born:=clock}) (clock+1))}) ?_ (h _ ?_ (YL hb))
  ·simp[execOp,hx,hy,hz,Instr.mapUpdate,run_underlying hU,MapKept.run_getObj_map hb,hK.check,h1,MapKept.run_setObj_map _ hb,go_sem]
  ·unfold UB
   rw[(he.none h2).1]
   exact⟨_,_,(heap_set hb).1,stamped_push hs h2,Vv he k v clock,by simp[hcl]⟩
 ·have hja:es[j]? =some e:=by simpa using h2
  obtain⟨hjl,hfi,_⟩:=he.some hK.inj hs.2.2 h2 h3
  refine YY (w':={w with heap:=w.heap.setIfInBounds m (.map (es.modify j fun e=>{e with key:=enc k,val:=v}) clock)}) ?_ (h _ ?_ (YL hb))
  ·simp[execOp,hx,hy,hz,Instr.mapUpdate,run_underlying hU,MapKept.run_getObj_map hb,hK.check,h1,hja,h3,hK.keeps,MapKept.run_setObj_map _ hb,go_sem]
  ·unfold UB
   rw[hfi]
   exact⟨_,_,(heap_set hb).1,stamped_modify hs _ _ (fun _ _=>rfl) (fun e' _ he'=>by rw[hja]at he';cases he';exact h3.symm),Wg he h2 _ rfl rfl,by simp[hcl]⟩
theorem UH {t kt et:TypeId}{x y:Operand}{k:κ}{z:Value}(hK:KLaw P kt enc)(hU:P.underlying t=some (.map kt et))(hZ: ∀w,(zeroValue et).run P w=.ok z w)(hx:ev σ x=.map (some m))(hy:ev σ y=enc k)(hm:IsMap enc w m L)
 (h: ∀w1 j s,IsMapE enc w1 m (QE L k z) j s→(∀v,(QE L k z).set j (k,v)=UB L k v)→(∃p,(QE L k z)[j]? =some p∧p.1=k)→Chg (fun i=>i=m) w w1→K (.tuple #[(yW L k).getD z,.int .i64 s]) w1):opV P ⟨d,.mapEntry t x y,ty,pos,af,gd⟩ σ w K:=by
 obtain⟨es,clock,hb,hs,he,hcl⟩:=hm
 rcases hK.find k w es.toList he.keys with⟨h1,h2⟩|⟨j,e,h1,h2,h3⟩
 ·have h0:=h {w with heap:=w.heap.setIfInBounds m (.map (es.push {key:=enc k,val:=z,born:=clock}) (clock+1))} es.size (clock:Int)
  unfold QE UB at h0
  rw[(he.none h2).1,(he.none h2).2]at h0
  refine yp (v:=.tuple #[z,.int .i64 (clock:Int)]) (w':={w with heap:=w.heap.setIfInBounds m (.map (es.push {key:=enc k,val:=z,born:=clock}) (clock+1))}) ?_ (h0 ⟨_,_,(heap_set hb).1,stamped_push hs h2,Vv he k z clock,by simp[hcl],{key:=enc k,val:=z,born:=clock},by simp,rfl⟩ ?_ ?_ (YL hb))
  ·simp[execOp,hx,hy,Instr.mapEntry,run_underlying hU,MapKept.run_getObj_map hb,hK.check,h1,hZ,MapKept.run_setObj_map _ hb,goInt,go_sem]
  ·intro v
   have hl:es.size=L.length:=by have:=he.len;simpa using this
   simp only[hl]
   rw[List.set_append_right _ _ (Nat.le_refl _),Nat.sub_self];rfl
  ·have hl:es.size=L.length:=by have:=he.len;simpa using this
   exact⟨(k,z),by rw[hl];simp,rfl⟩
 ·have hja:es[j]? =some e:=by simpa using h2
  obtain⟨hjl,hfi,hlk⟩:=he.some hK.inj hs.2.2 h2 h3
  have h0:=h {w with heap:=w.heap.setIfInBounds m (.map (es.modify j fun e=>{e with key:=enc k}) clock)} j (e.born:Int)
  unfold QE UB at h0
  rw[hfi,hlk]at h0
  have hes:EntsV enc (es.modify j fun e=>{e with key:=enc k}).toList L:=by
   have h9:=Wg he (k:=k) (v:=e.val) h2 (fun e=>{e with key:=enc k}) rfl rfl
   obtain⟨p,q1,q2,q3⟩:=he.at_ h2
   have:L.set j (k,e.val)=L:=by
    obtain⟨hj9,q4⟩:=List.getElem?_eq_some_iff.1 q1
    have hpk:p.1=k:=hK.inj (by rw[←q2,h3])
    rw[q3,show(k,p.2)=L[j] by rw[q4,←hpk]]
    exact List.set_getElem_self hj9
   rwa [this]at h9
  refine yp (v:=.tuple #[e.val,.int .i64 (e.born:Int)]) (w':={w with heap:=w.heap.setIfInBounds m (.map (es.modify j fun e=>{e with key:=enc k}) clock)}) ?_ (h0 ⟨_,_,(heap_set hb).1,stamped_modify hs _ _ (fun _ _=>rfl) (fun e' _ he'=>by rw[hja]at he';cases he';exact h3.symm),hes,by simp[hcl],{e with key:=enc k},by simp[Array.getElem?_modify,hja],rfl⟩ (fun v=>rfl) ((he.at_ h2).elim fun p hp=>⟨p,hp.1,hK.inj (by rw[←hp.2.1,h3])⟩) (YL hb))
  simp[execOp,hx,hy,Instr.mapEntry,run_underlying hU,MapKept.run_getObj_map hb,hK.check,h1,hja,h3,hK.keeps,MapKept.run_setObj_map _ hb,goInt,go_sem]
theorem Vj {t:TypeId}{x y z:Operand}{j:Nat}{s:Int}{v:Value}{p:κ×Value}(hx:ev σ x=.map (some m))(hy:ev σ y=.int .i64 s)(hz:ev σ z=v)(hm:IsMapE enc w m L j s)(hp:L[j]? =some p)
 (h: ∀w1,IsMap enc w1 m (L.set j (p.1,v))→Chg (fun i=>i=m) w w1→K undef w1):opV P ⟨d,.entryStore t x y z,ty,pos,af,gd⟩ σ w K:=by
 obtain⟨es,clock,hb,hs,he,hcl,e,hja,hbn⟩:=hm
 have h2:es.toList[j]? =some e:=by simpa using hja
 have hjs:j<es.size:=(Array.getElem?_eq_some_iff.1 hja).1
 have hej:es[j]=e:=(Array.getElem?_eq_some_iff.1 hja).2
 have hfi:es.findIdx? (fun e=>(e.born:Int)== s)=some j:=by
  rw[Array.findIdx?_eq_some_iff_getElem]
  refine⟨hjs,by simp[hej,hbn],fun i hi=>?_⟩
  have:=List.pairwise_iff_getElem.1 (List.pairwise_map.1 hs.2.1) i j (by simp;omega) (by simpa using hjs) hi
  simp only[Array.getElem_toList]at this
  rw[hej]at this
  have h9: ¬((es[i].born:Int)=s):=fun e9=>this (by omega)
  simpa using h9
 obtain⟨q,q1,q2,q3⟩:=he.at_ h2
 rw[hp]at q1
 cases q1
 refine YY (w':={w with heap:=w.heap.setIfInBounds m (.map (es.modify j fun e=>{e with val:=v}) clock)}) ?_ (h _ ?_ (YL hb))
 ·simp[execOp,hx,hy,hz,Instr.entryStore,MapKept.run_getObj_map hb,asInt,hfi,MapKept.run_setObj_map _ hb,go_sem]
 ·exact⟨_,_,(heap_set hb).1,stamped_modify hs _ _ (fun _ _=>rfl) (fun e' _ he'=>rfl),Wg he h2 _ q2 rfl,by simp[hcl]⟩
end
end
section
open Go.RowKit Go.MapKept
section
variable {κ β:Type}[DecidableEq κ]
theorem XN {L:List (κ×β)}{k q:κ}{v:β}:yW (L++[(k,v)]) q=(yW L q).or (if k=q then some v else none):=by
 unfold yW
 rw[List.find?_append]
 cases h:L.find? fun p=>decide (p.1=q)with
 |some p=>simp
 |none=>by_cases e:k=q<;>simp[List.find?,e]
theorem VQ {L:List (κ×β)}{k:κ}(h:(L.findIdx? fun p=>decide (p.1=k))=none):yW L k=none:=by
 rw[List.findIdx?_eq_none_iff]at h
 unfold yW
 rw[Option.map_eq_none_iff,List.find?_eq_none]
 intro p hp
 simp[h p hp]
theorem JB {L:List (κ×β)}{k q:κ}{v:β}{j:Nat}{p:κ×β}(hj:L[j]? =some p)(hp:p.1=k)(hf: ∀i,i<j→ ∀r,L[i]? =some r→r.1≠k):yW (L.set j (k,v)) q=if k=q then some v else yW L q:=by
 induction L generalizing j with
 |nil=>simp at hj
 |cons a L ih=>
  cases j with
  |zero=>
   simp only[List.getElem?_cons_zero,Option.some.injEq]at hj
   subst hj
   unfold yW
   by_cases e:k=q
   ·subst e;simp
   ·simp[e,hp]
  |succ j=>
   have h1:=ih (j:=j) (by simpa using hj) (fun i hi r hr=>hf (i+1) (by omega) r (by simpa using hr))
   have h0:=hf 0 (by omega) a rfl
   unfold yW at h1⊢
   rw[List.set_cons_succ,List.find?_cons,List.find?_cons]
   by_cases e:a.1=q
   ·have: ¬k=q:=fun e2=>h0 (by rw[e,e2])
    simp[e,this]
   ·simp only[e,decide_false]
    exact h1
theorem VI {L:List (κ×β)}{k:κ}{j:Nat}(h:(L.findIdx? fun p=>decide (p.1=k))=some j):(∃p,L[j]? =some p∧p.1=k)∧ ∀i,i<j→ ∀r,L[i]? =some r→r.1≠k:=by
 rw[List.findIdx?_eq_some_iff_getElem]at h
 obtain⟨hj,h1,h2⟩:=h
 refine⟨⟨L[j],List.getElem?_eq_getElem hj,by simpa using h1⟩,fun i hi r hr=>?_⟩
 have:=h2 i hi
 obtain⟨hil,e⟩:=List.getElem?_eq_some_iff.1 hr
 rw[←e];simpa using this
theorem Vx (L:List (κ×β))(k q:κ)(v:β):yW (UB L k v) q=if k=q then some v else yW L q:=by
 unfold UB
 split
 ·rename_i j hj
  obtain⟨⟨p,h1,h2⟩,h3⟩:=VI hj
  exact JB h1 h2 h3
 ·rename_i hj
  rw[XN]
  by_cases e:k=q
  ·subst e;rw[VQ hj];simp
  ·simp[e]
theorem Xi (L:List (κ×β))(k q:κ)(z:β)(h: ¬k=q):yW (QE L k z) q=yW L q:=by
 unfold QE
 split
 ·rfl
 ·rw[XN];simp[h]
end
def Xx {κ α:Type}[DecidableEq κ](X:κ→Option α)(k:κ)(x:α):κ→Option α:=fun q=>if k=q then some x else X q
section
variable {κ α:Type}[DecidableEq κ]
def ValAt (E:Value→α→HP)(w:World)(F:Nat→Prop):Option Value→Option α→Prop
 |some v,some x=>(E v x).p w F
 |none,none=>True
 |_,_=>False
theorem ValAt.loc {E:Value→α→HP}{w w':World}{F F':Nat→Prop}: ∀{v:Option Value} {x:Option α},ValAt E w F v x→(∀b,F b→b<w.heap.size→w'.heap[b]? =w.heap[b]? ∧F' b)→ValAt E w' F' v x
 |some v,some x,h,hf=>(E v x).loc h hf
 |none,none,_,_=>trivial
 |some _,none,h,_=>h.elim
 |none,some _,h,_=>h.elim
theorem ValAt.isSome {E:Value→α→HP}{w:World}{F:Nat→Prop}: ∀{v:Option Value} {x:Option α},ValAt E w F v x→v.isSome=x.isSome
 |some _,some _,_=>rfl
 |none,none,_=>rfl
 |some _,none,h=>h.elim
 |none,some _,h=>h.elim
structure Spread (w:World) (m:Nat) (f:Nat→Prop) (g:κ→Nat→Prop):Prop where
 sub: ∀k b,g k b→f b∧b<w.heap.size∧b≠m
 apart: ∀k k',k≠k'→ ∀b,g k b→ ¬g k' b
theorem Spread.loc {w w':World}{m:Nat}{f f':Nat→Prop}{g:κ→Nat→Prop}(h:Spread w m f g)(hf: ∀b,f b→b<w.heap.size→w'.heap[b]? =w.heap[b]? ∧f' b):Spread w' m f' g:=
 ⟨fun k b hb=>⟨(hf b (h.sub k b hb).1 (h.sub k b hb).2.1).2,by
  obtain⟨h1,h2,_⟩:=h.sub k b hb
  have:=(hf b h1 h2).1
  rw[Array.getElem?_eq_getElem h2]at this
  exact(Array.getElem?_eq_some_iff.1 this).1,(h.sub k b hb).2.2⟩,h.apart⟩
theorem Spread.loc2 {w w':World}{m:Nat}{f:Nat→Prop}{g:κ→Nat→Prop}(h:Spread w m f g)(hz:w.heap.size≤w'.heap.size):Spread w' m f g:=⟨fun k b hb=>⟨(h.sub k b hb).1,Nat.lt_of_lt_of_le (h.sub k b hb).2.1 hz,(h.sub k b hb).2.2⟩,h.apart⟩
def xk (enc:κ→Value)(E:Value→α→HP)(m:Nat)(X:κ→Option α):HP:=⟨fun w f=> ∃(R:List (κ×Value)) (g:κ→Nat→Prop),f m∧IsMap enc w m R∧(∀k,ValAt E w (g k) (yW R k) (X k))∧Spread w m f g,fun{w w' f f'} h hf=>by
 obtain⟨R,g,hm,⟨es,c,hb,r⟩,hv,hs⟩:=h
 exact⟨R,g,(hf m hm (xz hb)).2,⟨es,c,((hf m hm (xz hb)).1).trans hb,r⟩,fun k=>(hv k).loc (fun b hg hlt=>⟨(hf b (hs.sub k b hg).1 hlt).1,hg⟩),hs.loc hf⟩⟩
def Yb (enc:κ→Value)(E:Value→α→HP)(z:Value)(m:Nat)(X:κ→Option α)(k:κ)(v:Value):HP:=⟨fun w f=> ∃(R:List (κ×Value)) (g:κ→Nat→Prop),f m∧IsMap enc w m R∧(yW R k).getD z=v∧(yW R k).isSome=(X k).isSome∧(∀q,q≠k→ValAt E w (g q) (yW R q) (X q))∧Spread w m f g,fun{w w' f f'} h hf=>by
 obtain⟨R,g,hm,⟨es,c,hb,r⟩,h1,h2,hv,hs⟩:=h
 exact⟨R,g,(hf m hm (xz hb)).2,⟨es,c,((hf m hm (xz hb)).1).trans hb,r⟩,h1,h2,fun q hq=>(hv q hq).loc (fun b hg hlt=>⟨(hf b (hs.sub q b hg).1 hlt).1,hg⟩),hs.loc hf⟩⟩
def VY (enc:κ→Value)(E:Value→α→HP)(m:Nat)(X:κ→Option α)(k:κ)(s:Int):HP:=⟨fun w f=> ∃(R:List (κ×Value)) (g:κ→Nat→Prop) (j:Nat),f m∧IsMapE enc w m R j s∧(∀v q,yW (R.set j (k,v)) q=if k=q then some v else yW R q)∧(∃p,R[j]? =some p∧p.1=k)∧(∀q,q≠k→ValAt E w (g q) (yW R q) (X q))∧Spread w m f g,fun{w w' f f'} h hf=>by
 obtain⟨R,g,j,hm,⟨es,c,hb,r⟩,h1,h2,hv,hs⟩:=h
 exact⟨R,g,j,(hf m hm (xz hb)).2,⟨es,c,((hf m hm (xz hb)).1).trans hb,r⟩,h1,h2,fun q hq=>(hv q hq).loc (fun b hg hlt=>⟨(hf b (hs.sub q b hg).1 hlt).1,hg⟩),hs.loc hf⟩⟩
def Wc (E:Value→α→HP)(v:Value):Option α→HP
 |some x=>E v x
 |none=>Emp
end
section
variable {κ α:Type}[DecidableEq κ]{enc:κ→Value}{E:Value→α→HP}{z:Value}{m:Nat}{X:κ→Option α}{k:κ}{v:Value}{G:Nat→Prop}{W w:World}{As:List HP}
theorem Sep.mapoNew {w':World}(h:Sep G W As w)(hn:New w w' w.heap.size (.map #[] 0)):Sep G W (xk enc E w.heap.size (fun _:κ=>(none:Option α))::As) w':=
 h.push hn.ext (f:=fun i=>i=w.heap.size) ⟨[],fun _ _=>False,rfl,⟨#[],0,hn.at_,stamped_empty 0,rfl,rfl⟩,fun _=>trivial,⟨fun _ _ h=>h.elim,fun _ _ _ _ h=>h.elim⟩⟩ (fun i hi=>by omega)
theorem Sep.mapoTake (h:Sep G W (xk enc E m X::As) w)(z:Value)(k:κ): ∃v,(X k=none→v=z)∧Sep G W (Yb enc E z m X k v::Wc E v (X k)::As) w:=by
 obtain⟨fs,q1,q2⟩:=h.parts
 obtain⟨⟨R,g,hm,hM,hv,hs⟩,hl⟩:=q1 0 _ rfl
 refine⟨(yW R k).getD z,fun hx=>?_,?_⟩
 ·have:=(hv k).isSome
  rw[hx]at this
  cases hR:yW R k with
  |none=>rfl
  |some u=>rw[hR]at this;cases this
 ·have h1:Sep G W (Star [Yb enc E z m X k ((yW R k).getD z),Wc E ((yW R k).getD z) (X k)]::As) w:=by
   refine⟨h.kept,fs,fun i C hC=>?_,fun i j hi hj=>q2 i j (by simpa using hi) (by simpa using hj)⟩
   cases i with
   |succ i=>exact q1 (i+1) C (by simpa using hC)
   |zero=>
    simp only[List.getElem?_cons_zero,Option.some.injEq]at hC
    subst hC
    refine⟨⟨fun i b=>if i=0 then fs 0 b∧ ¬g k b∧b<w.heap.size else g k b,fun i C hC=>?_,fun i j hi hj hne b hb=>?_⟩,hl⟩
    ·match i,hC with
     |0,hC=>
      simp only[List.getElem?_cons_zero,Option.some.injEq]at hC
      subst hC
      refine⟨⟨R,fun q b=>if q=k then False else g q b,⟨hm,fun hg=>(hs.sub k m hg).2.2 rfl,hM.lt⟩,hM,rfl,(hv k).isSome,fun q hq=>?_,⟨fun q b hb=>?_,fun q q' hne b hb hb'=>?_⟩⟩,fun b hb=>⟨hb.1,hb.2.2⟩⟩
      ·simp only[if_neg hq];exact hv q
      ·by_cases e:q=k
       ·rw[if_pos e]at hb;exact hb.elim
       ·rw[if_neg e]at hb
        have:=hs.sub q b hb
        exact⟨⟨this.1,fun h9=>hs.apart q k e b hb h9,this.2.1⟩,this.2.1,this.2.2⟩
      ·by_cases e:q=k
       ·rw[if_pos e]at hb;exact hb.elim
       ·by_cases e':q'=k
        ·rw[if_pos e']at hb';exact hb'.elim
        ·rw[if_neg e]at hb;rw[if_neg e']at hb';exact hs.apart q q' hne b hb hb'
     |1,hC=>
      simp only[List.getElem?_cons_succ,List.getElem?_cons_zero,Option.some.injEq]at hC
      subst hC
      refine⟨?_,fun b hb=>⟨(hs.sub k b hb).1,(hs.sub k b hb).2.1⟩⟩
      have:=hv k
      cases hR:yW R k with
      |none=>
       rw[hR]at this
       cases hX:X k with
       |none=>exact trivial
       |some x=>rw[hX]at this;exact this.elim
      |some u=>
       rw[hR]at this
       cases hX:X k with
       |none=>rw[hX]at this;exact this.elim
       |some x=>rw[hX]at this;exact this
     |i+2,hC=>simp at hC
    ·simp only[List.length_cons,List.length_nil]at hi hj
     match i,j,hb with
     |0,0,_=>exact absurd rfl hne
     |0,1,hb=>exact hb.2.1
     |1,0,hb=>exact fun h9=>h9.2.1 hb
     |1,1,_=>exact absurd rfl hne
     |i+2,_,_=>omega
     |0,j+2,_=>omega
     |1,j+2,_=>omega
  exact h1.openStar
theorem Xm {f:Nat→Prop}{g:κ→Nat→Prop}{f0 f1:Nat→Prop}{w1:World}(hs:Spread w m f0 g)(h0: ∀b,f0 b→f b∧b<w.heap.size)(h1: ∀b,f1 b→f b∧b<w.heap.size)(hd: ∀b,f0 b→ ¬f1 b)(hm:f0 m)(hz:w.heap.size≤w1.heap.size):Spread w1 m f (fun q b=>if q=k then f1 b else g q b):=by
 refine⟨fun q b hb=>?_,fun q q' hne b hb hb'=>?_⟩
 ·by_cases e:q=k
  ·simp only[if_pos e]at hb
   exact⟨(h1 b hb).1,Nat.lt_of_lt_of_le (h1 b hb).2 hz,fun e2=>hd m hm (e2▸hb)⟩
  ·simp only[if_neg e]at hb
   have:=hs.sub q b hb
   exact⟨(h0 b this.1).1,Nat.lt_of_lt_of_le this.2.1 hz,this.2.2⟩
 ·by_cases e:q=k
  ·simp only[if_pos e]at hb
   have e': ¬q'=k:=fun e2=>hne (e.trans e2.symm)
   simp only[if_neg e']at hb'
   exact hd b (hs.sub q' b hb').1 hb
  ·simp only[if_neg e]at hb
   by_cases e':q'=k
   ·simp only[if_pos e']at hb'
    exact hd b (hs.sub q b hb).1 hb'
   ·simp only[if_neg e']at hb'
    exact hs.apart q q' hne b hb hb'
theorem Sep.mapoPut (h:Sep G W (Yb enc E z m X k v::Wc E v (X k)::As) w):Sep G W (xk enc E m X::As) w:=by
 have hst:=h.closeStar (Bs:=[Yb enc E z m X k v,Wc E v (X k)])
 refine hst.impl (i:=0) rfl (fun f hA=>?_)
 obtain⟨gs,r1,r2⟩:=hA
 obtain⟨⟨R,g,hm,hM,hz,hi,hv,hs⟩,hf0⟩:=r1 0 _ rfl
 obtain⟨hN,hf1⟩:=r1 1 _ rfl
 have r2':=r2 0 1 (by simp) (by simp) (by simp)
 refine⟨R,fun q b=>if q=k then gs 1 b else g q b,(hf0 m hm).1,hM,fun q=>?_,Xm hs hf0 hf1 r2' hm (Nat.le_refl _)⟩
 by_cases e:q=k
 ·subst e
  simp only[if_true]
  cases hR:yW R q with
  |none=>
   rw[hR]at hi
   cases hX:X q with
   |none=>exact trivial
   |some x=>rw[hX]at hi;cases hi
  |some u=>
   rw[hR]at hi hz
   cases hX:X q with
   |none=>rw[hX]at hi;cases hi
   |some x=>rw[hX]at hN;simp only[Option.getD_some]at hz;subst hz;exact hN
 ·simp only[if_neg e]
  exact hv q e
theorem Sep.mapo1 (h:Sep G W As w){i:Nat}(hi:As[i]? =some (Yb enc E z m X k v)): ∃R,IsMap enc w m R∧(yW R k).getD z=v∧(yW R k).isSome=(X k).isSome:=by
 obtain⟨f,⟨R,g,hm,hM,hz,hi,_⟩,_⟩:=h.get hi;exact⟨R,hM,hz,hi⟩
end
section
variable {P:Program}{d:Option Tmp}{ty:TypeId}{pos:String}{af:Array Edge}{gd:Option (Nat×Bool)}{σ:Env}{w:World}{K:Value→World→Prop}{κ α:Type}[DecidableEq κ]{enc:κ→Value}{E:Value→α→HP}{z:Value}{m:Nat}{X:κ→Option α}{k:κ}{v:Value}{G:Nat→Prop}{W:World}{As:List HP}
theorem Ka {t kt et:TypeId}{x y:Operand}{i:Nat}(h:Sep G W As w)(hi:As[i]? =some (Yb enc E z m X k v))(hK:KLaw P kt enc)(hU:P.underlying t=some (.map kt et))(hZ: ∀w,(zeroValue et).run P w=.ok z w)
 (hx:ev σ x=.map (some m)) (hy:ev σ y=enc k) (hk:K v w):opV P ⟨d,.lookup t x y false,ty,pos,af,gd⟩ σ w K:=by
 obtain⟨R,hM,e,_⟩:=h.mapo1 hi
 exact Kd hK hU hZ hx hy hM (by rw[e];exact hk)
theorem YA {t kt et:TypeId}{x y:Operand}{i:Nat}(h:Sep G W As w)(hi:As[i]? =some (Yb enc E z m X k v))(hK:KLaw P kt enc)(hU:P.underlying t=some (.map kt et))(hZ: ∀w,(zeroValue et).run P w=.ok z w)
 (hx:ev σ x=.map (some m)) (hy:ev σ y=enc k) (hk:K (.tuple #[v,.bool (X k).isSome]) w):opV P ⟨d,.lookup t x y true,ty,pos,af,gd⟩ σ w K:=by
 obtain⟨R,hM,e,e2⟩:=h.mapo1 hi
 exact Qh hK hU hZ hx hy hM (by rw[e,e2];exact hk)
theorem VJ {t kt et:TypeId}{x y u:Operand}{v':Value}{x':α}(h:Sep G W (Yb enc E z m X k v::E v' x'::As) w)(hK:KLaw P kt enc)(hU:P.underlying t=some (.map kt et))(hx:ev σ x=.map (some m))(hy:ev σ y=enc k)(hu:ev σ u=v')
 (hk: ∀w1,Sep G W (xk enc E m (Xx X k x')::As) w1→K undef w1):opV P ⟨d,.mapUpdate t x y u,ty,pos,af,gd⟩ σ w K:=by
 have hst:=h.closeStar (Bs:=[Yb enc E z m X k v,E v' x'])
 obtain⟨ff,q1,q2⟩:=hst.parts
 obtain⟨⟨gs,r1,r2⟩,hl⟩:=q1 0 _ rfl
 obtain⟨⟨R,g,hm,hM,hz,hi,hv,hs⟩,hf0⟩:=r1 0 _ rfl
 obtain⟨hN,hf1⟩:=r1 1 _ rfl
 have r2':=r2 0 1 (by simp) (by simp) (by simp)
 refine VK hK hU hx hy hu hM (fun w1 hM1 hc=>hk w1 ?_)
 have keep: ∀b,b≠m→b<w.heap.size→w1.heap[b]? =w.heap[b]? :=fun b hb hlt=>hc.block b hlt hb
 have key:(xk enc E m (Xx X k x')).p w1 (ff 0):=by
  refine⟨UB R k v',fun q b=>if q=k then gs 1 b else g q b,(hf0 m hm).1,hM1,fun q=>?_,Xm hs hf0 hf1 r2' hm hc.size⟩
  rw[Vx]
  unfold Xx
  by_cases e:q=k
  ·subst e
   simp only[if_true]
   exact(E v' x').loc hN (fun b hb hlt=>⟨keep b (fun e2=>r2' m hm (e2▸hb)) hlt,hb⟩)
  ·simp only[if_neg e,if_neg (Ne.symm e)]
   exact(hv q e).loc (fun b hb hlt=>⟨keep b (hs.sub q b hb).2.2 hlt,hb⟩)
 refine⟨hst.kept.chg hc (fun b hb=>by subst hb;exact(hl _ (hf0 _ hm).1).1),ff,fun i C hC=>?_,fun i j hi hj=>q2 i j (by simpa using hi) (by simpa using hj)⟩
 cases i with
 |zero=>
  simp only[List.getElem?_cons_zero,Option.some.injEq]at hC
  subst hC
  exact⟨key,fun b hb=>⟨(hl b hb).1,Nat.lt_of_lt_of_le (hl b hb).2 hc.size⟩⟩
 |succ i=>
  obtain⟨hp,hlp⟩:=q1 (i+1) C (by simpa using hC)
  have hne: ∀b,ff (i+1) b→b≠m:=fun b hb e2=>by
   subst e2
   exact q2 0 (i+1) (by simp) (by have:=(List.getElem?_eq_some_iff.1 hC).1;simpa using this) (by omega) _ (hf0 _ hm).1 hb
  exact⟨C.loc hp (fun b hb hlt=>⟨keep b (hne b hb) hlt,hb⟩),fun b hb=>⟨(hlp b hb).1,Nat.lt_of_lt_of_le (hlp b hb).2 hc.size⟩⟩
theorem Uz {t kt et:TypeId}{x y:Operand}(h:Sep G W (Yb enc E z m X k v::As) w)(hK:KLaw P kt enc)(hU:P.underlying t=some (.map kt et))(hZ: ∀w,(zeroValue et).run P w=.ok z w)(hx:ev σ x=.map (some m))(hy:ev σ y=enc k)
 (hk: ∀w1 s,Sep G W (VY enc E m X k s::As) w1→K (.tuple #[v,.int .i64 s]) w1):opV P ⟨d,.mapEntry t x y,ty,pos,af,gd⟩ σ w K:=by
 obtain⟨ff,q1,q2⟩:=h.parts
 obtain⟨⟨R,g,hm,hM,hz,hi,hv,hs⟩,hl⟩:=q1 0 _ rfl
 refine UH hK hU hZ hx hy hM (fun w1 j s hM1 hset hp hc=>?_)
 rw[hz]
 refine hk w1 s ?_
 have keep: ∀b,b≠m→b<w.heap.size→w1.heap[b]? =w.heap[b]? :=fun b hb hlt=>hc.block b hlt hb
 have key:(VY enc E m X k s).p w1 (ff 0):=by
  refine⟨QE R k z,g,j,hm,hM1,fun u q=>?_,hp,fun q hq=>?_,hs.loc2 hc.size⟩
  ·rw[hset u,Vx]
   by_cases e:k=q
   ·rw[if_pos e,if_pos e]
   ·rw[if_neg e,if_neg e,Xi _ _ _ _ e]
  ·rw[Xi _ _ _ _ (Ne.symm hq)]
   exact(hv q hq).loc (fun b hb hlt=>⟨keep b (hs.sub q b hb).2.2 hlt,hb⟩)
 refine⟨h.kept.chg hc (fun b hb=>by subst hb;exact(hl _ hm).1),ff,fun i C hC=>?_,fun i j hi hj=>q2 i j (by simpa using hi) (by simpa using hj)⟩
 cases i with
 |zero=>
  simp only[List.getElem?_cons_zero,Option.some.injEq]at hC
  subst hC
  exact⟨key,fun b hb=>⟨(hl b hb).1,Nat.lt_of_lt_of_le (hl b hb).2 hc.size⟩⟩
 |succ i=>
  obtain⟨hp,hlp⟩:=q1 (i+1) C (by simpa using hC)
  have hne: ∀b,ff (i+1) b→b≠m:=fun b hb e2=>by
   subst e2
   exact q2 0 (i+1) (by simp) (by have:=(List.getElem?_eq_some_iff.1 hC).1;simpa using this) (by omega) _ hm hb
  exact⟨C.loc hp (fun b hb hlt=>⟨keep b (hne b hb) hlt,hb⟩),fun b hb=>⟨(hlp b hb).1,Nat.lt_of_lt_of_le (hlp b hb).2 hc.size⟩⟩
theorem WV {t:TypeId}{x y u:Operand}{s:Int}{v':Value}{x':α}(h:Sep G W (VY enc E m X k s::E v' x'::As) w)(hx:ev σ x=.map (some m))(hy:ev σ y=.int .i64 s)(hu:ev σ u=v')
 (hk: ∀w1,Sep G W (xk enc E m (Xx X k x')::As) w1→K undef w1):opV P ⟨d,.entryStore t x y u,ty,pos,af,gd⟩ σ w K:=by
 have hst:=h.closeStar (Bs:=[VY enc E m X k s,E v' x'])
 obtain⟨ff,q1,q2⟩:=hst.parts
 obtain⟨⟨gs,r1,r2⟩,hl⟩:=q1 0 _ rfl
 obtain⟨⟨R,g,j,hm,hM,hset,⟨p,hp,hpk⟩,hv,hs⟩,hf0⟩:=r1 0 _ rfl
 obtain⟨hN,hf1⟩:=r1 1 _ rfl
 have r2':=r2 0 1 (by simp) (by simp) (by simp)
 refine Vj hx hy hu hM hp (fun w1 hM1 hc=>hk w1 ?_)
 rw[hpk]at hM1
 have keep: ∀b,b≠m→b<w.heap.size→w1.heap[b]? =w.heap[b]? :=fun b hb hlt=>hc.block b hlt hb
 have key:(xk enc E m (Xx X k x')).p w1 (ff 0):=by
  refine⟨R.set j (k,v'),fun q b=>if q=k then gs 1 b else g q b,(hf0 m hm).1,hM1,fun q=>?_,Xm hs hf0 hf1 r2' hm hc.size⟩
  rw[hset v' q]
  unfold Xx
  by_cases e:q=k
  ·subst e
   simp only[if_true]
   exact(E v' x').loc hN (fun b hb hlt=>⟨keep b (fun e2=>r2' m hm (e2▸hb)) hlt,hb⟩)
  ·simp only[if_neg e,if_neg (Ne.symm e)]
   exact(hv q e).loc (fun b hb hlt=>⟨keep b (hs.sub q b hb).2.2 hlt,hb⟩)
 refine⟨hst.kept.chg hc (fun b hb=>by subst hb;exact(hl _ (hf0 _ hm).1).1),ff,fun i C hC=>?_,fun i j hi hj=>q2 i j (by simpa using hi) (by simpa using hj)⟩
 cases i with
 |zero=>
  simp only[List.getElem?_cons_zero,Option.some.injEq]at hC
  subst hC
  exact⟨key,fun b hb=>⟨(hl b hb).1,Nat.lt_of_lt_of_le (hl b hb).2 hc.size⟩⟩
 |succ i=>
  obtain⟨hp,hlp⟩:=q1 (i+1) C (by simpa using hC)
  have hne: ∀b,ff (i+1) b→b≠m:=fun b hb e2=>by
   subst e2
   exact q2 0 (i+1) (by simp) (by have:=(List.getElem?_eq_some_iff.1 hC).1;simpa using this) (by omega) _ (hf0 _ hm).1 hb
  exact⟨C.loc hp (fun b hb hlt=>⟨keep b (hne b hb) hlt,hb⟩),fun b hb=>⟨(hlp b hb).1,Nat.lt_of_lt_of_le (hlp b hb).2 hc.size⟩⟩
end
end
section
theorem ZB {α:Type}{P:List α→Prop}(h0:P [])(h1: ∀l x,P l→P (l++[x]))(l:List α):P l:=by
 rw[←List.reverse_reverse l]
 induction l.reverse with
 |nil=>exact h0
 |cons x l ih=>rw[List.reverse_cons];exact h1 _ _ ih
def Zm (v:List Int)(o:Int):Int:=if o<0∨(v.length:Int)≤o then 0 else max (v.getD o.toNat 0) 0
def ZQ (a b:Ev):Bool:=decide (a.seq≤Zm b.deps a.origin)
def xV (a b:Ev):Bool:= !decide (a.origin=b.origin∧a.seq=b.seq)&& !ZQ a b&& !ZQ b a
def YG (k oA aA oB aB:Int):Bool:=
 if k=2 then decide (oA=2)&&decide (oB=2)&& !decide (oA=oB∧aA=aB)
 else if k=4 then decide (oA=5)&&decide (oB=5)&& !decide (oA=oB∧aA=aB)
 else if k=3 then(decide (oA=3∧aA=aB)&&decide (oB=4∧aB=aA))||(decide (oA=4∧aA=aB)&&decide (oB=3∧aB=aA))
 else false
def xl (f:Fld)(x e:Ev):Bool:=(decide (f.policy=2)||(decide (f.policy=3)&&decide (e.arg<x.arg)))&&YG f.kind x.op x.arg e.op e.arg&&xV x e
def onL (k:Int×Int)(x:Ent):Bool:= !x.void&&decide (x.ev.typ=k.1∧x.ev.agg=k.2)
def on3 (k:Int×Int×Int)(x:Ent):Bool:= !x.void&&decide (x.ev.typ=k.1∧x.ev.agg=k.2.1∧x.ev.field=k.2.2)
def Yn (d:Dcl)(ty:Int):Typ:=d.types.getD ty.toNat default
def zaf (t:Typ):List Cel:=List.replicate t.fields.length (⟨0,[]⟩:Cel)
def yu (d:Dcl)(k:Int×Int)(L:List Ent):List Cel:=L.foldl (fun c x=>if onL k x then doL (Yn d k.1) c x.ev.field x.ev.op x.ev.arg else c) (zaf (Yn d k.1))
def yw (k:Int×Int)(L:List Ent):Nat:=(L.filter (onL k)).length
def yB (k:Int×Int×Int)(L:List Ent):List Ev:=(L.filter (on3 k)).map (·.ev)
def yh (d:Dcl)(L:List Ent)(e:Ev):Bool×Int×Int:=
 if ¬xp d e.typ e.field e.op e.arg=0 then(true,0,0)
 else match (yB (e.typ,e.agg,e.field) L).find? (fun x=>xl ((Yn d e.typ).fields.getD e.field.toNat default) x e)with
  |some x=>(true,x.origin,x.seq)
  |none=>if ¬xB (Yn d e.typ) (yu d (e.typ,e.agg) L) e.field e.op e.arg=0 then(true,0,0)else(false,0,0)
def ye (d:Dcl)(L:List Ent)(e:Ev):Ent:=⟨e,(yh d L e).1,(yh d L e).2.1,(yh d L e).2.2⟩
def zk (d:Dcl)(l:List Ev):List Ent:=l.foldl (fun L e=>L++[ye d L e]) []
def zj (d:Dcl)(L:List Ent):Int×Int→Option (Nat×List Cel):=fun k=>if yw k L=0 then none else some (yw k L,yu d k L)
def yN (L:List Ent):Int×Int×Int→Option (List Ev):=fun k=>if(yB k L).isEmpty then none else some (yB k L)
def Inv (d:Dcl)(L:List Ent):Prop:= ∀ty ag:Int,0≤ty→ty<d.types.length→Right (Yn d ty) (yu d (ty,ag) L)
theorem xF (d:Dcl)(l:List Ev)(e:Ev):zk d (l++[e])=zk d l++[ye d (zk d l) e]:=by unfold zk;rw[List.foldl_append];rfl
theorem Zh (d:Dcl)(k:Int×Int)(L:List Ent)(x:Ent):yu d k (L++[x])=if onL k x then doL (Yn d k.1) (yu d k L) x.ev.field x.ev.op x.ev.arg else yu d k L:=by unfold yu;rw[List.foldl_append];rfl
theorem ZF (k:Int×Int)(L:List Ent)(x:Ent):yw k (L++[x])=if onL k x then yw k L+1 else yw k L:=by
 unfold yw
 rw[List.filter_append,List.length_append,List.filter_cons]
 split<;>simp
theorem Vt (k:Int×Int×Int)(L:List Ent)(x:Ent):yB k (L++[x])=if on3 k x then yB k L++[x.ev]else yB k L:=by
 unfold yB
 rw[List.filter_append,List.filter_cons]
 split<;>simp
theorem WJ (k:Int×Int)(L:List Ent):yw k L≤L.length:=List.length_filter_le _ _
theorem JQ {d:Dcl}{k:Int×Int}: ∀{L:List Ent},yw k L=0→yu d k L=zaf (Yn d k.1):=by
 intro L
 induction L using ZB with
 |h0=>intro _;rfl
 |h1 L x ih=>
  intro h
  rw[ZF]at h
  rw[Zh]
  split
  ·rename_i hx;rw[if_pos hx]at h;omega
  ·rename_i hx;rw[if_neg hx]at h;exact ih h
theorem Zi {d:Dcl}{L:List Ent}{x:Ent}(h:x.void=true):zj d (L++[x])=zj d L∧yN (L++[x])=yN L:=by
 constructor
 ·funext k
  have:onL k x=false:=by unfold onL;rw[h];rfl
  unfold zj
  rw[ZF,Zh,this]
  rfl
 ·funext k
  have:on3 k x=false:=by unfold on3;rw[h];rfl
  unfold yN
  rw[Vt,this]
  rfl
theorem QF {d:Dcl}{L:List Ent}{x:Ent}(h:x.void=false):zj d (L++[x])=Xx (zj d L) (x.ev.typ,x.ev.agg) (yw (x.ev.typ,x.ev.agg) L+1,doL (Yn d x.ev.typ) (yu d (x.ev.typ,x.ev.agg) L) x.ev.field x.ev.op x.ev.arg):=by
 funext k
 unfold zj Xx
 rw[ZF,Zh]
 by_cases e:(x.ev.typ,x.ev.agg)=k
 ·subst e
  have:onL (x.ev.typ,x.ev.agg) x=true:=by unfold onL;rw[h];simp
  rw[this]
  simp
 ·have:onL k x=false:=by
   unfold onL
   rw[h]
   have: ¬(x.ev.typ=k.1∧x.ev.agg=k.2):=fun h9=>e (by obtain⟨a,b⟩:=k;obtain⟨rfl,rfl⟩:=h9;rfl)
   simp[this]
  rw[this]
  simp[e]
theorem Jl {L:List Ent}{x:Ent}(h:x.void=false):yN (L++[x])=Xx (yN L) (x.ev.typ,x.ev.agg,x.ev.field) (yB (x.ev.typ,x.ev.agg,x.ev.field) L++[x.ev]):=by
 funext k
 unfold yN Xx
 rw[Vt]
 by_cases e:(x.ev.typ,x.ev.agg,x.ev.field)=k
 ·subst e
  have:on3 (x.ev.typ,x.ev.agg,x.ev.field) x=true:=by unfold on3;rw[h];simp
  rw[this]
  simp
 ·have:on3 k x=false:=by
   unfold on3
   rw[h]
   have: ¬(x.ev.typ=k.1∧x.ev.agg=k.2.1∧x.ev.field=k.2.2):=fun h9=>e (by obtain⟨a,b,c⟩:=k;obtain⟨rfl,rfl,rfl⟩:=h9;rfl)
   simp[this]
  rw[this]
  simp[e]
theorem Qu (t:Typ):Right t (zaf t):=KG
theorem Inv.nil (d:Dcl):Inv d []:=fun ty ag _ _=>Qu _
theorem Wh {d:Dcl}{L:List Ent}{e:Ev}(h:(yh d L e).1=false):xp d e.typ e.field e.op e.arg=0∧xB (Yn d e.typ) (yu d (e.typ,e.agg) L) e.field e.op e.arg=0:=by
 unfold yh at h
 split at h
 ·cases h
 rename_i h1
 split at h
 ·cases h
 split at h
 ·cases h
 rename_i h2
 exact⟨Decidable.not_not.1 h1,Decidable.not_not.1 h2⟩
theorem Inv.snoc {d:Dcl}{L:List Ent}{e:Ev}(hd:DclOk d)(h:Inv d L):Inv d (L++[ye d L e]):=by
 intro ty ag h0 h1
 rw[Zh]
 split
 ·rename_i hx
  unfold onL at hx
  simp only[Bool.and_eq_true,Bool.not_eq_true',decide_eq_true_eq]at hx
  obtain⟨hv,ht,ha⟩:=hx
  obtain⟨hf,hm⟩:=Wh (d:=d) (L:=L) (e:=e) hv
  obtain⟨f1,f2,hft⟩:=XR hf
  have ht':e.typ=ty:=ht
  have ha':e.agg=ag:=ha
  subst ht' ha'
  exact zaD hft (hd.typ _ (by omega)) (h e.typ e.agg h0 h1) (zbH hm)
 ·exact h ty ag h0 h1
theorem Inv.run {d:Dcl}(hd:DclOk d)(l:List Ev):Inv d (zk d l):=by
 induction l using ZB with
 |h0=>exact Inv.nil d
 |h1 l e ih=>rw[xF];exact ih.snoc hd
end
section
open Go.RowKit
instance {α:Type} [Rep α]:Rep (Bool×α) where
 k:=Rep.k α
 rd w F cs x:=Rep.rd w F cs x.2
 bytes:=Rep.bytes α
 bpos:=Rep.bpos
 kpos:=Rep.kpos
 len h:=Rep.len h
 one h:=Rep.one h
 mono h hF:=Rep.mono h hF
def mix {α:Type}[Rep α](G:Nat→Prop)(W:World):Src (Bool×α):=
 ⟨fun cs x=>if x.1 then(own (α:=α)).el cs x.2 else(shr (α:=α) G W).el cs x.2,fun{w f cs x} h=>by
  split at h
  ·exact(own (α:=α)).len h
  ·exact(shr (α:=α) G W).len h,fun{w f cs x} h=>by
  split at h
  ·exact(own (α:=α)).one h
  ·exact(shr (α:=α) G W).one h⟩
def ZE {α:Type}(k:Nat)(l:List α):List (Bool×α):=(l.take k).map (Prod.mk true)++(l.drop k).map (Prod.mk false)
theorem xY {α:Type}(k:Nat)(l:List α):(ZE k l).length=l.length:=by unfold ZE;simp;omega
theorem Qt {α:Type}{k i:Nat}{l:List α}(hk:k≤i)(hi:i<l.length):(ZE k l)[i]? =some (false,l[i]):=by
 unfold ZE
 rw[List.getElem?_append_right (by simp;omega)]
 simp only[List.length_map,List.length_take,List.getElem?_map,List.getElem?_drop]
 rw[show k+(i-min k l.length)=i by omega,List.getElem?_eq_getElem hi];rfl
theorem JO {α:Type}{k:Nat}{l:List α}(hk:k<l.length):(ZE k l).set k (true,l[k])=ZE (k+1) l:=by
 unfold ZE
 rw[List.take_succ_eq_append_getElem hk,List.map_append,List.append_assoc,List.set_append_right _ _ (by simp only[List.length_map,List.length_take];omega),List.drop_eq_getElem_cons hk]
 simp only[List.length_map,List.length_take,List.map_cons,List.map_nil,List.singleton_append]
 rw[show k-min k l.length=0 by omega,List.set_cons_zero]
section
variable {α:Type}[Rep α]{G:Nat→Prop}{W w:World}{As:List HP}{T:TypeId}{v:Value}{l:List α}
theorem EP.mapIn {β:Type}{q:List Value→α→Prop}{q':List Value→β→Prop}(g:α→β)(h: ∀cs x,q cs x→q' cs (g x)): ∀{css:List (List Value)} {l:List α},EP q css l→EP q' css (l.map g)
 |[],[],_=>trivial
 |_::_,_::_,hh=>⟨h _ _ hh.1,EP.mapIn g h hh.2⟩
 |[],_::_,hh=>hh.elim
 |_::_,[],hh=>hh.elim
theorem EP.mapOut {β:Type}{q:List Value→α→Prop}{q':List Value→β→Prop}(g:α→β)(h: ∀cs x,q' cs (g x)→q cs x): ∀{css:List (List Value)} {l:List α},EP q' css (l.map g)→EP q css l
 |[],[],_=>trivial
 |_::_,_::_,hh=>⟨h _ _ hh.1,EP.mapOut g h hh.2⟩
 |[],_::_,hh=>hh.elim
 |_::_,[],hh=>hh.elim
theorem Sep.toMix (h:Sep G W (RowE (shr G W) T v l::As) w):Sep G W (RowE (mix (α:=α) G W) T v (ZE 0 l)::As) w:=by
 refine h.impl (i:=0) rfl (fun f hA=>?_)
 obtain⟨css,hE,hown,hrow,hsm⟩:=hA
 have e:ZE 0 l=l.map (Prod.mk false):=by unfold ZE;simp
 rw[e]
 exact⟨css,EP.mapIn (Prod.mk false) (fun cs x hx=>hx) hE,by rw[List.length_map];exact hown,hrow,by rw[List.length_map];exact hsm⟩
theorem Sep.ofMix {n:Nat}(h:Sep G W (RowE (mix (α:=α) G W) T v (ZE n l)::As) w)(hn:l.length≤n):Sep G W (RowE (own (α:=α)) T v l::As) w:=by
 refine h.impl (i:=0) rfl (fun f hA=>?_)
 have e:ZE n l=l.map (Prod.mk true):=by unfold ZE;rw[List.take_of_length_le hn,List.drop_of_length_le hn];simp
 rw[e]at hA
 obtain⟨css,hE,hown,hrow,hsm⟩:=hA
 exact⟨css,EP.mapOut (Prod.mk true) (fun cs x hx=>hx) hE,by rw[List.length_map]at hown;exact hown,hrow,by rw[List.length_map]at hsm;exact hsm⟩
theorem Sep.mixAt {i k j:Nat}(h:Sep G W As w)(hi:As[i]? =some (RowE (mix (α:=α) G W) T v (ZE k l)))(hk:k≤j)(hj:j<l.length): ∃cs,CellsAt w (sb v) (so v+j*Rep.k α) cs∧Rep.rd W G cs l[j]:=by
 obtain⟨cs,f,h1,h2⟩:=h.rowAt hi (j:=j) (by rw[xY];exact hj)
 have e:(ZE k l)[j]'(by rw[xY];exact hj)=(false,l[j]):=by
  have:=Qt hk hj
  rw[List.getElem?_eq_getElem (by rw[xY];exact hj)]at this
  exact Option.some.inj this
 rw[e]at h2
 exact⟨cs,h1,h2⟩
end
section
variable {α:Type}[Rep α]{P:Program}{d:Option Tmp}{ty:TypeId}{pos:String}{af:Array Edge}{gd:Option (Nat×Bool)}{σ:Env}{w:World}{K:Value→World→Prop}{G:Nat→Prop}{W:World}{As:List HP}{N:HP}{T:TypeId}{v:Value}{l:List α}
theorem YW {t:TypeId}{j o:Nat}{x y:Operand}{u:Value}{us:List Value}(h:Sep G W (RowE (mix (α:=α) G W) T v (ZE j l)::N::As) w)(hS: ∀w,(sizeOf t).run P w=.ok us.length w)(hj:j<l.length)
 (hx:ev σ x=.pointer (some ⟨sb v,so v+j*Rep.k α+o,none⟩)) (hy:ev σ y=u) (hu:u.cells.toList=us) (ho:o+us.length≤Rep.k α) (h1: ∀u∈us,u.oneCell'=true)
 (hq: ∀w f cs0,Rep.rd W G cs0 l[j]→N.p w f→((own (α:=α)).el (cs0.take o++us++cs0.drop (o+us.length)) l[j]).p w f)
 (hK: ∀w',Sep G W (RowE (mix (α:=α) G W) T v (ZE (j+1) l)::As) w'→K undef w'):opV P ⟨d,.store t x y,ty,pos,af,gd⟩ σ w K:=by
 have e:(ZE j l)[j]'(by rw[xY];exact hj)=(false,l[j]):=by
  have:=Qt (Nat.le_refl j) hj
  rw[List.getElem?_eq_getElem (by rw[xY];exact hj)]at this
  exact Option.some.inj this
 refine yJ (α:=Bool×α) (j:=j) (o:=o) (u:=u) (us:=us) (x1:=(true,l[j])) h hS (by rw[xY];exact hj) hx hy hu ho h1 (fun w f cs0 hel hN=>?_) (fun w' h'=>hK w' (by rw[JO hj]at h';exact h'))
 rw[e]at hel
 exact hq w f cs0 hel hN
end
end
section
section
variable {P:Program}{n:Nat}{Q:Xz}{σ:Env}{w:World}{ops:List Oper}{pre:List (List Nat)}
def xj:List Nat→(Nat→Bool)→Nat
 |[],_=>0
 |s::r,d=>(if d s=true then 1 else 0)+2*xj r d
theorem QJ: ∀(ss:List Nat) (d:Nat→Bool),xj ss d<2^ss.length
 |[],_=>Nat.one_pos
 |s::r,d=>by
  have:=QJ r d
  simp only[xj,List.length_cons,Nat.pow_succ]
  split<;>omega
theorem Uh: ∀(ss:List Nat) (d:Nat→Bool) (p s:Nat),ss[p]? =some s→(xj ss d).testBit p=d s
 |[],_,_,_,h=>by simp at h
 |x::r,d,0,s,h=>by
  simp only[List.getElem?_cons_zero,Option.some.injEq]at h
  subst h
  rw[Nat.testBit_zero,xj]
  cases h:d x<;>simp<;>omega
 |x::r,d,p+1,s,h=>by
  have:=Uh r d p s (by simpa using h)
  rw[Nat.testBit_succ,xj,show((if d x=true then 1 else 0)+2*xj r d)/2=xj r d by split<;>omega]
  exact this
theorem Uc {ss:List Nat}{d:Nat→Bool}{i:Nat}(h:i∉ss):xj ss (fun j=>d j||j== i)=xj ss d:=by
 induction ss with
 |nil=>rfl
 |cons s r ih=>
  have hs: ¬s=i:=fun e=>h (e▸List.mem_cons_self)
  simp only[xj]
  rw[ih (fun hm=>h (List.mem_cons_of_mem _ hm))]
  simp[hs]
theorem Ju {ss:List Nat}{d:Nat→Bool}{i:Nat}(hnd:ss.Nodup)(h:i∈ss)(hd:d i=false):xj ss (fun j=>d j||j== i)=xj ss d+2^ss.idxOf i:=by
 induction ss with
 |nil=>cases h
 |cons s r ih=>
  obtain⟨h1,h2⟩:=List.nodup_cons.1 hnd
  by_cases e:s=i
  ·subst e
   simp only[xj,List.idxOf_cons_self]
   rw[Uc h1]
   simp[hd]
   omega
  ·have hm:i∈r:=by
    rcases List.mem_cons.1 h with e2|hm
    ·exact absurd e2.symm e
    ·exact hm
   simp only[xj]
   rw[ih h2 hm,show(s::r).idxOf i=r.idxOf i+1 by rw[List.idxOf_cons,show(s== i)=false from beq_eq_false_iff_ne.2 e];rfl,Nat.pow_succ]
   simp[e]
   omega
theorem Ui: ∀{ss:List Nat} {d:Nat→Bool},(∀s∈ss,d s=true)→xj ss d=2^ss.length-1
 |[],_,_=>rfl
 |s::r,d,h=>by
  have:=Ui (ss:=r) (d:=d) (fun q hq=>h q (List.mem_cons_of_mem _ hq))
  have h2:0<2^r.length:=Nat.two_pow_pos _
  simp only[xj,List.length_cons,Nat.pow_succ,h s List.mem_cons_self,if_true,this]
  omega
theorem Vw: ∀{ss:List Nat} {d:Nat→Bool},(∀s∈ss,d s=false)→xj ss d=0
 |[],_,_=>rfl
 |s::r,d,h=>by
  have:=Vw (ss:=r) (d:=d) (fun q hq=>h q (List.mem_cons_of_mem _ hq))
  simp[xj,h s List.mem_cons_self,this]
def zaV (pre:List (List Nat))(ss:List Nat)(m i:Nat):Bool:=(List.range ss.length).all fun p=>match ss.getD p 0 with
 |s=>(!(pre.getD i []).contains s||m.testBit p)&&(!(Nat.beq s i||(pre.getD s []).contains i)|| !m.testBit p)&&(!m.testBit p||(List.range ss.length).all fun r=> !(pre.getD s []).contains (ss.getD r 0)||m.testBit r)
def maskOk (pre:List (List Nat))(ss:List Nat)(sees:List (List Nat)):Bool:=(List.range sees.length).all fun i=>(List.range (2^ss.length)).all fun m=> !zaV pre ss m i||(sees.getD i []).contains m
theorem maskOk.mem {ss:List Nat}{sees:List (List Nat)}(h:maskOk pre ss sees=true){i:Nat}(hi:i<sees.length){done:Nat→Bool}(hc:closed pre done)(hd:done i=false)(hp: ∀j∈pre.getD i [],done j=true):xj ss done∈sees.getD i []:=by
 simp only[maskOk,List.all_eq_true,List.mem_range]at h
 have h1:=h i hi (xj ss done) (QJ _ _)
 have hcons:zaV pre ss (xj ss done) i=true:=by
  simp only[zaV,List.all_eq_true,List.mem_range]
  intro p hp'
  have hb: ∀r,r<ss.length→(xj ss done).testBit r=done (ss.getD r 0):=fun r hr=>Uh ss done r _ (by rw[List.getD_eq_getElem?_getD,List.getElem?_eq_getElem hr];rfl)
  simp only[Bool.and_eq_true,Bool.or_eq_true,Bool.not_eq_true',List.all_eq_true,List.mem_range]
  rw[hb p hp']
  refine⟨⟨?_,?_⟩,?_⟩
  ·cases hk:(pre.getD i []).contains (ss.getD p 0)with
   |false=>exact .inl rfl
   |true=>exact .inr (hp _ (List.contains_iff_mem.1 hk))
  ·cases hk:(Nat.beq (ss.getD p 0) i||(pre.getD (ss.getD p 0) []).contains i)with
   |false=>exact .inl rfl
   |true=>
    right
    rcases Bool.or_eq_true _ _▸hk with h2|h2
    ·rw[Nat.eq_of_beq_eq_true h2];exact hd
    ·cases hds:done (ss.getD p 0)with
     |false=>rfl
     |true=>have:=hc _ hds i (List.contains_iff_mem.1 h2);rw[hd]at this;cases this
  ·cases hds:done (ss.getD p 0)with
   |false=>exact .inl rfl
   |true=>
    right
    intro r hr
    rw[hb r hr]
    cases hk:(pre.getD (ss.getD p 0) []).contains (ss.getD r 0)with
    |false=>exact .inl rfl
    |true=>exact .inr (hc _ hds _ (List.contains_iff_mem.1 hk))
 rw[hcons]at h1
 simpa using h1
def Qa (P:Program)(ops:List Oper)(pre:List (List Nat))(ss:List Nat)(sees:List (List Nat))(W:Nat→(Nat→Value)→World→Prop)(A:Nat→(Nat→Value)→Prop)(σ:Env):Nat→List Oper→Prop
 |_,[]=>True
 |i,o::rest=>(∀k vals w,k∈sees.getD i []→W k vals w→(∀j,j∈pre.getD i []→A j vals)→
  if Region.wanted o (yl ops.toArray (yP ops (pre.getD i []) σ vals))then opV P o (yP ops (pre.getD i []) σ vals) w (fun v w'=> ∀vals',vals' i=v→(∀j,j≠i→vals' j=vals j)→(if ss.contains i then W (k+2^ss.idxOf i) vals' w' else w'=w)∧A i vals')
  else ∀vals',vals' i=undef→(∀j,j≠i→vals' j=vals j)→(if ss.contains i then W (k+2^ss.idxOf i) vals' w else True)∧A i vals')∧
  Qa P ops pre ss sees W A σ (i+1) rest
theorem zav {ss:List Nat}{sees:List (List Nat)}{W:Nat→(Nat→Value)→World→Prop}{A:Nat→(Nat→Value)→Prop}{i0:Nat}: ∀{l:List Oper},Qa P ops pre ss sees W A σ i0 l→ ∀i o,l[i]? =some o→ ∀k vals w,k∈sees.getD (i0+i) []→W k vals w→(∀j,j∈pre.getD (i0+i) []→A j vals)→
 if Region.wanted o (yl ops.toArray (yP ops (pre.getD (i0+i) []) σ vals))then opV P o (yP ops (pre.getD (i0+i) []) σ vals) w (fun v w'=> ∀vals',vals' (i0+i)=v→(∀j,j≠i0+i→vals' j=vals j)→(if ss.contains (i0+i)then W (k+2^ss.idxOf (i0+i)) vals' w' else w'=w)∧A (i0+i) vals')
 else ∀vals',vals' (i0+i)=undef→(∀j,j≠i0+i→vals' j=vals j)→(if ss.contains (i0+i)then W (k+2^ss.idxOf (i0+i)) vals' w else True)∧A (i0+i) vals':=by
 intro l
 induction l generalizing i0 with
 |nil=>intro _ i o h;simp at h
 |cons x l ih=>
  intro h i o ho
  obtain⟨h1,h2⟩:=h
  cases i with
  |zero=>simp only[List.getElem?_cons_zero,Option.some.injEq]at ho;subst ho;exact h1
  |succ i=>
   have:=ih h2 i o (by simpa using ho)
   rw[show i0+1+i=i0+(i+1) by omega]at this
   exact this
theorem zcR {ss:List Nat}{sees:List (List Nat)}{W:Nat→(Nat→Value)→World→Prop}{A:Nat→(Nat→Value)→Prop}(hf:Fit ops pre ops.length)(hd:xD n ops=true)(hkl:sees.length=ops.length)(hk:maskOk pre ss sees=true)(hsl: ∀s∈ss,s<ops.length)(hnd:ss.Nodup)
 (hloc: ∀k vals vals' w,(∀s∈ss,vals' s=vals s)→W k vals w→W k vals' w)
 (hlocA: ∀i vals vals',(∀j,j=i∨j∈pre.getD i []→vals' j=vals j)→A i vals→A i vals') (hob:Qa P ops pre ss sees W A σ 0 ops)
 (hfin: ∀vals w',W (2^ss.length-1) vals w'→(∀j,j<ops.length→A j vals)→Q .normal (behind ops vals σ ops.length) w'):
 ∀(fuel:Nat) (listed:Array Bool) (a:Act) (vals:Nat→Value) (w:World),listed.size=ops.length→closed pre (dn listed)→(∀j,dn listed j=true→j<ops.length)→
 ops.length≤cnt (dn listed) ops.length+fuel→Sim n (mixed ops (dn listed) vals σ) a→W (xj ss (dn listed)) vals w→(∀j,dn listed j=true→A j vals)→
 wpAny P .any ops.toArray (fun e a' w'=> ∃σ'',Sim n σ'' a'∧Q e σ'' w') fuel listed a w:=by
 have hend: ∀(listed:Array Bool) (a:Act) (vals:Nat→Value) (w:World),(∀j,j<ops.length→dn listed j=true)→(∀j,dn listed j=true→j<ops.length)→Sim n (mixed ops (dn listed) vals σ) a→W (xj ss (dn listed)) vals w→(∀j,dn listed j=true→A j vals)→
  ∃σ'',Sim n σ'' a∧Q .normal σ'' w:=by
  intro listed a vals w hall hlt hsim hW hA
  have hdn:dn listed=fun j=>decide (j<ops.length):=by
   funext j
   rw[Bool.eq_iff_iff,decide_eq_true_eq]
   exact⟨hlt j,hall j⟩
  have hst:xj ss (dn listed)=2^ss.length-1:=Ui fun s hs=>hall s (hsl s hs)
  rw[hdn,←Zl hf ops.length (Nat.le_refl _)]at hsim
  exact⟨_,hsim,hfin vals w (hst▸hW) fun j hj=>hA j (hall j hj)⟩
 intro fuel
 induction fuel with
 |zero=>
  intro listed a vals w hs hc hlt hfu hsim hW hA
  have hall:=XB (done:=dn listed) (m:=ops.length) (by omega)
  refine⟨?_,hend listed a vals w hall hlt hsim hW hA⟩
  cases hr:Region.ready .any ops.toArray listed with
  |nil=>rfl
  |cons i r=>
   have hi:i∈Region.ready .any ops.toArray listed:=by rw[hr];exact List.mem_cons_self
   obtain⟨h1,o,ho,_⟩:=(ZY hs).1 hi
   have:=hall i (List.getElem?_eq_some_iff.1 ho).1
   rw[h1]at this;cases this
 |succ fuel ih=>
  intro listed a vals w hs hc hlt hfu hsim hW hA
  refine⟨fun hr=>hend listed a vals w (YU hf hs hr) hlt hsim hW hA,fun i hi=>?_⟩
  obtain⟨o,ho,hni,hpre⟩:=Xb hf hs hc hi
  have hilen:=(List.getElem?_eq_some_iff.1 ho).1
  have hdst: ∀d,o.dst=some d→d<n:=by
   intro d hd'
   simp only[xD,List.all_eq_true]at hd
   have:=hd o (List.mem_of_getElem? ho)
   rw[hd']at this
   simpa[Nat.blt_eq]using this
  have hv:=Xr (σ:=σ) (vals:=vals) hf ho hc hni hpre
  have hbd:=maskOk.mem hk (i:=i) (by omega) hc hni hpre
  have hO:=zav hob i o ho (xj ss (dn listed)) vals w
  simp only[Nat.zero_add]at hO
  have hO':=hO hbd hW (fun j hj=>hA j (hpre j hj))
  have hset:=UG hs ho
  have hnext: ∀v a' w',(∀vals',vals' i=v→(∀j,j≠i→vals' j=vals j)→(if ss.contains i then W (xj ss (dn listed)+2^ss.idxOf i) vals' w' else W (xj ss (dn listed)) vals w')∧A i vals')→Sim n (YC (mixed ops (dn listed) vals σ) o.dst v) a'→
   wpAny P .any ops.toArray (fun e a' w'=> ∃σ'',Sim n σ'' a'∧Q e σ'' w') fuel (listed.setIfInBounds i true) a' w':=by
   intro v a' w' hn hs'
   rw[XS hf ho hni v]at hs'
   obtain⟨hWn,hAn⟩:=hn (fun j=>if j=i then v else vals j) (if_pos rfl) (fun j hj=>if_neg hj)
   refine ih _ a' (fun j=>if j=i then v else vals j) w' (by simpa using hs) ?_ ?_ ?_ ?_ ?_ ?_
   ·intro j hj j' hj'
    rw[hset]at hj⊢
    simp only[Bool.or_eq_true,beq_iff_eq]at hj⊢
    rcases hj with hj|rfl
    ·exact .inl (hc j hj j' hj')
    ·exact .inl (hpre j' hj')
   ·intro j hj
    rw[hset]at hj
    simp only[Bool.or_eq_true,beq_iff_eq]at hj
    rcases hj with hj|rfl
    ·exact hlt j hj
    ·exact hilen
   ·rw[hset,WK hni,if_pos hilen];omega
   ·rw[hset];exact hs'
   ·rw[hset]
    by_cases hm:i∈ss
    ·rw[if_pos (List.contains_iff_mem.2 hm)]at hWn
     rw[Ju hnd hm hni]
     exact hWn
    ·rw[if_neg (fun h=>hm (List.contains_iff_mem.1 h))]at hWn
     rw[Uc hm]
     exact hloc _ _ _ _ (fun s hs=>if_neg (fun e:s=i=>hm (e▸hs))) hWn
   ·intro j hj
    rw[hset]at hj
    simp only[Bool.or_eq_true,beq_iff_eq]at hj
    by_cases hji:j=i
    ·subst hji;exact hAn
    ·rcases hj with hj|hj
     ·refine hlocA j vals _ (fun q hq=>if_neg (fun e:q=i=>?_)) (hA j hj)
      subst e
      rcases hq with hq|hq
      ·exact hji hq.symm
      ·have:=hc j hj q hq;rw[hni]at this;cases this
     ·exact(hji hj).elim
  unfold wpOp
  simp only[List.getElem?_toArray,ho]
  rw[hsim.yielded,Yk (σ:=yP ops (pre.getD i []) σ vals) hv]
  split
  ·rename_i hw
   rw[if_pos hw]at hO'
   refine .inl (Vn hsim (K:=fun σ'' w'=> ∃v,(∀vals',vals' i=v→(∀j,j≠i→vals' j=vals j)→(if ss.contains i then W (xj ss (dn listed)+2^ss.idxOf i) vals' w' else W (xj ss (dn listed)) vals w')∧A i vals')∧σ''=YC (mixed ops (dn listed) vals σ) o.dst v) ?_ hdst ?_)
   ·rintro a' σ'' w' hs' ⟨v,h1,rfl⟩
    exact hnext v a' w' h1 hs'
   ·unfold opP
    rw[Wl (hf.sel i o ho) hv]
    refine WS (fun v w' h=>⟨v,fun vals' h1 h2=>?_,rfl⟩) hO'
    obtain⟨h3,h4⟩:=h vals' h1 h2
    refine⟨?_,h4⟩
    split
    ·rename_i hm;rw[if_pos hm]at h3;exact h3
    ·rename_i hm;rw[if_neg hm]at h3;subst h3;exact hW
  ·rename_i hw
   rw[if_neg hw]at hO'
   refine hnext undef _ w (fun vals' h1 h2=>?_) (hsim.put hdst undef)
   obtain⟨h3,h4⟩:=hO' vals' h1 h2
   refine⟨?_,h4⟩
   split
   ·rename_i hm;rw[if_pos hm]at h3;exact h3
   ·exact hW
theorem zbr {id:Nat}(W:Nat→(Nat→Value)→World→Prop)(A:Nat→(Nat→Value)→Prop)(pre:List (List Nat))(ss:List Nat)(sees:List (List Nat))(hm:P.follows .mixedOrders=true)(hd:xD n ops=true)(hok:drawOk ops pre ops.length=true)
 (hkl:sees.length=ops.length) (hk:maskOk pre ss sees=true) (hsl:(ss.all fun s=>Nat.blt s ops.length)=true) (hnd:ss.Nodup)
 (hW: ∀w0:World,w0.heap=w.heap→w0.os=w.os→w0.tape=w.tape→w0.output=w.output∧w.drawn≤w0.drawn→ ∀vals,W 0 vals w0)
 (hloc: ∀k vals vals' w,(∀s∈ss,vals' s=vals s)→W k vals w→W k vals' w)
 (hlocA: ∀i vals vals',(∀j,j=i∨j∈pre.getD i []→vals' j=vals j)→A i vals→A i vals')
 (hob:Qa P ops pre ss sees W A σ 0 ops)
 (hfin: ∀vals w',W (2^ss.length-1) vals w'→(∀j,j<ops.length→A j vals)→WPs P ops.toArray (Q .normal) [] (behind ops vals σ ops.length) w'):
 WP P n (.region id ops.toArray true) Q σ w:=by
 intro a hs
 have hf:=drawOk.fit hok
 have hz:dn (Array.replicate ops.toArray.size false)=fun _=>false:=by
  funext i
  simp[dn,Array.getElem?_replicate]
  split<;>rfl
 refine wp_region_any hm ?_
 refine zcR (ss:=ss) (vals:=fun _=>undef) hf hd hkl hk (fun s hs=>by
  have:=(List.all_eq_true.1 hsl) s hs;simpa[Nat.blt_eq]using this) hnd hloc hlocA hob hfin _ _ a _ (by simp) ?_ ?_ ?_ ?_ ?_ ?_
 ·intro i hi;rw[hz]at hi;cases hi
 ·intro i hi;rw[hz]at hi;cases hi
 ·simp
 ·have:mixed ops (dn (Array.replicate ops.toArray.size false)) (fun _=>undef) σ=σ:=by
   funext t
   exact Zd fun j _=>by rw[hz]
  rw[this];exact hs
 ·have:xj ss (dn (Array.replicate ops.toArray.size false))=0:=Vw fun s _=>by rw[hz]
  rw[this];exact hW {w with drawn:=w.drawn+1} rfl rfl rfl ⟨rfl,Nat.le_succ _⟩ _
 ·intro i hi;rw[hz]at hi;cases hi
end
theorem WD6 {P:Program}{n:Nat}{Q:Xz}{σ:Env}{w W0:World}{G0:Nat→Prop}{As:List HP}{ops:List Oper}{id:Nat}(W:Nat→(Nat→Value)→World→Prop)(A:Nat→(Nat→Value)→Prop)(pre:List (List Nat))(ss:List Nat)(sees:List (List Nat))(hS:Sep G0 W0 As w)
 (hob:Qa P ops pre ss sees W A σ 0 ops)
 (hfin: ∀vals w',W (2^ss.length-1) vals w'→(∀j,j<ops.length→A j vals)→WPs P ops.toArray (Q .normal) [] (behind ops vals σ ops.length) w')
 (hlocA: ∀i vals vals',(∀j,j=i∨j∈pre.getD i []→vals' j=vals j)→A i vals→A i vals':=by exact xi (by repeat first|exact trivial|refine⟨dA,?_⟩|refine⟨dT,?_⟩))
 (hm:P.follows .mixedOrders=true:=by kernel_rfl) (hd:xD n ops=true:=by kernel_rfl) (hok:drawOk ops pre ops.length=true:=by kernel_rfl) (hkl:sees.length=ops.length:=by rfl) (hk:maskOk pre ss sees=true:=by kernel_rfl) (hsl:(ss.all fun s=>Nat.blt s ops.length)=true:=by kernel_rfl) (hnd:ss.Nodup:=by decide)
 (h0: ∀vals w,Sep G0 W0 As w→W 0 vals w:=by exact fun _ _ h=>h)
 (hloc: ∀k vals vals' w,(∀s∈ss,vals' s=vals s)→W k vals w→W k vals' w:=by
  intro k vals u w H h
  try simp only[List.mem_cons,List.not_mem_nil,forall_eq_or_imp,or_false,forall_eq]at H
  rcases k with _|_|_|_|_|_|_|_|_|_|_|_|_|_|_|_|_|_|_|_|_|_|_|_|_|_|_|_|_|_|_|_|_|_|_|_|_|_|_|_|_|_|_|_|_|_|_|_|_|_|_|_|_|_|_|_|_|_|_|_|_|_|_|_|_|_|_|_|_|_|_|_|_|_|_|_|_|_|_|_|_|_|_|_|_|_|_|_|_|_|_|_|_|_|_|_|_|_|_|_|_|_|_|_|_|_|_|_|_|_|_|_|_|_|_|_|_|_|_|_|_|_|_|_|_|_|_|_|_|_
  all_goals first|exact h|exact trivial|(simp only[WF,List.getElem?_cons_zero,List.getElem?_cons_succ,H]at h⊢;exact h)):
 WP P n (.region id ops.toArray true) Q σ w:=zbr W A pre ss sees hm hd hok hkl hk hsl hnd (fun _ h1 h2 h3 h4 _=>h0 _ _ (hS.same h1 h2 h3 h4)) hloc hlocA hob hfin
end
end Go.Proofs.YtpdolkiohjdodaaGreatDoor
