import Derived.Test.YtpdolkiohjdodaaGreatDoorM1
import Derived.Maps.RangeRun
set_option maxRecDepth 8000
set_option maxHeartbeats 4000000
set_option linter.unusedSimpArgs false
set_option linter.unusedVariables false
set_option linter.unusedSectionVars false
set_option linter.deprecated false
namespace Go.Proofs.YtpdolkiohjdodaaGreatDoor
section
open Go.RowKit Go.MapKept
section
variable {α:Type}[Rep α]
def zcc (w:World)(F:Nat→Prop)(e:MapEntry)(p:Int×α):Prop:=e.key=.int .i64 p.1∧InR p.1∧ ∃cs,e.val=.agg cs.toArray∧Rep.rd w F cs p.2
def EntsR (w:World)(F:Nat→Prop):List MapEntry→List (Int×α)→Prop
 |[],[]=>True
 |e::es,p::L=>zcc w F e p∧EntsR w F es L
 |_,_=>False
def MapR (w:World)(F:Nat→Prop)(m:Nat)(L:List (Int×α)):Prop:= ∃es clock,w.heap[m]? =some (.map es clock)∧Stamped es clock∧EntsR w F es.toList L
theorem EntsR.mono {w w':World}{F F':Nat→Prop}(hF: ∀b,F b→b<w.heap.size→w'.heap[b]? =w.heap[b]? ∧F' b): ∀{es:List MapEntry} {L:List (Int×α)},EntsR w F es L→EntsR w' F' es L
 |[],[],_=>trivial
 |_::_,_::_,h=>by obtain⟨⟨h1,h2,cs,h3,h4⟩,h5⟩:=h;exact⟨⟨h1,h2,cs,h3,Rep.mono h4 hF⟩,EntsR.mono hF h5⟩
 |[],_::_,h=>h.elim
 |_::_,[],h=>h.elim
theorem EntsR.len {w:World}{F:Nat→Prop}: ∀{es:List MapEntry} {L:List (Int×α)},EntsR w F es L→es.length=L.length
 |[],[],_=>rfl
 |_::_,_::_,h=>congrArg (· +1) (EntsR.len h.2)
 |[],_::_,h=>h.elim
 |_::_,[],h=>h.elim
theorem EntsR.at_ {w:World}{F:Nat→Prop}: ∀{es:List MapEntry} {L:List (Int×α)},EntsR w F es L→ ∀(j:Nat) (hj:j<es.length) (hl:j<L.length),zcc w F es[j] L[j]
 |_::_,_::_,h,0,_,_=>h.1
 |_::_,_::_,h,j+1,hj,hl=>EntsR.at_ h.2 j (by simpa using hj) (by simpa using hl)
 |[],_::_,h,_,_,_=>h.elim
 |_::_,[],h,_,_,_=>h.elim
 |[],[],_,j,hj,_=>absurd hj (Nat.not_lt_zero j)
theorem EntsR.key {w:World}{F:Nat→Prop}: ∀{es:List MapEntry} {L:List (Int×α)},EntsR w F es L→ ∀x∈es,IsKey (.int .i64) x.key
 |[],_,_,x,hx=>by cases hx
 |e::es,p::L,h,x,hx=>by
  rcases List.mem_cons.1 hx with rfl|hx
  ·rw[h.1.1];rfl
  ·exact EntsR.key h.2 x hx
 |_::_,[],h,_,_=>h.elim
theorem EntsR.keys {w:World}{F:Nat→Prop}: ∀{es:List MapEntry} {L:List (Int×α)},EntsR w F es L→es.map (·.key)=L.map fun p=>Value.int .i64 p.1
 |[],[],_=>rfl
 |_::_,_::_,h=>by simp[h.1.1,EntsR.keys h.2]
 |[],_::_,h=>h.elim
 |_::_,[],h=>h.elim
theorem EntsR.app {w:World}{F:Nat→Prop}: ∀{es:List MapEntry} {L:List (Int×α)} {e:MapEntry} {p:Int×α},EntsR w F es L→zcc w F e p→EntsR w F (es++[e]) (L++[p])
 |[],[],_,_,_,h=>⟨h,trivial⟩
 |_::_,_::_,_,_,h,h2=>⟨h.1,EntsR.app h.2 h2⟩
 |[],_::_,_,_,h,_=>h.elim
 |_::_,[],_,_,h,_=>h.elim
theorem EntsR.set {w:World}{F:Nat→Prop}: ∀{es:List MapEntry} {L:List (Int×α)} {e:MapEntry} {p:Int×α} (j:Nat),EntsR w F es L→zcc w F e p→EntsR w F (es.set j e) (L.set j p)
 |[],[],_,_,_,h,_=>trivial
 |_::_,_::_,_,_,0,h,h2=>⟨h2,h.2⟩
 |_::_,_::_,_,_,j+1,h,h2=>⟨h.1,EntsR.set j h.2 h2⟩
 |[],_::_,_,_,_,h,_=>h.elim
 |_::_,[],_,_,_,h,_=>h.elim
theorem MapR.lt {w:World}{F:Nat→Prop}{m:Nat}{L:List (Int×α)}(h:MapR w F m L):m<w.heap.size:=by
 obtain⟨es,clock,hb,_⟩:=h;exact xz hb
theorem MapR.mono {w w':World}{F F':Nat→Prop}{m:Nat}{L:List (Int×α)}(h:MapR w F m L)(hm:w'.heap[m]? =w.heap[m]?)(hF: ∀b,F b→b<w.heap.size→w'.heap[b]? =w.heap[b]? ∧F' b):MapR w' F' m L:=by
 obtain⟨es,clock,hb,hs,he⟩:=h
 exact⟨es,clock,hm.trans hb,hs,he.mono hF⟩
theorem MapR.ext {w w':World}{F:Nat→Prop}{m:Nat}{L:List (Int×α)}(h:MapR w F m L)(hx:Ext w w'):MapR w' F m L:=
 h.mono (hx.block m h.lt (fun h=>h)) (fun b hb hlt=>⟨hx.block b hlt (fun h=>h),hb⟩)
theorem MapR.chg {w w':World}{O F:Nat→Prop}{m:Nat}{L:List (Int×α)}(h:MapR w F m L)(hx:Chg O w w')(hm: ¬O m)(hO: ∀b,F b→ ¬O b):MapR w' F m L:=
 h.mono (hx.block m h.lt hm) (fun b hb hlt=>⟨hx.block b hlt (hO b hb),hb⟩)
theorem MapR.nodup {w:World}{F:Nat→Prop}{m:Nat}{L:List (Int×α)}(h:MapR w F m L):(L.map (·.1)).Nodup:=by
 obtain⟨es,clock,hb,hs,he⟩:=h
 have h1:=hs.2.2
 rw[he.keys]at h1
 have e:(L.map fun p=>Value.int .i64 p.1)=(L.map (·.1)).map (Value.int .i64):=by simp
 rw[e]at h1
 exact(List.pairwise_map.1 h1).imp (fun hne e=>hne (by rw[e]))
end
def yi {α:Type}(L:List (Int×α))(k:Int):Option α:=(L.find? fun p=>p.1== k).map (·.2)
def xP {α:Type}(L:List (Int×α))(k:Int)(x:α):List (Int×α):=match L.findIdx? fun p=>p.1== k with
 |some j=>L.set j (k,x)
 |none=>L++[(k,x)]
theorem WG {α:Type}{L:List (Int×α)}(hn:(L.map (·.1)).Nodup){j:Nat}(hj:j<L.length):(L.find? fun p=>p.1== L[j].1)=some L[j]:=by
 rw[List.find?_eq_some_iff_getElem]
 refine⟨by simp,j,hj,rfl,fun i hi=>?_⟩
 have:=List.pairwise_iff_getElem.1 (List.pairwise_map.1 hn) i j (by omega) hj hi
 simpa using this
theorem zdx {α:Type}{L:List (Int×α)}(hn:(L.map (·.1)).Nodup){j:Nat}(hj:j<L.length):(L.findIdx? fun p=>p.1== L[j].1)=some j:=by
 rw[List.findIdx?_eq_some_iff_getElem]
 refine⟨hj,by simp,fun i hi=>?_⟩
 have:=List.pairwise_iff_getElem.1 (List.pairwise_map.1 hn) i j (by omega) hj hi
 simpa using this
section
variable {α:Type}[Rep α]{P:Program}{d:Option Tmp}{ty:TypeId}{pos:String}{af:Array Edge}{g:Option (Nat×Bool)}{σ:Env}{w:World}{K:Value→World→Prop}
theorem Yq {t:TypeId}(h: ∀w1,New w w1 w.heap.size (.map #[] 0)→K (.map (some w.heap.size)) w1):opV P ⟨d,.makeMap t none,ty,pos,af,g⟩ σ w K:=
 yp (v:=.map (some w.heap.size)) (w':={w with heap:=w.heap.push (.map #[] 0)}) (by simp[execOp,Instr.makeMap,newObj,Sem.run,go_sem]) (h _ (New.mk' _ _))
theorem New.mapR {w1:World}{m:Nat}(h:New w w1 m (.map #[] 0))(F:Nat→Prop):MapR (α:=α) w1 F m []:=⟨#[],0,h.at_,stamped_empty 0,trivial⟩
theorem Jy {t kt et:TypeId}{x y:Operand}{m:Nat}{k:Int}{F:Nat→Prop}{L:List (Int×α)}{d0:α}{zc:List Value}(hU:P.underlying t=some (.map kt et))(hK:P.underlying kt=some (.int .i64))(hZ: ∀w,(zeroValue et).run P w=.ok (.agg zc.toArray) w)
 (hz: ∀w F,Rep.rd w F zc d0) (hx:ev σ x=.map (some m)) (hy:ev σ y=.int .i64 k) (hm:MapR w F m L) (h: ∀cs,Rep.rd w F cs ((yi L k).getD d0)→K (.agg cs.toArray) w):
 opV P ⟨d,.lookup t x y false,ty,pos,af,g⟩ σ w K:=by
 have hm':=hm
 obtain⟨es,clock,hb,hs,he⟩:=hm'
 have hk:IsKey (.int .i64) (.int .i64 k):=rfl
 rcases findNow_spec hk es.toList 0 he.key with⟨h1,h2⟩|⟨j,e,h1,h2,h3⟩
 ·have hl:yi L k=none:=by
   unfold yi
   rw[Option.map_eq_none_iff,List.find?_eq_none]
   intro p hp
   obtain⟨i,hi,rfl⟩:=List.getElem_of_mem hp
   have:=(he.at_ i (by rw[he.len];exact hi) hi).1
   have h4:=h2 _ (List.getElem_mem (by rw[he.len];exact hi))
   rw[this]at h4
   simpa using h4
  refine yp (v:=.agg zc.toArray) (w':=w) ?_ (h zc (by rw[hl];exact hz _ _))
  simp[execOp,hx,hy,Instr.lookup,run_underlying hU,MapKept.run_getObj_map hb,run_checkKey hK hk,run_findKey hK h1,hZ,go_sem]
 ·obtain⟨hj,he2⟩:=List.getElem?_eq_some_iff.1 h2
  have hjl:j<L.length:=by rw[←he.len];exact hj
  obtain⟨h4,h5,cs,h6,h7⟩:=he.at_ j hj hjl
  rw[he2]at h4 h6
  have ek:L[j].1=k:=by rw[h3]at h4;cases h4;rfl
  have hl:yi L k=some L[j].2:=by
   unfold yi
   rw[←ek,WG hm.nodup hjl];rfl
  refine yp (v:=.agg cs.toArray) (w':=w) ?_ (h cs (by rw[hl];exact h7))
  simp[execOp,hx,hy,Instr.lookup,run_underlying hU,MapKept.run_getObj_map hb,run_checkKey hK hk,run_findKey hK h1,h6,go_sem]
theorem XG {t kt et:TypeId}{x y z:Operand}{m:Nat}{k:Int}{F:Nat→Prop}{L:List (Int×α)}{x1:α}{cs:List Value}(hU:P.underlying t=some (.map kt et))(hK:P.underlying kt=some (.int .i64))
 (hx:ev σ x=.map (some m)) (hy:ev σ y=.int .i64 k) (hz:ev σ z=.agg cs.toArray) (hk0:InR k) (hm:MapR w F m L) (hr:Rep.rd w F cs x1) (hF: ¬F m) (h: ∀w1,MapR w1 F m (xP L k x1)→Chg (fun i=>i=m) w w1→K undef w1):
 opV P ⟨d,.mapUpdate t x y z,ty,pos,af,g⟩ σ w K:=by
 have hm':=hm
 obtain⟨es,clock,hb,hs,he⟩:=hm'
 have hk:IsKey (.int .i64) (.int .i64 k):=rfl
 have hlt:=xz hb
 have hchg: ∀es' c',Chg (fun i=>i=m) w {w with heap:=w.heap.setIfInBounds m (.map es' c')}:=by
  intro es' c'
  refine⟨rfl,rfl,rfl,by simp,fun i hi hne=>(heap_set hb).2 i hne,?_,Nat.le_refl _⟩
  rintro i ⟨c,T,hc⟩
  have hne:i≠m:=fun e=>by subst e;rw[hb]at hc;cases hc
  exact⟨c,T,by rw[(heap_set hb).2 i hne];exact hc⟩
 have hmono: ∀es' c',∀b,F b→b<w.heap.size→(World.heap {w with heap:=w.heap.setIfInBounds m (.map es' c')})[b]? =w.heap[b]? ∧F b:=fun es' c' b hb' _=>⟨(heap_set hb).2 b (fun e=>by subst e;exact hF hb'),hb'⟩
 rcases findNow_spec hk es.toList 0 he.key with⟨h1,h2⟩|⟨j,e,h1,h2,h3⟩
 ·have hl:(L.findIdx? fun p=>p.1== k)=none:=by
   rw[List.findIdx?_eq_none_iff]
   intro p hp
   obtain⟨i,hi,rfl⟩:=List.getElem_of_mem hp
   have:=(he.at_ i (by rw[he.len];exact hi) hi).1
   have h4:=h2 _ (List.getElem_mem (by rw[he.len];exact hi))
   rw[this]at h4
   simpa using h4
  refine YY (w':={w with heap:=w.heap.setIfInBounds m (.map (es.push {key:=.int .i64 k,val:=.agg cs.toArray,born:=clock}) (clock+1))}) ?_ (h _ ?_ (hchg _ _))
  ·simp[execOp,hx,hy,hz,Instr.mapUpdate,run_underlying hU,MapKept.run_getObj_map hb,run_checkKey hK hk,run_findKey hK h1,MapKept.run_setObj_map _ hb,go_sem]
  ·refine⟨_,_,(heap_set hb).1,stamped_push hs h2,?_⟩
   unfold xP
   rw[hl,Array.toList_push]
   exact(he.mono (hmono _ _)).app ⟨rfl,hk0,cs,rfl,Rep.mono hr (hmono _ _)⟩
 ·obtain⟨hj,he2⟩:=List.getElem?_eq_some_iff.1 h2
  have hjl:j<L.length:=by rw[←he.len];exact hj
  obtain⟨h4,h5,cs',h6,h7⟩:=he.at_ j hj hjl
  rw[he2]at h4 h6
  have ek:L[j].1=k:=by rw[h3]at h4;cases h4;rfl
  have hl:(L.findIdx? fun p=>p.1== k)=some j:=by rw[←ek];exact zdx hm.nodup hjl
  have hja:es[j]? =some e:=by simpa using h2
  have hkey: ∀e',es[j]? =some e'→({e' with key:=.int .i64 k,val:=.agg cs.toArray}:MapEntry).key=e'.key:=fun e' he'=>by rw[hja]at he';cases he';exact h3.symm
  refine YY (w':={w with heap:=w.heap.setIfInBounds m (.map (es.modify j fun e=>{e with key:=.int .i64 k,val:=.agg cs.toArray}) clock)}) ?_ (h _ ?_ (hchg _ _))
  ·simp[execOp,hx,hy,hz,Instr.mapUpdate,run_underlying hU,MapKept.run_getObj_map hb,run_checkKey hK hk,run_findKey hK h1,hja,h3,run_keyThatStays hk,MapKept.run_setObj_map _ hb,go_sem]
  ·refine⟨_,_,(heap_set hb).1,stamped_modify hs _ _ (fun _ _=>rfl) (fun e' _ he'=>hkey e' he'),?_⟩
   unfold xP
   rw[hl]
   have e3:(es.modify j fun e=>{e with key:=.int .i64 k,val:=.agg cs.toArray}).toList=es.toList.set j {e with key:=.int .i64 k,val:=.agg cs.toArray}:=by
    rw[Array.toList_modify,List.modify_eq_set]
    rw[h2];rfl
   rw[e3]
   exact(he.mono (hmono _ _)).set j ⟨rfl,hk0,cs,rfl,Rep.mono hr (hmono _ _)⟩
theorem OwnS.chg {T:TypeId}{lo:Nat}{w w':World}{O F:Nat→Prop}{v:Value}{l:List α}(h:OwnS T lo w F v l)(hx:Chg O w w')(ha: ∀b,v.ownBlock=some b→ ¬O b)(hF: ∀b,F b→ ¬O b):OwnS T lo w' F v l:=
 h.mono (Nat.le_refl _) hx.size (fun b hb hlt=>⟨hx.block b hlt (hF b hb),hb⟩) (fun b hb hlt=>⟨hx.block b hlt (ha b hb),h.apart b hb⟩) (fun b hb=>⟨Nat.lt_of_lt_of_le (h.bound b hb).1 hx.size,fun hl=>hx.soft b ((h.bound b hb).2 hl)⟩)
def IterR (w:World)(it m:Nat)(L:List (Int×α))(F:Nat→Prop)(idx:List Nat):Prop:= ∃es clock seen,w.heap[m]? =some (.map es clock)∧Stamped es clock∧EntsR w F es.toList L∧w.heap[it]? =some (.mapIter (some m) clock seen clock)∧
 idx.Nodup∧(∀j∈idx,j<L.length)∧seen.toList=idx.map fun j=>(es.toList[j]?.map (·.born)).getD 0
theorem IterR.ext {w w':World}{it m:Nat}{L:List (Int×α)}{F:Nat→Prop}{idx:List Nat}(h:IterR w it m L F idx)(hx:Ext w w'):IterR w' it m L F idx:=by
 obtain⟨es,clock,seen,h1,h2,h3,h4,h5⟩:=h
 exact⟨es,clock,seen,hx.keep h1 (fun h=>h),h2,h3.mono (fun b hb hlt=>⟨hx.block b hlt (fun h=>h),hb⟩),hx.keep h4 (fun h=>h),h5⟩
theorem IterR.chg {w w':World}{O:Nat→Prop}{it m:Nat}{L:List (Int×α)}{F:Nat→Prop}{idx:List Nat}(h:IterR w it m L F idx)(hx:Chg O w w')(hi: ¬O it)(hm: ¬O m)(hF: ∀b,F b→ ¬O b):IterR w' it m L F idx:=by
 obtain⟨es,clock,seen,h1,h2,h3,h4,h5⟩:=h
 exact⟨es,clock,seen,hx.keep h1 hm,h2,h3.mono (fun b hb hlt=>⟨hx.block b hlt (hF b hb),hb⟩),hx.keep h4 hi,h5⟩
theorem zbw {t kt et:TypeId}{x:Operand}{m:Nat}{F:Nat→Prop}{L:List (Int×α)}(hU:P.underlying t=some (.map kt et))(hx:ev σ x=.map (some m))(hm:MapR w F m L)
 (h: ∀w1 it,Ext w w1→it=w.heap.size→it<w1.heap.size→IterR w1 it m L F []→K (.pointer (some ⟨it,0,none⟩)) w1):opV P ⟨d,.range t x,ty,pos,af,g⟩ σ w K:=by
 obtain⟨es,clock,hb,hs,he⟩:=hm
 have hn:=New.mk' w (.mapIter (some m) clock #[] clock)
 refine yp (v:=.pointer (some ⟨w.heap.size,0,none⟩)) (w':={w with heap:=w.heap.push (.mapIter (some m) clock #[] clock)}) ?_ (h _ _ hn.ext rfl (by simp) ?_)
 ·have:=run_range_map (P:=P) w t kt et m es clock hU hb
  simp[execOp,hx,go_sem]
  rw[this];rfl
 ·exact⟨es,clock,#[],hn.ext.keep hb (fun h=>h),hs,he.mono (fun b hb' hlt=>⟨hn.ext.block b hlt (fun h=>h),hb'⟩),hn.at_,List.nodup_nil,by simp,rfl⟩
theorem YO: ∀(n:Nat) (idx:List Nat),idx.Nodup→(∀j∈idx,j<n)→idx.length≤n
 |0,[],_,_=>Nat.le_refl _
 |0,j::_,_,h=>absurd (h j (List.mem_cons_self ..)) (Nat.not_lt_zero j)
 |n+1,idx,hn,h=>by
  by_cases hm:n∈idx
  ·have h1:=YO n (idx.erase n) (hn.erase n) (fun j hj=>by
    have h2:=(hn.mem_erase_iff).1 hj
    have:=h j h2.2
    have:=h2.1
    omega)
   rw[List.length_erase_of_mem hm]at h1
   omega
  ·have:=YO n idx hn (fun j hj=>by
    have:=h j hj
    have:j≠n:=fun e=>hm (e▸hj)
    omega)
   omega
theorem zbL {n:Nat}{idx:List Nat}(hn:idx.Nodup)(hl: ∀j∈idx,j<n)(ha: ∀j,j<n→j∈idx):List.Perm idx (List.range n):=
 (List.perm_ext_iff_of_nodup hn List.nodup_range).2 fun j=>⟨fun h=>List.mem_range.2 (hl j h),fun h=>ha j (List.mem_range.1 h)⟩
theorem Jz {β:Type}(L:List β):((List.range L.length).map fun j=>L[j]?)=L.map some:=by
 refine List.ext_getElem (by simp) fun i h1 h2=>?_
 simp at h1
 simp[h1]
theorem zbI {x:Operand}{it m:Nat}{F:Nat→Prop}{L:List (Int×α)}{idx:List Nat}(hx:ev σ x=.pointer (some ⟨it,0,none⟩))(hi:IterR w it m L F idx)(hF: ¬F it)(hmi:m≠it)
 (h0:List.Perm (idx.map fun j=>L[j]?) (L.map some)→K (.tuple #[.bool false]) w)
 (h1: ∀w1 j,j∉idx→j<L.length→idx.length<L.length→IterR w1 it m L F (idx++[j])→Chg (fun i=>i=it) w w1→ ∀u v,K (.tuple #[.bool true,u,v]) w1):opV P ⟨d,.next x false,ty,pos,af,g⟩ σ w K:=by
 obtain⟨es,clock,seen,hb,hs,he,hit,hn,hlt,hseen⟩:=hi
 have hlen:=he.len
 rcases run_next_at (P:=P) w ty it m clock clock seen es clock hit hb hs.1 (Nat.le_refl _)with⟨hz,hr⟩|⟨e,hel,w1,hal,hr⟩
 ·refine yp (v:=.tuple #[.bool false]) (w':=w) (by simp[execOp,hx,hr,go_sem]) (h0 ?_)
  rw[←Jz]
  refine List.Perm.map _ (zbL hn hlt fun j hj=>?_)
  have hj':j<es.toList.length:=by omega
  have h2:=all_seen es seen hz _ (List.getElem_mem hj')
  have h3:(es.toList[j]).born∈seen.toList:=by simpa[Array.contains_iff_mem]using h2
  rw[hseen,List.mem_map]at h3
  obtain⟨i,hi,hbi⟩:=h3
  have hil:=hlt i hi
  have hi':i<es.toList.length:=by omega
  rw[List.getElem?_eq_getElem hi']at hbi
  have h4:(es.toList[i]).born=(es.toList[j]).born:=hbi
  have h5:=List.pairwise_map.1 hs.2.1
  have:i=j:=by
   rcases Nat.lt_trichotomy i j with h|h|h
   ·exact absurd h4 (List.pairwise_iff_getElem.1 h5 i j hi' hj' h)
   ·exact h
   ·exact absurd h4.symm (List.pairwise_iff_getElem.1 h5 j i hj' hi' h)
  rwa [←this]
 ·obtain⟨hmem,hns⟩:=mem_left hel
  obtain⟨j,hj,rfl⟩:=List.getElem_of_mem hmem
  have hjl:j<L.length:=by omega
  have hji:j∉idx:=by
   intro h
   have:(es.toList[j]).born∈seen.toList:=by
    rw[hseen,List.mem_map]
    exact⟨j,h,by rw[List.getElem?_eq_getElem hj];rfl⟩
   have h3:seen.contains (es.toList[j]).born=true:=by
    have h4:(es.toList[j]).born∈seen:=by simpa using this
    simpa using h4
   rw[hns]at h3;cases h3
  have hnd:(idx++[j]).Nodup:=by
   rw[List.nodup_append]
   exact⟨hn,by simp,fun a ha b hb=>by simp at hb;subst hb;exact fun e=>hji (e▸ha)⟩
  have hall: ∀i∈idx++[j],i<L.length:=by
   intro i hi
   rcases List.mem_append.1 hi with h|h
   ·exact hlt i h
   ·simp at h;subst h;exact hjl
  have hle:=YO _ _ hnd hall
  have hw1:w1.heap=w.heap∧w1.os=w.os∧w1.tape=w.tape∧w1.output=w.output∧w.drawn≤w1.drawn:=by
   rcases hal with rfl|rfl
   ·exact⟨rfl,rfl,rfl,rfl,Nat.le_refl _⟩
   ·exact⟨rfl,rfl,rfl,rfl,Nat.le_succ _⟩
  have hlt2:=xz hit
  have hcell: ∀i,i≠it→(ChangeMaps.setBlock w1 it (.mapIter (some m) clock (seen.push (es.toList[j]).born) clock)).heap[i]? =w.heap[i]? :=by
   intro i hne
   show(w1.heap.setIfInBounds it _)[i]? =_
   rw[hw1.1]
   simp[Ne.symm hne]
  have hchg:Chg (fun i=>i=it) w (ChangeMaps.setBlock w1 it (.mapIter (some m) clock (seen.push (es.toList[j]).born) clock)):=by
   refine⟨hw1.2.1,hw1.2.2.1,hw1.2.2.2.1,?_,fun i hi hne=>hcell i hne,?_,hw1.2.2.2.2⟩
   ·show _≤(w1.heap.setIfInBounds it _).size
    rw[hw1.1];simp
   ·rintro i ⟨c,T,hc⟩
    have hne:i≠it:=fun e=>by subst e;rw[hit]at hc;cases hc
    exact⟨c,T,by rw[hcell i hne];exact hc⟩
  refine yp (v:=.tuple #[.bool true,(es.toList[j]).key,(es.toList[j]).val]) (w':=ChangeMaps.setBlock w1 it (.mapIter (some m) clock (seen.push (es.toList[j]).born) clock)) (by simp[execOp,hx,hr,go_sem]) (h1 _ j hji hjl (by simp at hle;omega) ?_ hchg _ _)
  refine⟨es,clock,seen.push (es.toList[j]).born,(hcell m hmi).trans hb,hs,he.mono (fun b hb' hlt'=>⟨hcell b (fun e=>hF (e▸hb')),hb'⟩),?_,hnd,hall,?_⟩
  ·show(w1.heap.setIfInBounds it _)[it]? =_
   rw[hw1.1];simp[hlt2]
  ·rw[Array.toList_push,hseen,List.map_append,List.map_cons,List.map_nil,List.getElem?_eq_getElem hj];rfl
theorem zaU {x:Operand}{it m j:Nat}{F:Nat→Prop}{L:List (Int×α)}{idx:List Nat}(hx:ev σ x=.pointer (some ⟨it,0,none⟩))(hi:IterR w it m L F (idx++[j]))
 (h: ∀(hj:j<L.length) cs,Rep.rd w F cs L[j].2→InR L[j].1→K (.tuple #[.int .i64 L[j].1,.agg cs.toArray]) w):opV P ⟨d,.entry x,ty,pos,af,g⟩ σ w K:=by
 obtain⟨es,clock,seen,hb,hs,he,hit,hn,hlt,hseen⟩:=hi
 have hjl:j<L.length:=hlt j (by simp)
 have hje:j<es.toList.length:=by rw[he.len];exact hjl
 obtain⟨hk,hr0,cs,hv,hr⟩:=he.at_ j hje hjl
 have hsn: ∃seen0:Array Nat,seen=seen0.push (es.toList[j]).born:=by
  refine⟨(idx.map fun j=>(es.toList[j]?.map (·.born)).getD 0).toArray,?_⟩
  apply Array.ext'
  rw[hseen,Array.toList_push,List.map_append,List.map_cons,List.map_nil,List.getElem?_eq_getElem hje];rfl
 obtain⟨seen0,rfl⟩:=hsn
 have hrun:=run_entry_at (P:=P) w it m clock seen0 es clock _ hit hb (List.getElem_mem hje) hs.2.1
 rw[hk,hv]at hrun
 exact yp (v:=.tuple #[.int .i64 L[j].1,.agg cs.toArray]) (w':=w) (by simp[execOp,hx,hrun,go_sem]) (h hjl cs hr hr0)
theorem zz {x:Operand}{vs:List Value}{i:Nat}{v:Value}(hx:ev σ x=.tuple vs.toArray)(hv:vs[i]? =some v)(h:K v w):opV P ⟨d,.extract x i,ty,pos,af,g⟩ σ w K:=by
 obtain⟨hi,rfl⟩:=List.getElem?_eq_some_iff.1 hv
 exact yp (v:=vs[i]) (w':=w) (by simp[execOp,hx,Instr.extract,hi,go_sem]) h
theorem ZX {x:Operand}{t t2:TypeId}{b o:Nat}(hU:P.underlying t=some (.pointer (P.pointee t)))(hx:ev σ x=.pointer (some ⟨b,o,none⟩))(h:K (.bool false) w):
 opV P ⟨d,.binOp .eql t x (.const (.pointer none)) t2,ty,pos,af,g⟩ σ w K:=by
 have hc:ev σ (.const (.pointer none))=.pointer none:=rfl
 refine yp (v:=.bool false) (w':=w) ?_ h
 have hr:=run_eql_pointer_nil (P:=P) (w:=w) t (some ⟨b,o,none⟩) hU
 simp[execOp,hx,hc,eqGuard,hr,go_sem]
theorem zm {x:Operand}{b o:Nat}(hx:ev σ x=.pointer (some ⟨b,o,none⟩))(h:K (.pointer (some ⟨b,o,none⟩)) w):opV P ⟨d,.nilCheck x,ty,pos,af,g⟩ σ w K:=
 yp (v:=.pointer (some ⟨b,o,none⟩)) (w':=w) (by simp[execOp,hx,go_sem]) h
end
end
section
open Go.RowKit
structure HP where
 p:World→(Nat→Prop)→Prop
 loc: ∀{w w':World} {f f':Nat→Prop},p w f→(∀b,f b→b<w.heap.size→w'.heap[b]? =w.heap[b]? ∧f' b)→p w' f'
theorem HP.weak (A:HP){w:World}{f f':Nat→Prop}(h:A.p w f)(hf: ∀b,f b→b<w.heap.size→f' b):A.p w f':=A.loc h (fun b hb hlt=>⟨rfl,hf b hb hlt⟩)
theorem HP.cut (A:HP){w:World}{f:Nat→Prop}(h:A.p w f):A.p w (fun b=>f b∧b<w.heap.size):=A.weak h (fun _ hb hlt=>⟨hb,hlt⟩)
def Emp:HP:=⟨fun _ _=>True,fun _ _=>trivial⟩
structure Kept (G:Nat→Prop) (W w:World):Prop where
 os:w.os=W.os
 tape:w.tape=W.tape
 output:w.output=W.output
 size:W.heap.size≤w.heap.size
 drawn:W.drawn≤w.drawn
 keep: ∀b,G b→b<W.heap.size∧w.heap[b]? =W.heap[b]?
theorem Kept.refl {G:Nat→Prop}{W:World}(h: ∀b,G b→b<W.heap.size):Kept G W W:=⟨rfl,rfl,rfl,Nat.le_refl _,Nat.le_refl _,fun b hb=>⟨h b hb,rfl⟩⟩
theorem Kept.chg {G O:Nat→Prop}{W w w':World}(h:Kept G W w)(hx:Chg O w w')(hO: ∀b,O b→ ¬G b):Kept G W w':=
 ⟨hx.os.trans h.os,hx.tape.trans h.tape,hx.output.trans h.output,Nat.le_trans h.size hx.size,Nat.le_trans h.drawn hx.drawn,
  fun b hb=>⟨(h.keep b hb).1,(hx.block b (Nat.lt_of_lt_of_le (h.keep b hb).1 h.size) (fun ho=>hO b ho hb)).trans (h.keep b hb).2⟩⟩
def zdo (G:Nat→Prop)(W:World)(G':Nat→Prop)(W':World):Prop:= ∀b,G b→b<W.heap.size→W'.heap[b]? =W.heap[b]? ∧G' b
theorem RdS.base {α:Type}[Rep α]{G G':Nat→Prop}{W W':World}{v:Value}{l:List α}(h:RdS W G v l)(hb:zdo G W G' W'):RdS W' G' v l:=h.mono hb
structure Sep (G:Nat→Prop) (W:World) (As:List HP) (w:World):Prop where
 kept:Kept G W w
 parts: ∃fs:Nat→Nat→Prop,(∀i A,As[i]? =some A→A.p w (fs i)∧ ∀b,fs i b→ ¬G b∧b<w.heap.size)∧ ∀i j,i<As.length→j<As.length→i≠j→ ∀b,fs i b→ ¬fs j b
section
variable {G:Nat→Prop}{W w w':World}{As Bs:List HP}{A B:HP}
theorem Sep.start (w:World):Sep (WU w) w [] w:=⟨Kept.refl (fun _ h=>h),fun _ _=>False,fun i A h=>by simp at h,fun i j hi=>absurd hi (Nat.not_lt_zero i)⟩
theorem Sep.fin (h:Sep (WU W) W As w):Ext W w:=
 ⟨h.kept.os,h.kept.tape,h.kept.output,h.kept.size,fun b hb _=>(h.kept.keep b hb).2,fun b ⟨c,T,hc⟩=>⟨c,T,((h.kept.keep b (xz hc)).2).trans hc⟩,h.kept.drawn⟩
theorem Sep.take (h:Sep G W As w){i:Nat}(hi:As[i]? =some A): ∃f,A.p w f∧(∀b,f b→ ¬G b∧b<w.heap.size)∧ ∀(w':World) (B:HP) (f':Nat→Prop),Chg f w w'→B.p w' f'→(∀b,f' b→f b∨w.heap.size≤b)→Sep G W (As.set i B) w':=by
 obtain⟨fs,h1,h2⟩:=h.parts
 obtain⟨hA,hl⟩:=h1 i A hi
 refine⟨fs i,hA,hl,fun w' B f' hc hB hf'=>?_⟩
 have hlt:i<As.length:=(List.getElem?_eq_some_iff.1 hi).1
 have hG: ∀b,f' b→ ¬G b:=fun b hb hg=>by
  rcases hf' b hb with h3|h3
  ·exact(hl b h3).1 hg
  ·have:=(h.kept.keep b hg).1;have:=h.kept.size;omega
 refine⟨h.kept.chg hc (fun b hb=>(hl b hb).1),fun j b=>if j=i then f' b∧b<w'.heap.size else fs j b∧b<w.heap.size,fun j C hj=>?_,fun j k hj hk hne b hb=>?_⟩
 ·by_cases hji:j=i
  ·subst hji
   rw[List.getElem?_set_self hlt]at hj
   cases hj
   simp only[if_true]
   exact⟨B.cut hB,fun b hb=>⟨hG b hb.1,hb.2⟩⟩
  ·rw[List.getElem?_set_ne (Ne.symm hji)]at hj
   have hjl:j<As.length:=(List.getElem?_eq_some_iff.1 hj).1
   obtain⟨hC,hCl⟩:=h1 j C hj
   simp only[if_neg hji]
   exact⟨C.loc hC (fun b hb hlt'=>⟨hc.block b hlt' (fun ho=>h2 i j hlt hjl (Ne.symm hji) b ho hb),hb,hlt'⟩),fun b hb=>⟨(hCl b hb.1).1,Nat.lt_of_lt_of_le hb.2 hc.size⟩⟩
 ·simp only[List.length_set]at hj hk
  by_cases hji:j=i
  ·subst hji
   simp only[if_true]at hb
   simp only[if_neg (Ne.symm hne)]
   rintro⟨hk1,hk2⟩
   rcases hf' b hb.1 with h3|h3
   ·exact h2 j k hj hk hne b h3 hk1
   ·omega
  ·simp only[if_neg hji]at hb
   by_cases hki:k=i
   ·subst hki
    simp only[if_true]
    rintro⟨hk1,_⟩
    rcases hf' b hk1 with h3|h3
    ·exact h2 j k hj hk hne b hb.1 h3
    ·omega
   ·simp only[if_neg hki]
    exact fun hk1=>h2 j k hj hk hne b hb.1 hk1.1
theorem Sep.upd (h:Sep G W As w){i:Nat}(hi:As[i]? =some A)(hk: ∀f,A.p w f→(∀b,f b→ ¬G b∧b<w.heap.size)→Chg f w w'∧ ∃f',B.p w' f'∧ ∀b,f' b→f b∨w.heap.size≤b):Sep G W (As.set i B) w':=by
 obtain⟨f,hA,hl,hT⟩:=h.take hi
 obtain⟨hc,f',hB,hf'⟩:=hk f hA hl
 exact hT w' B f' hc hB hf'
theorem Sep.ext (h:Sep G W As w)(hx:Ext w w'):Sep G W As w':=by
 obtain⟨fs,h1,h2⟩:=h.parts
 refine⟨h.kept.chg hx (fun _ h=>h.elim),fs,fun j C hj=>?_,h2⟩
 obtain⟨hC,hCl⟩:=h1 j C hj
 exact⟨C.loc hC (fun b hb hlt=>⟨hx.block b hlt (fun h=>h),hb⟩),fun b hb=>⟨(hCl b hb).1,Nat.lt_of_lt_of_le (hCl b hb).2 hx.size⟩⟩
theorem Sep.same (h:Sep G W As w)(h1:w'.heap=w.heap)(h2:w'.os=w.os)(h3:w'.tape=w.tape)(h4:w'.output=w.output∧w.drawn≤w'.drawn):Sep G W As w':=h.ext (XI h1 h2 h3 h4)
theorem Sep.push (h:Sep G W As w)(hx:Ext w w'){f:Nat→Prop}(hB:B.p w' f)(hf: ∀b,f b→w.heap.size≤b):Sep G W (B::As) w':=by
 obtain⟨fs,h1,h2⟩:=h.parts
 refine⟨h.kept.chg hx (fun _ h=>h.elim),fun j b=>match j with|0=>f b∧b<w'.heap.size|j+1=>fs j b,fun j C hj=>?_,fun j k hj hk hne b hb=>?_⟩
 ·cases j with
  |zero=>
   simp only[List.getElem?_cons_zero,Option.some.injEq]at hj
   subst hj
   exact⟨B.cut hB,fun b hb=>⟨fun hg=>by have:=hf b hb.1;have:=(h.kept.keep b hg).1;have:=h.kept.size;omega,hb.2⟩⟩
  |succ j=>
   obtain⟨hC,hCl⟩:=h1 j C (by simpa using hj)
   exact⟨C.loc hC (fun b hb hlt=>⟨hx.block b hlt (fun h=>h),hb⟩),fun b hb=>⟨(hCl b hb).1,Nat.lt_of_lt_of_le (hCl b hb).2 hx.size⟩⟩
 ·have old: ∀j b,j<As.length→fs j b→b<w.heap.size:=fun j b hj hb=>((h1 j _ (List.getElem?_eq_getElem hj)).2 b hb).2
  cases j with
  |zero=>
   cases k with
   |zero=>exact(hne rfl).elim
   |succ k=>intro hk1;have:=hf b hb.1;have:=old k b (by simpa using hk) hk1;omega
  |succ j=>
   cases k with
   |zero=>rintro⟨hk1,_⟩;have:=hf b hk1;have:=old j b (by simpa using hj) hb;omega
   |succ k=>exact h2 j k (by simpa using hj) (by simpa using hk) (fun e=>hne (congrArg _ e)) b hb
theorem Sep.emp (h:Sep G W As w):Sep G W (Emp::As) w:=h.push (Chg.refl _ _) (f:=fun _=>False) trivial (fun _ h=>h.elim)
theorem Sep.get (h:Sep G W As w){i:Nat}(hi:As[i]? =some A): ∃f,A.p w f∧ ∀b,f b→ ¬G b∧b<w.heap.size:=by
 obtain⟨fs,h1,h2⟩:=h.parts
 exact⟨_,h1 i A hi⟩
theorem Sep.impl (h:Sep G W As w){i:Nat}(hi:As[i]? =some A)(hAB: ∀f,A.p w f→B.p w f):Sep G W (As.set i B) w:=
 h.upd hi (fun f hA _=>⟨Chg.refl _ _,f,hAB f hA,fun _ hb=>.inl hb⟩)
theorem Sep.sel (h:Sep G W As w)(n:Nat)(idx:List Nat)(hn:n≤As.length)(hok:(idx.all (fun i=>Nat.blt i n)&&(List.range idx.length).all fun i=>(List.range i).all fun j=> !Nat.beq (idx.getD i 0) (idx.getD j 0))=true)
 (hB:Bs=idx.map (fun i=>As.getD i Emp)++As.drop n):Sep G W Bs w:=by
 subst hB
 simp only[Bool.and_eq_true,List.all_eq_true,List.mem_range]at hok
 obtain⟨hlt,hu⟩:=hok
 have hlt': ∀i,i<idx.length→idx.getD i 0<n:=fun i hi=>by
  have:=hlt _ (List.getElem_mem hi)
  rw[zJ _ hi]
  simpa[Nat.blt_eq]using this
 have hu': ∀i j,i<idx.length→j<i→idx.getD i 0≠idx.getD j 0:=fun i j hi hj e=>by
  have:=hu i hi j hj
  rw[e]at this
  simp at this
 obtain⟨fs,h1,h2⟩:=h.parts
 have key: ∀i,i<(idx.map (fun i=>As.getD i Emp)++As.drop n).length→(if i<idx.length then idx.getD i 0 else n+(i-idx.length))<As.length∧
  (idx.map (fun i=>As.getD i Emp)++As.drop n)[i]? =As[if i<idx.length then idx.getD i 0 else n+(i-idx.length)]? :=by
  intro i hi
  simp only[List.length_append,List.length_map,List.length_drop]at hi
  by_cases h3:i<idx.length
  ·simp only[if_pos h3]
   have h4:=hlt' i h3
   refine⟨by omega,?_⟩
   rw[List.getElem?_append_left (by simpa using h3),List.getElem?_map,List.getElem?_eq_getElem h3,Option.map_some]
   rw[zJ _ h3]at h4⊢
   rw[zJ _ (by omega),←List.getElem?_eq_getElem]
  ·simp only[if_neg h3]
   refine⟨by omega,?_⟩
   rw[List.getElem?_append_right (by simpa using h3),List.getElem?_drop,List.length_map]
 refine⟨h.kept,fun i=>fs (if i<idx.length then idx.getD i 0 else n+(i-idx.length)),fun i C hC=>?_,fun i j hi hj hne=>?_⟩
 ·have hi:=(List.getElem?_eq_some_iff.1 hC).1
  rw[(key i hi).2]at hC
  exact h1 _ C hC
 ·refine h2 _ _ (key i hi).1 (key j hj).1 ?_
  by_cases h3:i<idx.length<;>by_cases h4:j<idx.length
  ·rw[if_pos h3,if_pos h4]
   rcases Nat.lt_trichotomy i j with h5|h5|h5
   ·exact fun e=>hu' j i h4 h5 e.symm
   ·exact(hne h5).elim
   ·exact hu' i j h3 h5
  ·rw[if_pos h3,if_neg h4]
   have:=hlt' i h3
   omega
  ·rw[if_neg h3,if_pos h4]
   have:=hlt' j h4
   omega
  ·rw[if_neg h3,if_neg h4];omega
def Star (Bs:List HP):HP where
 p w f:= ∃fs:Nat→Nat→Prop,(∀i A,Bs[i]? =some A→A.p w (fs i)∧ ∀b,fs i b→f b∧b<w.heap.size)∧ ∀i j,i<Bs.length→j<Bs.length→i≠j→ ∀b,fs i b→ ¬fs j b
 loc:=by
  intro w w' f f' ⟨fs,h1,h2⟩ hf
  refine⟨fs,fun i A hA=>?_,h2⟩
  obtain⟨h3,h4⟩:=h1 i A hA
  refine⟨A.loc h3 (fun b hb hlt=>⟨(hf b (h4 b hb).1 hlt).1,hb⟩),fun b hb=>⟨(hf b (h4 b hb).1 (h4 b hb).2).2,?_⟩⟩
  have:=(hf b (h4 b hb).1 (h4 b hb).2).1
  rw[Array.getElem?_eq_getElem (h4 b hb).2]at this
  exact(Array.getElem?_eq_some_iff.1 this).1
theorem Sep.openStar (h:Sep G W (Star Bs::As) w):Sep G W (Bs++As) w:=by
 obtain⟨fs,h1,h2⟩:=h.parts
 obtain⟨⟨gs,g1,g2⟩,hl⟩:=h1 0 _ rfl
 refine⟨h.kept,fun i=>if i<Bs.length then gs i else fs (i-Bs.length+1),fun i A hA=>?_,fun i j hi hj hne b hb=>?_⟩
 ·by_cases hi:i<Bs.length
  ·rw[List.getElem?_append_left hi]at hA
   simp only[if_pos hi]
   obtain⟨h3,h4⟩:=g1 i A hA
   exact⟨h3,fun b hb=>hl b (h4 b hb).1⟩
  ·rw[List.getElem?_append_right (by omega)]at hA
   simp only[if_neg hi]
   exact h1 (i-Bs.length+1) A (by simpa using hA)
 ·simp only[List.length_append]at hi hj
  simp only[]at hb⊢
  by_cases h3:i<Bs.length<;>by_cases h4:j<Bs.length
  ·rw[if_pos h3]at hb;rw[if_pos h4];exact g2 i j h3 h4 hne b hb
  ·rw[if_pos h3]at hb;rw[if_neg h4]
   have:=((g1 i _ (List.getElem?_eq_getElem h3)).2 b hb).1
   exact h2 0 (j-Bs.length+1) (by simp) (by simp;omega) (by omega) b this
  ·rw[if_neg h3]at hb;rw[if_pos h4]
   intro hb2
   have:=((g1 j _ (List.getElem?_eq_getElem h4)).2 b hb2).1
   exact h2 (i-Bs.length+1) 0 (by simp;omega) (by simp) (by omega) b hb this
  ·rw[if_neg h3]at hb;rw[if_neg h4]
   exact h2 _ _ (by simp;omega) (by simp;omega) (by omega) b hb
theorem Sep.closeStar (h:Sep G W (Bs++As) w):Sep G W (Star Bs::As) w:=by
 obtain⟨fs,h1,h2⟩:=h.parts
 have hB: ∀i A,Bs[i]? =some A→A.p w (fs i)∧ ∀b,fs i b→ ¬G b∧b<w.heap.size:=fun i A hA=>h1 i A (by rw[List.getElem?_append_left (List.getElem?_eq_some_iff.1 hA).1];exact hA)
 refine⟨h.kept,fun i b=>match i with|0=> ∃j,j<Bs.length∧fs j b|i+1=>fs (i+Bs.length) b,fun i A hA=>?_,fun i j hi hj hne b hb=>?_⟩
 ·cases i with
  |zero=>
   simp only[List.getElem?_cons_zero,Option.some.injEq]at hA
   subst hA
   refine⟨⟨fs,fun i A hA=>⟨(hB i A hA).1,fun b hb=>⟨⟨i,(List.getElem?_eq_some_iff.1 hA).1,hb⟩,((hB i A hA).2 b hb).2⟩⟩,fun i j hi hj hne=>h2 i j (by simp;omega) (by simp;omega) hne⟩,?_⟩
   rintro b ⟨j,hj,hb⟩
   exact(hB j _ (List.getElem?_eq_getElem hj)).2 b hb
  |succ i=>exact h1 (i+Bs.length) A (by rw[List.getElem?_append_right (by omega)];simpa using hA)
 ·simp only[List.length_cons]at hi hj
  cases i with
  |zero=>
   obtain⟨k,hk,hb⟩:=hb
   cases j with
   |zero=>exact(hne rfl).elim
   |succ j=>exact h2 k (j+Bs.length) (by simp;omega) (by simp;omega) (by omega) b hb
  |succ i=>
   cases j with
   |zero=>rintro⟨k,hk,hb2⟩;exact h2 (i+Bs.length) k (by simp;omega) (by simp;omega) (by omega) b hb hb2
   |succ j=>exact h2 _ _ (by simp;omega) (by simp;omega) (by omega) b hb
def Ex1 {X:Type}(A:X→HP):HP:=⟨fun w f=> ∃x,(A x).p w f,fun⟨x,h⟩ hf=>⟨x,(A x).loc h hf⟩⟩
theorem Sep.openEx {X:Type}{A:X→HP}(h:Sep G W (Ex1 A::As) w): ∃x,Sep G W (A x::As) w:=by
 obtain⟨fs,h1,h2⟩:=h.parts
 obtain⟨⟨x,hx⟩,hl⟩:=h1 0 _ rfl
 refine⟨x,h.kept,fs,fun i C hC=>?_,h2⟩
 cases i with
 |zero=>simp only[List.getElem?_cons_zero,Option.some.injEq]at hC;subst hC;exact⟨hx,hl⟩
 |succ i=>exact h1 (i+1) C (by simpa using hC)
theorem Sep.closeEx {X:Type}{A:X→HP}(x:X)(h:Sep G W (A x::As) w):Sep G W (Ex1 A::As) w:=h.impl (i:=0) rfl (fun _ h=>⟨x,h⟩)
def WC (q:Prop)(A:HP):HP:=⟨fun w f=>q∧A.p w f,fun⟨x,h⟩ hf=>⟨x,A.loc h hf⟩⟩
theorem Sep.openAnd {q:Prop}(h:Sep G W (WC q A::As) w):q∧Sep G W (A::As) w:=by
 obtain⟨f,⟨hq,_⟩,_⟩:=h.get (i:=0) rfl
 exact⟨hq,h.impl (i:=0) rfl (fun _ h=>h.2)⟩
theorem Sep.closeAnd {q:Prop}(hq:q)(h:Sep G W (A::As) w):Sep G W (WC q A::As) w:=h.impl (i:=0) rfl (fun _ h=>⟨hq,h⟩)
theorem Sep.lend (h:Sep G W (A::As) w): ∃G':Nat→Prop,A.p w G'∧zdo G W G' w∧Sep G' w As w∧ ∀Cs w',Sep G' w Cs w'→Sep G W (A::Cs) w':=by
 obtain⟨fs,h1,h2⟩:=h.parts
 obtain⟨hA,hl⟩:=h1 0 A rfl
 refine⟨fun b=>G b∨fs 0 b,A.weak hA (fun b hb _=>.inr hb),fun b hb hlt=>⟨(h.kept.keep b hb).2,.inl hb⟩,⟨Kept.refl (fun b hb=>?_),fun i=>fs (i+1),fun i C hC=>?_,fun i j hi hj hne=>?_⟩,fun Cs w' hC=>?_⟩
 ·rcases hb with hb|hb
  ·have:=(h.kept.keep b hb).1;have:=h.kept.size;omega
  ·exact(hl b hb).2
 ·obtain⟨h3,h4⟩:=h1 (i+1) C (by simpa using hC)
  have hi:=(List.getElem?_eq_some_iff.1 hC).1
  exact⟨h3,fun b hb=>⟨fun hg=>hg.elim (h4 b hb).1 (fun h0=>h2 0 (i+1) (by simp) (by simp;omega) (by omega) b h0 hb),(h4 b hb).2⟩⟩
 ·exact h2 _ _ (by simp;omega) (by simp;omega) (by omega)
 ·obtain⟨gs,g1,g2⟩:=hC.parts
  have hkA: ∀b,fs 0 b→w'.heap[b]? =w.heap[b]? :=fun b hb=>(hC.kept.keep b (.inr hb)).2
  refine⟨⟨hC.kept.os.trans h.kept.os,hC.kept.tape.trans h.kept.tape,hC.kept.output.trans h.kept.output,Nat.le_trans h.kept.size hC.kept.size,Nat.le_trans h.kept.drawn hC.kept.drawn,fun b hb=>⟨(h.kept.keep b hb).1,((hC.kept.keep b (.inl hb)).2).trans (h.kept.keep b hb).2⟩⟩,
   fun i b=>match i with|0=>fs 0 b|i+1=>gs i b,fun i D hD=>?_,fun i j hi hj hne b hb=>?_⟩
  ·cases i with
   |zero=>
    simp only[List.getElem?_cons_zero,Option.some.injEq]at hD
    subst hD
    exact⟨A.loc hA (fun b hb _=>⟨hkA b hb,hb⟩),fun b hb=>⟨(hl b hb).1,Nat.lt_of_lt_of_le (hl b hb).2 hC.kept.size⟩⟩
   |succ i=>
    obtain⟨h3,h4⟩:=g1 i D (by simpa using hD)
    exact⟨h3,fun b hb=>⟨fun hg=>(h4 b hb).1 (.inl hg),(h4 b hb).2⟩⟩
  ·simp only[List.length_cons]at hi hj
   have old: ∀j,j<Cs.length→ ∀b,gs j b→ ¬fs 0 b:=fun j hj b hb h0=>((g1 j _ (List.getElem?_eq_getElem hj)).2 b hb).1 (.inr h0)
   cases i with
   |zero=>
    cases j with
    |zero=>exact(hne rfl).elim
    |succ j=>exact fun hb2=>old j (by omega) b hb2 hb
   |succ i=>
    cases j with
    |zero=>exact old i (by omega) b hb
    |succ j=>exact g2 i j (by omega) (by omega) (by omega) b hb
theorem Sep.gb (h:Sep G W As w){b:Nat}(hb:G b):w.heap[b]? =W.heap[b]? :=(h.kept.keep b hb).2
theorem Sep.cells (h:Sep G W As w){b o:Nat}{cs:List Value}(hc:CellsAt W b o cs)(hb:G b):CellsAt w b o cs:=hc.mono (fun _=>h.gb hb)
theorem Sep.rds {α:Type}[Rep α](h:Sep G W As w){v:Value}{l:List α}(hr:RdS W G v l):RdS w G v l:=hr.mono (fun b hb _=>⟨h.gb hb,hb⟩)
def Blk (b:Nat)(c:Array Value)(T:TypeId):HP:=⟨fun w f=>w.heap[b]? =some (.cells c T)∧f b,fun⟨h1,h2⟩ hf=>⟨((hf b h2 (xz h1)).1).trans h1,(hf b h2 (xz h1)).2⟩⟩
theorem Sep.new (h:Sep G W As w){b:Nat}{c:Array Value}{T:TypeId}(hn:New w w' b (.cells c T)):Sep G W (Blk b c T::As) w':=h.push hn.ext (f:=fun i=>i=b) ⟨hn.at_,rfl⟩ (fun i hi=>by have:=hn.eq;omega)
theorem Sep.blk (h:Sep G W As w){i b:Nat}{c:Array Value}{T:TypeId}(hi:As[i]? =some (Blk b c T)):w.heap[b]? =some (.cells c T):=by
 obtain⟨f,h1,_⟩:=h.get hi;exact h1.1
theorem Sep.put (h:Sep G W As w){i b:Nat}{c c':Array Value}{T:TypeId}(hi:As[i]? =some (Blk b c T))(hp:Put w w' b c' T):Sep G W (As.set i (Blk b c' T)) w':=
 h.upd hi (fun f hA _=>⟨hp.chg.weak (fun j _ hj=>by subst hj;exact hA.2),f,⟨hp.at_,hA.2⟩,fun _ hb=>.inl hb⟩)
theorem ne_of_lt {α:Type}{l:List α}{i:Nat}(h:i<l.length):l≠[]:=fun e=>by rw[e]at h;exact absurd h (Nat.not_lt_zero i)
theorem Sep.emp1 (h:Sep G W (A::As) w):Sep G W (A::Emp::As) w:=h.emp.sel 2 [1,0] (Nat.le_add_left _ _) rfl rfl
theorem Sep.gblk (h:Sep G W As w){b:Nat}{c:Array Value}{T:TypeId}(hb:(Blk b c T).p W G):w.heap[b]? =some (.cells c T):=(h.gb hb.2).trans hb.1
theorem Sep.apart2 (h:Sep G W As w){i j:Nat}(hi:As[i]? =some A)(hj:As[j]? =some B)(hne:i≠j): ∃f g,A.p w f∧B.p w g∧(∀b,f b→ ¬g b)∧(∀b,f b→b<w.heap.size)∧ ∀b,g b→b<w.heap.size:=by
 obtain⟨fs,h1,h2⟩:=h.parts
 exact⟨_,_,(h1 i A hi).1,(h1 j B hj).1,h2 i j (List.getElem?_eq_some_iff.1 hi).1 (List.getElem?_eq_some_iff.1 hj).1 hne,fun b hb=>((h1 i A hi).2 b hb).2,fun b hb=>((h1 j B hj).2 b hb).2⟩
theorem Blk.rd {b:Nat}{c:Array Value}{T:TypeId}(h:(Blk b c T).p W G):W.heap[b]? =some (.cells c T)∧G b:=h
end
theorem Sep.mv1 {G:Nat→Prop}{W w:World}{As:List HP}{A0 A1:HP}(h:Sep G W (A0::A1::As) w):Sep G W (A1::A0::As) w:=h.sel 2 [1,0] (Nat.le_add_left _ _) rfl rfl
theorem Sep.mv2 {G:Nat→Prop}{W w:World}{As:List HP}{A0 A1 A2:HP}(h:Sep G W (A0::A1::A2::As) w):Sep G W (A2::A0::A1::As) w:=h.sel 3 [2,0,1] (Nat.le_add_left _ _) rfl rfl
theorem Sep.mv3 {G:Nat→Prop}{W w:World}{As:List HP}{A0 A1 A2 A3:HP}(h:Sep G W (A0::A1::A2::A3::As) w):Sep G W (A3::A0::A1::A2::As) w:=h.sel 4 [3,0,1,2] (Nat.le_add_left _ _) rfl rfl
theorem Sep.mv4 {G:Nat→Prop}{W w:World}{As:List HP}{A0 A1 A2 A3 A4:HP}(h:Sep G W (A0::A1::A2::A3::A4::As) w):Sep G W (A4::A0::A1::A2::A3::As) w:=h.sel 5 [4,0,1,2,3] (Nat.le_add_left _ _) rfl rfl
theorem Sep.mv5 {G:Nat→Prop}{W w:World}{As:List HP}{A0 A1 A2 A3 A4 A5:HP}(h:Sep G W (A0::A1::A2::A3::A4::A5::As) w):Sep G W (A5::A0::A1::A2::A3::A4::As) w:=h.sel 6 [5,0,1,2,3,4] (Nat.le_add_left _ _) rfl rfl
theorem Sep.mv6 {G:Nat→Prop}{W w:World}{As:List HP}{A0 A1 A2 A3 A4 A5 A6:HP}(h:Sep G W (A0::A1::A2::A3::A4::A5::A6::As) w):Sep G W (A6::A0::A1::A2::A3::A4::A5::As) w:=h.sel 7 [6,0,1,2,3,4,5] (Nat.le_add_left _ _) rfl rfl
theorem Sep.mv7 {G:Nat→Prop}{W w:World}{As:List HP}{A0 A1 A2 A3 A4 A5 A6 A7:HP}(h:Sep G W (A0::A1::A2::A3::A4::A5::A6::A7::As) w):Sep G W (A7::A0::A1::A2::A3::A4::A5::A6::As) w:=h.sel 8 [7,0,1,2,3,4,5,6] (Nat.le_add_left _ _) rfl rfl
theorem Sep.mv8 {G:Nat→Prop}{W w:World}{As:List HP}{A0 A1 A2 A3 A4 A5 A6 A7 A8:HP}(h:Sep G W (A0::A1::A2::A3::A4::A5::A6::A7::A8::As) w):Sep G W (A8::A0::A1::A2::A3::A4::A5::A6::A7::As) w:=h.sel 9 [8,0,1,2,3,4,5,6,7] (Nat.le_add_left _ _) rfl rfl
theorem Sep.mv9 {G:Nat→Prop}{W w:World}{As:List HP}{A0 A1 A2 A3 A4 A5 A6 A7 A8 A9:HP}(h:Sep G W (A0::A1::A2::A3::A4::A5::A6::A7::A8::A9::As) w):Sep G W (A9::A0::A1::A2::A3::A4::A5::A6::A7::A8::As) w:=h.sel 10 [9,0,1,2,3,4,5,6,7,8] (Nat.le_add_left _ _) rfl rfl
theorem Sep.pt0 {G:Nat→Prop}{W w w':World}{As:List HP}{b:Nat}{c c':Array Value}{T:TypeId}(h:Sep G W (Blk b c T::As) w)(hp:Put w w' b c' T):Sep G W (Blk b c' T::As) w':=h.put (i:=0) rfl hp
theorem Sep.pt1 {G:Nat→Prop}{W w w':World}{As:List HP}{A0:HP}{b:Nat}{c c':Array Value}{T:TypeId}(h:Sep G W (A0::Blk b c T::As) w)(hp:Put w w' b c' T):Sep G W (A0::Blk b c' T::As) w':=h.put (i:=1) rfl hp
theorem Sep.pt2 {G:Nat→Prop}{W w w':World}{As:List HP}{A0 A1:HP}{b:Nat}{c c':Array Value}{T:TypeId}(h:Sep G W (A0::A1::Blk b c T::As) w)(hp:Put w w' b c' T):Sep G W (A0::A1::Blk b c' T::As) w':=h.put (i:=2) rfl hp
theorem Sep.pt3 {G:Nat→Prop}{W w w':World}{As:List HP}{A0 A1 A2:HP}{b:Nat}{c c':Array Value}{T:TypeId}(h:Sep G W (A0::A1::A2::Blk b c T::As) w)(hp:Put w w' b c' T):Sep G W (A0::A1::A2::Blk b c' T::As) w':=h.put (i:=3) rfl hp
theorem Sep.pt4 {G:Nat→Prop}{W w w':World}{As:List HP}{A0 A1 A2 A3:HP}{b:Nat}{c c':Array Value}{T:TypeId}(h:Sep G W (A0::A1::A2::A3::Blk b c T::As) w)(hp:Put w w' b c' T):Sep G W (A0::A1::A2::A3::Blk b c' T::As) w':=h.put (i:=4) rfl hp
theorem Sep.pt7 {G:Nat→Prop}{W w w':World}{As:List HP}{A0 A1 A2 A3 A4 A5 A6:HP}{b:Nat}{c c':Array Value}{T:TypeId}(h:Sep G W (A0::A1::A2::A3::A4::A5::A6::Blk b c T::As) w)(hp:Put w w' b c' T):Sep G W (A0::A1::A2::A3::A4::A5::A6::Blk b c' T::As) w':=h.put (i:=7) rfl hp
theorem Sep.pt8 {G:Nat→Prop}{W w w':World}{As:List HP}{A0 A1 A2 A3 A4 A5 A6 A7:HP}{b:Nat}{c c':Array Value}{T:TypeId}(h:Sep G W (A0::A1::A2::A3::A4::A5::A6::A7::Blk b c T::As) w)(hp:Put w w' b c' T):Sep G W (A0::A1::A2::A3::A4::A5::A6::A7::Blk b c' T::As) w':=h.put (i:=8) rfl hp
theorem Sep.pt9 {G:Nat→Prop}{W w w':World}{As:List HP}{A0 A1 A2 A3 A4 A5 A6 A7 A8:HP}{b:Nat}{c c':Array Value}{T:TypeId}(h:Sep G W (A0::A1::A2::A3::A4::A5::A6::A7::A8::Blk b c T::As) w)(hp:Put w w' b c' T):Sep G W (A0::A1::A2::A3::A4::A5::A6::A7::A8::Blk b c' T::As) w':=h.put (i:=9) rfl hp
theorem Sep.pt10 {G:Nat→Prop}{W w w':World}{As:List HP}{A0 A1 A2 A3 A4 A5 A6 A7 A8 A9:HP}{b:Nat}{c c':Array Value}{T:TypeId}(h:Sep G W (A0::A1::A2::A3::A4::A5::A6::A7::A8::A9::Blk b c T::As) w)(hp:Put w w' b c' T):Sep G W (A0::A1::A2::A3::A4::A5::A6::A7::A8::A9::Blk b c' T::As) w':=h.put (i:=10) rfl hp
section
variable {G:Nat→Prop}{W w:World}{As:List HP}{A0 A1 A2 A3 A4 A5 A6 A7 A8 A9 A10 A11 A12 A13 A14:HP}
theorem Sep.s1_ (h:Sep G W (A0::As) w):Sep G W As w:=h.sel 1 [] (Nat.le_add_left _ _) rfl rfl
theorem Sep.s2_ (h:Sep G W (A0::A1::As) w):Sep G W As w:=h.sel 2 [] (Nat.le_add_left _ _) rfl rfl
theorem Sep.s2_a (h:Sep G W (A0::A1::As) w):Sep G W (A0::As) w:=h.sel 2 [0] (Nat.le_add_left _ _) rfl rfl
theorem Sep.s2_b (h:Sep G W (A0::A1::As) w):Sep G W (A1::As) w:=h.sel 2 [1] (Nat.le_add_left _ _) rfl rfl
theorem Sep.s3_ (h:Sep G W (A0::A1::A2::As) w):Sep G W As w:=h.sel 3 [] (Nat.le_add_left _ _) rfl rfl
theorem Sep.s3_a (h:Sep G W (A0::A1::A2::As) w):Sep G W (A0::As) w:=h.sel 3 [0] (Nat.le_add_left _ _) rfl rfl
theorem Sep.s3_ab (h:Sep G W (A0::A1::A2::As) w):Sep G W (A0::A1::As) w:=h.sel 3 [0,1] (Nat.le_add_left _ _) rfl rfl
theorem Sep.s3_ac (h:Sep G W (A0::A1::A2::As) w):Sep G W (A0::A2::As) w:=h.sel 3 [0,2] (Nat.le_add_left _ _) rfl rfl
theorem Sep.s3_acb (h:Sep G W (A0::A1::A2::As) w):Sep G W (A0::A2::A1::As) w:=h.sel 3 [0,2,1] (Nat.le_add_left _ _) rfl rfl
theorem Sep.s3_bc (h:Sep G W (A0::A1::A2::As) w):Sep G W (A1::A2::As) w:=h.sel 3 [1,2] (Nat.le_add_left _ _) rfl rfl
theorem Sep.s3_bca (h:Sep G W (A0::A1::A2::As) w):Sep G W (A1::A2::A0::As) w:=h.sel 3 [1,2,0] (Nat.le_add_left _ _) rfl rfl
theorem Sep.s3_c (h:Sep G W (A0::A1::A2::As) w):Sep G W (A2::As) w:=h.sel 3 [2] (Nat.le_add_left _ _) rfl rfl
theorem Sep.s3_cb (h:Sep G W (A0::A1::A2::As) w):Sep G W (A2::A1::As) w:=h.sel 3 [2,1] (Nat.le_add_left _ _) rfl rfl
theorem Sep.s4_ (h:Sep G W (A0::A1::A2::A3::As) w):Sep G W As w:=h.sel 4 [] (Nat.le_add_left _ _) rfl rfl
theorem Sep.s4_a (h:Sep G W (A0::A1::A2::A3::As) w):Sep G W (A0::As) w:=h.sel 4 [0] (Nat.le_add_left _ _) rfl rfl
theorem Sep.s4_ab (h:Sep G W (A0::A1::A2::A3::As) w):Sep G W (A0::A1::As) w:=h.sel 4 [0,1] (Nat.le_add_left _ _) rfl rfl
theorem Sep.s4_acd (h:Sep G W (A0::A1::A2::A3::As) w):Sep G W (A0::A2::A3::As) w:=h.sel 4 [0,2,3] (Nat.le_add_left _ _) rfl rfl
theorem Sep.s4_ad (h:Sep G W (A0::A1::A2::A3::As) w):Sep G W (A0::A3::As) w:=h.sel 4 [0,3] (Nat.le_add_left _ _) rfl rfl
theorem Sep.s4_b (h:Sep G W (A0::A1::A2::A3::As) w):Sep G W (A1::As) w:=h.sel 4 [1] (Nat.le_add_left _ _) rfl rfl
theorem Sep.s4_bca (h:Sep G W (A0::A1::A2::A3::As) w):Sep G W (A1::A2::A0::As) w:=h.sel 4 [1,2,0] (Nat.le_add_left _ _) rfl rfl
theorem Sep.s4_bcad (h:Sep G W (A0::A1::A2::A3::As) w):Sep G W (A1::A2::A0::A3::As) w:=h.sel 4 [1,2,0,3] (Nat.le_add_left _ _) rfl rfl
theorem Sep.s4_bcd (h:Sep G W (A0::A1::A2::A3::As) w):Sep G W (A1::A2::A3::As) w:=h.sel 4 [1,2,3] (Nat.le_add_left _ _) rfl rfl
theorem Sep.s4_dbac (h:Sep G W (A0::A1::A2::A3::As) w):Sep G W (A3::A1::A0::A2::As) w:=h.sel 4 [3,1,0,2] (Nat.le_add_left _ _) rfl rfl
theorem Sep.s4_dbc (h:Sep G W (A0::A1::A2::A3::As) w):Sep G W (A3::A1::A2::As) w:=h.sel 4 [3,1,2] (Nat.le_add_left _ _) rfl rfl
theorem Sep.s5_acde (h:Sep G W (A0::A1::A2::A3::A4::As) w):Sep G W (A0::A2::A3::A4::As) w:=h.sel 5 [0,2,3,4] (Nat.le_add_left _ _) rfl rfl
theorem Sep.s5_bcde (h:Sep G W (A0::A1::A2::A3::A4::As) w):Sep G W (A1::A2::A3::A4::As) w:=h.sel 5 [1,2,3,4] (Nat.le_add_left _ _) rfl rfl
theorem Sep.s5_cbdae (h:Sep G W (A0::A1::A2::A3::A4::As) w):Sep G W (A2::A1::A3::A0::A4::As) w:=h.sel 5 [2,1,3,0,4] (Nat.le_add_left _ _) rfl rfl
theorem Sep.s5_cdabe (h:Sep G W (A0::A1::A2::A3::A4::As) w):Sep G W (A2::A3::A0::A1::A4::As) w:=h.sel 5 [2,3,0,1,4] (Nat.le_add_left _ _) rfl rfl
theorem Sep.s5_cdeab (h:Sep G W (A0::A1::A2::A3::A4::As) w):Sep G W (A2::A3::A4::A0::A1::As) w:=h.sel 5 [2,3,4,0,1] (Nat.le_add_left _ _) rfl rfl
theorem Sep.s5_ceab (h:Sep G W (A0::A1::A2::A3::A4::As) w):Sep G W (A2::A4::A0::A1::As) w:=h.sel 5 [2,4,0,1] (Nat.le_add_left _ _) rfl rfl
theorem Sep.s6_acdef (h:Sep G W (A0::A1::A2::A3::A4::A5::As) w):Sep G W (A0::A2::A3::A4::A5::As) w:=h.sel 6 [0,2,3,4,5] (Nat.le_add_left _ _) rfl rfl
theorem Sep.s6_bcdef (h:Sep G W (A0::A1::A2::A3::A4::A5::As) w):Sep G W (A1::A2::A3::A4::A5::As) w:=h.sel 6 [1,2,3,4,5] (Nat.le_add_left _ _) rfl rfl
theorem Sep.s6_bcdefa (h:Sep G W (A0::A1::A2::A3::A4::A5::As) w):Sep G W (A1::A2::A3::A4::A5::A0::As) w:=h.sel 6 [1,2,3,4,5,0] (Nat.le_add_left _ _) rfl rfl
theorem Sep.s6_ceabdf (h:Sep G W (A0::A1::A2::A3::A4::A5::As) w):Sep G W (A2::A4::A0::A1::A3::A5::As) w:=h.sel 6 [2,4,0,1,3,5] (Nat.le_add_left _ _) rfl rfl
theorem Sep.s6_dbef (h:Sep G W (A0::A1::A2::A3::A4::A5::As) w):Sep G W (A3::A1::A4::A5::As) w:=h.sel 6 [3,1,4,5] (Nat.le_add_left _ _) rfl rfl
theorem Sep.s7_a (h:Sep G W (A0::A1::A2::A3::A4::A5::A6::As) w):Sep G W (A0::As) w:=h.sel 7 [0] (Nat.le_add_left _ _) rfl rfl
theorem Sep.s7_acdefg (h:Sep G W (A0::A1::A2::A3::A4::A5::A6::As) w):Sep G W (A0::A2::A3::A4::A5::A6::As) w:=h.sel 7 [0,2,3,4,5,6] (Nat.le_add_left _ _) rfl rfl
theorem Sep.s7_bcdaefg (h:Sep G W (A0::A1::A2::A3::A4::A5::A6::As) w):Sep G W (A1::A2::A3::A0::A4::A5::A6::As) w:=h.sel 7 [1,2,3,0,4,5,6] (Nat.le_add_left _ _) rfl rfl
theorem Sep.s7_bcdefa (h:Sep G W (A0::A1::A2::A3::A4::A5::A6::As) w):Sep G W (A1::A2::A3::A4::A5::A0::As) w:=h.sel 7 [1,2,3,4,5,0] (Nat.le_add_left _ _) rfl rfl
theorem Sep.s7_bcdefag (h:Sep G W (A0::A1::A2::A3::A4::A5::A6::As) w):Sep G W (A1::A2::A3::A4::A5::A0::A6::As) w:=h.sel 7 [1,2,3,4,5,0,6] (Nat.le_add_left _ _) rfl rfl
theorem Sep.s7_befadcg (h:Sep G W (A0::A1::A2::A3::A4::A5::A6::As) w):Sep G W (A1::A4::A5::A0::A3::A2::A6::As) w:=h.sel 7 [1,4,5,0,3,2,6] (Nat.le_add_left _ _) rfl rfl
theorem Sep.s7_cdeafgb (h:Sep G W (A0::A1::A2::A3::A4::A5::A6::As) w):Sep G W (A2::A3::A4::A0::A5::A6::A1::As) w:=h.sel 7 [2,3,4,0,5,6,1] (Nat.le_add_left _ _) rfl rfl
theorem Sep.s7_cdefga (h:Sep G W (A0::A1::A2::A3::A4::A5::A6::As) w):Sep G W (A2::A3::A4::A5::A6::A0::As) w:=h.sel 7 [2,3,4,5,6,0] (Nat.le_add_left _ _) rfl rfl
theorem Sep.s7_cdefgab (h:Sep G W (A0::A1::A2::A3::A4::A5::A6::As) w):Sep G W (A2::A3::A4::A5::A6::A0::A1::As) w:=h.sel 7 [2,3,4,5,6,0,1] (Nat.le_add_left _ _) rfl rfl
theorem Sep.s7_dbcefg (h:Sep G W (A0::A1::A2::A3::A4::A5::A6::As) w):Sep G W (A3::A1::A2::A4::A5::A6::As) w:=h.sel 7 [3,1,2,4,5,6] (Nat.le_add_left _ _) rfl rfl
theorem Sep.s7_ebg (h:Sep G W (A0::A1::A2::A3::A4::A5::A6::As) w):Sep G W (A4::A1::A6::As) w:=h.sel 7 [4,1,6] (Nat.le_add_left _ _) rfl rfl
theorem Sep.s8_abcdgefh (h:Sep G W (A0::A1::A2::A3::A4::A5::A6::A7::As) w):Sep G W (A0::A1::A2::A3::A6::A4::A5::A7::As) w:=h.sel 8 [0,1,2,3,6,4,5,7] (Nat.le_add_left _ _) rfl rfl
theorem Sep.s8_abdefgh (h:Sep G W (A0::A1::A2::A3::A4::A5::A6::A7::As) w):Sep G W (A0::A1::A3::A4::A5::A6::A7::As) w:=h.sel 8 [0,1,3,4,5,6,7] (Nat.le_add_left _ _) rfl rfl
theorem Sep.s8_badefgh (h:Sep G W (A0::A1::A2::A3::A4::A5::A6::A7::As) w):Sep G W (A1::A0::A3::A4::A5::A6::A7::As) w:=h.sel 8 [1,0,3,4,5,6,7] (Nat.le_add_left _ _) rfl rfl
theorem Sep.s8_bcdefhag (h:Sep G W (A0::A1::A2::A3::A4::A5::A6::A7::As) w):Sep G W (A1::A2::A3::A4::A5::A7::A0::A6::As) w:=h.sel 8 [1,2,3,4,5,7,0,6] (Nat.le_add_left _ _) rfl rfl
theorem Sep.s8_cbdefgh (h:Sep G W (A0::A1::A2::A3::A4::A5::A6::A7::As) w):Sep G W (A2::A1::A3::A4::A5::A6::A7::As) w:=h.sel 8 [2,1,3,4,5,6,7] (Nat.le_add_left _ _) rfl rfl
theorem Sep.s8_cdefaghb (h:Sep G W (A0::A1::A2::A3::A4::A5::A6::A7::As) w):Sep G W (A2::A3::A4::A5::A0::A6::A7::A1::As) w:=h.sel 8 [2,3,4,5,0,6,7,1] (Nat.le_add_left _ _) rfl rfl
theorem Sep.s8_cdefgahb (h:Sep G W (A0::A1::A2::A3::A4::A5::A6::A7::As) w):Sep G W (A2::A3::A4::A5::A6::A0::A7::A1::As) w:=h.sel 8 [2,3,4,5,6,0,7,1] (Nat.le_add_left _ _) rfl rfl
theorem Sep.s8_dbcefgh (h:Sep G W (A0::A1::A2::A3::A4::A5::A6::A7::As) w):Sep G W (A3::A1::A2::A4::A5::A6::A7::As) w:=h.sel 8 [3,1,2,4,5,6,7] (Nat.le_add_left _ _) rfl rfl
theorem Sep.s8_fgha (h:Sep G W (A0::A1::A2::A3::A4::A5::A6::A7::As) w):Sep G W (A5::A6::A7::A0::As) w:=h.sel 8 [5,6,7,0] (Nat.le_add_left _ _) rfl rfl
theorem Sep.s8_gdebcafh (h:Sep G W (A0::A1::A2::A3::A4::A5::A6::A7::As) w):Sep G W (A6::A3::A4::A1::A2::A0::A5::A7::As) w:=h.sel 8 [6,3,4,1,2,0,5,7] (Nat.le_add_left _ _) rfl rfl
theorem Sep.s9_acbdefghi (h:Sep G W (A0::A1::A2::A3::A4::A5::A6::A7::A8::As) w):Sep G W (A0::A2::A1::A3::A4::A5::A6::A7::A8::As) w:=h.sel 9 [0,2,1,3,4,5,6,7,8] (Nat.le_add_left _ _) rfl rfl
theorem Sep.s9_acdeghibf (h:Sep G W (A0::A1::A2::A3::A4::A5::A6::A7::A8::As) w):Sep G W (A0::A2::A3::A4::A6::A7::A8::A1::A5::As) w:=h.sel 9 [0,2,3,4,6,7,8,1,5] (Nat.le_add_left _ _) rfl rfl
theorem Sep.s9_aihbcdefg (h:Sep G W (A0::A1::A2::A3::A4::A5::A6::A7::A8::As) w):Sep G W (A0::A8::A7::A1::A2::A3::A4::A5::A6::As) w:=h.sel 9 [0,8,7,1,2,3,4,5,6] (Nat.le_add_left _ _) rfl rfl
theorem Sep.s9_bcdefgahi (h:Sep G W (A0::A1::A2::A3::A4::A5::A6::A7::A8::As) w):Sep G W (A1::A2::A3::A4::A5::A6::A0::A7::A8::As) w:=h.sel 9 [1,2,3,4,5,6,0,7,8] (Nat.le_add_left _ _) rfl rfl
theorem Sep.s9_defbacghi (h:Sep G W (A0::A1::A2::A3::A4::A5::A6::A7::A8::As) w):Sep G W (A3::A4::A5::A1::A0::A2::A6::A7::A8::As) w:=h.sel 9 [3,4,5,1,0,2,6,7,8] (Nat.le_add_left _ _) rfl rfl
theorem Sep.s9_defgahbci (h:Sep G W (A0::A1::A2::A3::A4::A5::A6::A7::A8::As) w):Sep G W (A3::A4::A5::A6::A0::A7::A1::A2::A8::As) w:=h.sel 9 [3,4,5,6,0,7,1,2,8] (Nat.le_add_left _ _) rfl rfl
theorem Sep.s9_defgahibc (h:Sep G W (A0::A1::A2::A3::A4::A5::A6::A7::A8::As) w):Sep G W (A3::A4::A5::A6::A0::A7::A8::A1::A2::As) w:=h.sel 9 [3,4,5,6,0,7,8,1,2] (Nat.le_add_left _ _) rfl rfl
theorem Sep.s9_eabfghcdi (h:Sep G W (A0::A1::A2::A3::A4::A5::A6::A7::A8::As) w):Sep G W (A4::A0::A1::A5::A6::A7::A2::A3::A8::As) w:=h.sel 9 [4,0,1,5,6,7,2,3,8] (Nat.le_add_left _ _) rfl rfl
theorem Sep.s9_efgdabchi (h:Sep G W (A0::A1::A2::A3::A4::A5::A6::A7::A8::As) w):Sep G W (A4::A5::A6::A3::A0::A1::A2::A7::A8::As) w:=h.sel 9 [4,5,6,3,0,1,2,7,8] (Nat.le_add_left _ _) rfl rfl
theorem Sep.s10_abdeghjcif (h:Sep G W (A0::A1::A2::A3::A4::A5::A6::A7::A8::A9::As) w):Sep G W (A0::A1::A3::A4::A6::A7::A9::A2::A8::A5::As) w:=h.sel 10 [0,1,3,4,6,7,9,2,8,5] (Nat.le_add_left _ _) rfl rfl
theorem Sep.s10_acbdefghij (h:Sep G W (A0::A1::A2::A3::A4::A5::A6::A7::A8::A9::As) w):Sep G W (A0::A2::A1::A3::A4::A5::A6::A7::A8::A9::As) w:=h.sel 10 [0,2,1,3,4,5,6,7,8,9] (Nat.le_add_left _ _) rfl rfl
theorem Sep.s10_cbdefghij (h:Sep G W (A0::A1::A2::A3::A4::A5::A6::A7::A8::A9::As) w):Sep G W (A2::A1::A3::A4::A5::A6::A7::A8::A9::As) w:=h.sel 10 [2,1,3,4,5,6,7,8,9] (Nat.le_add_left _ _) rfl rfl
theorem Sep.s10_cdebfgahij (h:Sep G W (A0::A1::A2::A3::A4::A5::A6::A7::A8::A9::As) w):Sep G W (A2::A3::A4::A1::A5::A6::A0::A7::A8::A9::As) w:=h.sel 10 [2,3,4,1,5,6,0,7,8,9] (Nat.le_add_left _ _) rfl rfl
theorem Sep.s10_gcbdefhij (h:Sep G W (A0::A1::A2::A3::A4::A5::A6::A7::A8::A9::As) w):Sep G W (A6::A2::A1::A3::A4::A5::A7::A8::A9::As) w:=h.sel 10 [6,2,1,3,4,5,7,8,9] (Nat.le_add_left _ _) rfl rfl
theorem Sep.s10_ibcdefghj (h:Sep G W (A0::A1::A2::A3::A4::A5::A6::A7::A8::A9::As) w):Sep G W (A8::A1::A2::A3::A4::A5::A6::A7::A9::As) w:=h.sel 10 [8,1,2,3,4,5,6,7,9] (Nat.le_add_left _ _) rfl rfl
theorem Sep.s10_jcdeagb (h:Sep G W (A0::A1::A2::A3::A4::A5::A6::A7::A8::A9::As) w):Sep G W (A9::A2::A3::A4::A0::A6::A1::As) w:=h.sel 10 [9,2,3,4,0,6,1] (Nat.le_add_left _ _) rfl rfl
theorem Sep.s11_acbdefghijk (h:Sep G W (A0::A1::A2::A3::A4::A5::A6::A7::A8::A9::A10::As) w):Sep G W (A0::A2::A1::A3::A4::A5::A6::A7::A8::A9::A10::As) w:=h.sel 11 [0,2,1,3,4,5,6,7,8,9,10] (Nat.le_add_left _ _) rfl rfl
theorem Sep.s11_bcadefghijk (h:Sep G W (A0::A1::A2::A3::A4::A5::A6::A7::A8::A9::A10::As) w):Sep G W (A1::A2::A0::A3::A4::A5::A6::A7::A8::A9::A10::As) w:=h.sel 11 [1,2,0,3,4,5,6,7,8,9,10] (Nat.le_add_left _ _) rfl rfl
theorem Sep.s11_cdefghijak (h:Sep G W (A0::A1::A2::A3::A4::A5::A6::A7::A8::A9::A10::As) w):Sep G W (A2::A3::A4::A5::A6::A7::A8::A9::A0::A10::As) w:=h.sel 11 [2,3,4,5,6,7,8,9,0,10] (Nat.le_add_left _ _) rfl rfl
theorem Sep.s11_ehabcdfgijk (h:Sep G W (A0::A1::A2::A3::A4::A5::A6::A7::A8::A9::A10::As) w):Sep G W (A4::A7::A0::A1::A2::A3::A5::A6::A8::A9::A10::As) w:=h.sel 11 [4,7,0,1,2,3,5,6,8,9,10] (Nat.le_add_left _ _) rfl rfl
theorem Sep.s11_fbcdeghijk (h:Sep G W (A0::A1::A2::A3::A4::A5::A6::A7::A8::A9::A10::As) w):Sep G W (A5::A1::A2::A3::A4::A6::A7::A8::A9::A10::As) w:=h.sel 11 [5,1,2,3,4,6,7,8,9,10] (Nat.le_add_left _ _) rfl rfl
theorem Sep.s12_abcdjefghikl (h:Sep G W (A0::A1::A2::A3::A4::A5::A6::A7::A8::A9::A10::A11::As) w):Sep G W (A0::A1::A2::A3::A9::A4::A5::A6::A7::A8::A10::A11::As) w:=h.sel 12 [0,1,2,3,9,4,5,6,7,8,10,11] (Nat.le_add_left _ _) rfl rfl
theorem Sep.s12_hcklbadefgij (h:Sep G W (A0::A1::A2::A3::A4::A5::A6::A7::A8::A9::A10::A11::As) w):Sep G W (A7::A2::A10::A11::A1::A0::A3::A4::A5::A6::A8::A9::As) w:=h.sel 12 [7,2,10,11,1,0,3,4,5,6,8,9] (Nat.le_add_left _ _) rfl rfl
theorem Sep.s12_hijaklbcdefg (h:Sep G W (A0::A1::A2::A3::A4::A5::A6::A7::A8::A9::A10::A11::As) w):Sep G W (A7::A8::A9::A0::A10::A11::A1::A2::A3::A4::A5::A6::As) w:=h.sel 12 [7,8,9,0,10,11,1,2,3,4,5,6] (Nat.le_add_left _ _) rfl rfl
theorem Sep.s12_iaklcbdefghj (h:Sep G W (A0::A1::A2::A3::A4::A5::A6::A7::A8::A9::A10::A11::As) w):Sep G W (A8::A0::A10::A11::A2::A1::A3::A4::A5::A6::A7::A9::As) w:=h.sel 12 [8,0,10,11,2,1,3,4,5,6,7,9] (Nat.le_add_left _ _) rfl rfl
theorem Sep.s12_ibkljacdefgh (h:Sep G W (A0::A1::A2::A3::A4::A5::A6::A7::A8::A9::A10::A11::As) w):Sep G W (A8::A1::A10::A11::A9::A0::A2::A3::A4::A5::A6::A7::As) w:=h.sel 12 [8,1,10,11,9,0,2,3,4,5,6,7] (Nat.le_add_left _ _) rfl rfl
theorem Sep.s12_jkacdefghil (h:Sep G W (A0::A1::A2::A3::A4::A5::A6::A7::A8::A9::A10::A11::As) w):Sep G W (A9::A10::A0::A2::A3::A4::A5::A6::A7::A8::A11::As) w:=h.sel 12 [9,10,0,2,3,4,5,6,7,8,11] (Nat.le_add_left _ _) rfl rfl
theorem Sep.s13_bdcaefghijklm (h:Sep G W (A0::A1::A2::A3::A4::A5::A6::A7::A8::A9::A10::A11::A12::As) w):Sep G W (A1::A3::A2::A0::A4::A5::A6::A7::A8::A9::A10::A11::A12::As) w:=h.sel 13 [1,3,2,0,4,5,6,7,8,9,10,11,12] (Nat.le_add_left _ _) rfl rfl
theorem Sep.s14_bdacefghijklmn (h:Sep G W (A0::A1::A2::A3::A4::A5::A6::A7::A8::A9::A10::A11::A12::A13::As) w):Sep G W (A1::A3::A0::A2::A4::A5::A6::A7::A8::A9::A10::A11::A12::A13::As) w:=h.sel 14 [1,3,0,2,4,5,6,7,8,9,10,11,12,13] (Nat.le_add_left _ _) rfl rfl
theorem Sep.s14_lbcdefghijkmn (h:Sep G W (A0::A1::A2::A3::A4::A5::A6::A7::A8::A9::A10::A11::A12::A13::As) w):Sep G W (A11::A1::A2::A3::A4::A5::A6::A7::A8::A9::A10::A12::A13::As) w:=h.sel 14 [11,1,2,3,4,5,6,7,8,9,10,12,13] (Nat.le_add_left _ _) rfl rfl
theorem Sep.s15_ebcdfghijklmno (h:Sep G W (A0::A1::A2::A3::A4::A5::A6::A7::A8::A9::A10::A11::A12::A13::A14::As) w):Sep G W (A4::A1::A2::A3::A5::A6::A7::A8::A9::A10::A11::A12::A13::A14::As) w:=h.sel 15 [4,1,2,3,5,6,7,8,9,10,11,12,13,14] (Nat.le_add_left _ _) rfl rfl
end
section
variable {G:Nat→Prop}{W w:World}{As:List HP}{A0 A1 A2 A3 A4 A5 A6 A7 A8 A9 A10:HP}{b:Nat}{c:Array Value}{T:TypeId}
theorem Sep.b0 (h:Sep G W (Blk b c T::As) w):w.heap[b]? =some (.cells c T):=h.blk (i:=0) rfl
theorem Sep.b1 (h:Sep G W (A0::Blk b c T::As) w):w.heap[b]? =some (.cells c T):=h.blk (i:=1) rfl
theorem Sep.b2 (h:Sep G W (A0::A1::Blk b c T::As) w):w.heap[b]? =some (.cells c T):=h.blk (i:=2) rfl
theorem Sep.b3 (h:Sep G W (A0::A1::A2::Blk b c T::As) w):w.heap[b]? =some (.cells c T):=h.blk (i:=3) rfl
theorem Sep.b4 (h:Sep G W (A0::A1::A2::A3::Blk b c T::As) w):w.heap[b]? =some (.cells c T):=h.blk (i:=4) rfl
theorem Sep.b5 (h:Sep G W (A0::A1::A2::A3::A4::Blk b c T::As) w):w.heap[b]? =some (.cells c T):=h.blk (i:=5) rfl
theorem Sep.b6 (h:Sep G W (A0::A1::A2::A3::A4::A5::Blk b c T::As) w):w.heap[b]? =some (.cells c T):=h.blk (i:=6) rfl
theorem Sep.b7 (h:Sep G W (A0::A1::A2::A3::A4::A5::A6::Blk b c T::As) w):w.heap[b]? =some (.cells c T):=h.blk (i:=7) rfl
theorem Sep.b8 (h:Sep G W (A0::A1::A2::A3::A4::A5::A6::A7::Blk b c T::As) w):w.heap[b]? =some (.cells c T):=h.blk (i:=8) rfl
theorem Sep.b9 (h:Sep G W (A0::A1::A2::A3::A4::A5::A6::A7::A8::Blk b c T::As) w):w.heap[b]? =some (.cells c T):=h.blk (i:=9) rfl
theorem Sep.b10 (h:Sep G W (A0::A1::A2::A3::A4::A5::A6::A7::A8::A9::Blk b c T::As) w):w.heap[b]? =some (.cells c T):=h.blk (i:=10) rfl
end
end
section
open Go.RowKit
theorem Soft.keep {w w':World}{b:Nat}(h:Soft w b)(e:w'.heap[b]? =w.heap[b]?):Soft w' b:=by obtain⟨c,T,hc⟩:=h;exact⟨c,T,e.trans hc⟩
structure Src (α:Type) [Rep α] where
 el:List Value→α→HP
 len: ∀{w f cs x},(el cs x).p w f→cs.length=Rep.k α
 one: ∀{w f cs x},(el cs x).p w f→ ∀u∈cs,u.oneCell'=true
def shr {α:Type}[Rep α](G:Nat→Prop)(W:World):Src α:=⟨fun cs x=>⟨fun _ _=>Rep.rd W G cs x,fun h _=>h⟩,fun h=>Rep.len h,fun h=>Rep.one h⟩
def own {α:Type}[Rep α]:Src α:=
 ⟨fun cs x=>⟨fun w f=>Rep.rd w (fun b=>f b∧Soft w b) cs x,fun h hf=>Rep.mono h (fun b hb hlt=>⟨(hf b hb.1 hlt).1,(hf b hb.1 hlt).2,hb.2.keep (hf b hb.1 hlt).1⟩)⟩,fun h=>Rep.len h,fun h=>Rep.one h⟩
class Flat (α:Type) [Rep α]:Prop where
 flat: ∀{w w':World} {F F':Nat→Prop} {cs:List Value} {x:α},Rep.rd w F cs x→Rep.rd w' F' cs x
instance:Flat Int:=⟨fun h=>h⟩
instance:Flat Bool:=⟨fun h=>h⟩
instance:Flat (Int×Int):=⟨fun h=>h⟩
theorem WY {α:Type}[Rep α][Flat α]{w w':World}{F f:Nat→Prop}{cs:List Value}{x:α}(h:Rep.rd w F cs x):((own (α:=α)).el cs x).p w' f:=Flat.flat h
section
variable {α:Type}
def EP (q:List Value→α→Prop):List (List Value)→List α→Prop
 |[],[]=>True
 |cs::css,x::l=>q cs x∧EP q css l
 |_,_=>False
theorem EP.mono {q q':List Value→α→Prop}(hq: ∀cs x,q cs x→q' cs x): ∀{css:List (List Value)} {l:List α},EP q css l→EP q' css l
 |[],[],_=>trivial
 |_::_,_::_,h=>⟨hq _ _ h.1,EP.mono hq h.2⟩
 |[],_::_,h=>h.elim
 |_::_,[],h=>h.elim
theorem EP.append {q:List Value→α→Prop}: ∀{css css2:List (List Value)} {l l2:List α},EP q css l→EP q css2 l2→EP q (css++css2) (l++l2)
 |[],_,[],_,_,h2=>h2
 |_::_,_,_::_,_,h,h2=>⟨h.1,EP.append h.2 h2⟩
 |[],_,_::_,_,h,_=>h.elim
 |_::_,_,[],_,h,_=>h.elim
theorem EP.one {q:List Value→α→Prop}(hq: ∀cs x,q cs x→ ∀u∈cs,u.oneCell'=true): ∀{css:List (List Value)} {l:List α},EP q css l→ ∀u∈css.flatten,u.oneCell'=true
 |[],[],_=>by simp
 |_::_,_::_,h=>by
  intro u hu
  simp only[List.flatten_cons,List.mem_append]at hu
  rcases hu with hu|hu
  ·exact hq _ _ h.1 u hu
  ·exact EP.one hq h.2 u hu
 |[],_::_,h=>h.elim
 |_::_,[],h=>h.elim
theorem EP.set {q:List Value→α→Prop}: ∀{css:List (List Value)} {l:List α},EP q css l→ ∀(i:Nat) {cs:List Value} {x:α},q cs x→EP q (css.set i cs) (l.set i x)
 |[],[],_,_,_,_,_=>trivial
 |_::_,_::_,h,0,_,_,hx=>⟨hx,h.2⟩
 |_::_,_::_,h,_+1,_,_,hx=>⟨h.1,EP.set h.2 _ hx⟩
 |[],_::_,h,_,_,_,_=>h.elim
 |_::_,[],h,_,_,_,_=>h.elim
theorem EP.take {q:List Value→α→Prop}(n:Nat): ∀{css:List (List Value)} {l:List α},EP q css l→EP q (css.take n) (l.take n):=by
 induction n with
 |zero=>intro css l _;exact trivial
 |succ n ih=>
  intro css l h
  match css,l,h with
  |[],[],_=>exact trivial
  |_::_,_::_,h=>exact⟨h.1,ih h.2⟩
theorem EP.length {q:List Value→α→Prop}: ∀{css:List (List Value)} {l:List α},EP q css l→css.length=l.length
 |[],[],_=>rfl
 |_::_,_::_,h=>congrArg (· +1) (EP.length h.2)
 |[],_::_,h=>h.elim
 |_::_,[],h=>h.elim
end
section
variable {α:Type}[Rep α]
theorem Els.ep {w:World}{F:Nat→Prop}: ∀{css:List (List Value)} {l:List α},Els w F css l→EP (Rep.rd w F) css l
 |[],[],_=>trivial
 |_::_,_::_,h=>⟨h.1,Els.ep h.2⟩
 |[],_::_,h=>h.elim
 |_::_,[],h=>h.elim
theorem EP.flat {q:List Value→α→Prop}(hl: ∀cs x,q cs x→cs.length=Rep.k α): ∀{css:List (List Value)} {l:List α},EP q css l→css.flatten.length=l.length*Rep.k α
 |[],[],_=>by simp
 |_::_,_::_,h=>by simp only[List.flatten_cons,List.length_append,List.length_cons,EP.flat hl h.2,hl _ _ h.1];rw[Nat.add_mul];omega
 |[],_::_,h=>h.elim
 |_::_,[],h=>h.elim
theorem EP.at_ {q:List Value→α→Prop}(hl: ∀cs x,q cs x→cs.length=Rep.k α): ∀{css:List (List Value)} {l:List α},EP q css l→ ∀i (h:i<l.length),∃cs,css[i]? =some cs∧q cs l[i]∧ ∀j (hj:j<cs.length),css.flatten[i*Rep.k α+j]? =some cs[j]
 |[],[],_,i,h=>absurd h (Nat.not_lt_zero i)
 |cs::css,x::l,h,0,_=>⟨cs,rfl,h.1,fun j hj=>by simp[List.getElem?_append,hj]⟩
 |cs::css,x::l,h,i+1,hi=>by
  obtain⟨c,h0,h1,h2⟩:=EP.at_ hl h.2 i (by simpa using hi)
  refine⟨c,by simpa using h0,by simpa using h1,fun j hj=>?_⟩
  have hl:=hl _ _ h.1
  rw[List.flatten_cons,List.getElem?_append_right (by rw[hl,Nat.add_mul];omega),hl,show(i+1)*Rep.k α+j-Rep.k α=i*Rep.k α+j by rw[Nat.add_mul];omega]
  exact h2 j hj
 |[],_::_,h,_,_=>h.elim
 |_::_,[],h,_,_=>h.elim
theorem EP.setFlat {q:List Value→α→Prop}(hl: ∀cs x,q cs x→cs.length=Rep.k α): ∀{css:List (List Value)} {l:List α},EP q css l→ ∀(i:Nat) (_:i<l.length) {cs:List Value},cs.length=Rep.k α→
 (css.set i cs).flatten=css.flatten.take (i*Rep.k α)++cs++css.flatten.drop (i*Rep.k α+Rep.k α)
 |[],[],_,i,hi,_,_=>absurd hi (Nat.not_lt_zero i)
 |c::css,x::l,h,0,_,cs,hcs=>by
  have hl:=hl _ _ h.1
  simp only[List.set_cons_zero,List.flatten_cons,Nat.zero_mul,List.take_zero,List.nil_append,Nat.zero_add]
  rw[←hl,List.drop_left]
 |c::css,x::l,h,i+1,hi,cs,hcs=>by
  have ih:=EP.setFlat hl h.2 i (by simpa using hi) hcs
  have hl:=hl _ _ h.1
  have e1:(i+1)*Rep.k α=c.length+i*Rep.k α:=by rw[hl,Nat.add_mul];omega
  have e2:(i+1)*Rep.k α+Rep.k α=c.length+(i*Rep.k α+Rep.k α):=by rw[e1];omega
  rw[List.set_cons_succ,List.flatten_cons,List.flatten_cons,ih,e2,e1,List.take_length_add_append,List.drop_length_add_append]
  simp only[List.append_assoc]
 |[],_::_,h,_,_,_,_=>h.elim
 |_::_,[],h,_,_,_,_=>h.elim
theorem UO {w w':World}{T:TypeId}{k n:Nat}{v:Value}{xs:List Value}(h:w.ownsRow 0 T k v n xs)(hv: ∀b,v.ownBlock=some b→b<w.heap.size→w'.heap[b]? =w.heap[b]?):w'.ownsRow 0 T k v n xs:=by
 refine⟨h.1,?_⟩
 rcases h.2 with hn|⟨g,cap,cur,rfl,hg,hgg,r⟩
 ·exact .inl hn
 ·exact .inr ⟨g,cap,cur,rfl,hg,by rw[hv g rfl (xz hgg)];exact hgg,r⟩
def RowE (src:Src α)(T:TypeId)(v:Value)(l:List α):HP where
 p w f:= ∃css,EP (fun cs x=>(src.el cs x).p w (fun b=>f b∧v.ownBlock≠some b)) css l∧w.ownsRow 0 T (Rep.k α) v l.length css.flatten∧(∀b,v.ownBlock=some b→f b)∧l.length*Rep.bytes α≤140737488355328
 loc:=by
  rintro w w' f f' ⟨css,h1,h2,h3,h4⟩ hf
  exact⟨css,h1.mono (fun cs x h=>(src.el cs x).loc h (fun b hb hlt=>⟨(hf b hb.1 hlt).1,(hf b hb.1 hlt).2,hb.2⟩)),UO h2 (fun b hb hlt=>(hf b (h3 b hb) hlt).1),fun b hb=>(hf b (h3 b hb) (h2.lt b hb).2).2,h4⟩
variable {src:Src α}{T:TypeId}{v:Value}{l:List α}{w:World}{f:Nat→Prop}
theorem RowE.nil (src:Src α)(T:TypeId)(w:World)(f:Nat→Prop):(RowE src T (.slice none 0 0) []).p w f:=⟨[],trivial,World.ownsRow_nil w 0 T _,fun b h=>by simp[Value.ownBlock]at h,by simp⟩
theorem RowE.isSl (h:(RowE src T v l).p w f):IsSl v l.length:=by
 obtain⟨css,h1,h2,_⟩:=h
 rcases h2.2 with⟨rfl,h0⟩|⟨g,cap,cur,rfl,_,_,hn,_⟩
 ·exact⟨none,0,by rw[h0],by omega,fun h=>by omega⟩
 ·exact⟨_,cap,rfl,hn,fun _=>⟨g,0,rfl⟩⟩
theorem RowE.small (h:(RowE src T v l).p w f):l.length*Rep.bytes α≤140737488355328:=by obtain⟨css,_,_,_,h⟩:=h;exact h
theorem RowE.elem (h:(RowE src T v l).p w f){i:Nat}(hi:i<l.length): ∃cs,CellsAt w (sb v) (so v+i*Rep.k α) cs∧(src.el cs l[i]).p w f:=by
 obtain⟨css,h1,h2,h3,h4⟩:=h
 rcases h2.2 with⟨rfl,h0⟩|⟨g,cap,cur,rfl,hg,hb,hn,hm,hs,ht⟩
 ·omega
 ·obtain⟨cs,_,hr,hc⟩:=h1.at_ (fun cs x h=>src.len h) i hi
  refine⟨cs,?_,(src.el cs _).weak hr (fun b hb _=>hb.1)⟩
  intro j hj
  have h3:=hc j hj
  rw[←ht,List.getElem?_take]at h3
  split at h3
  ·show w.cell? ⟨g,0+i*Rep.k α+j,none⟩=_
   rw[Nat.zero_add]
   exact Zk hb (by simpa using h3)
  ·cases h3
theorem RowE.rdG {F:Nat→Prop}(h:(RowE src T v l).p w f)(hf: ∀b,f b→F b)(hr: ∀cs x,(src.el cs x).p w f→Rep.rd w F cs x):RdS w F v l:=by
 refine⟨RowE.isSl h,fun hne=>?_,RowE.small h,fun i hi=>?_⟩
 ·obtain⟨css,h1,h2,h3,h4⟩:=h
  rcases h2.2 with⟨rfl,h0⟩|⟨g,cap,cur,rfl,_⟩
  ·exact(hne (List.length_eq_zero_iff.1 h0)).elim
  ·exact hf _ (h3 g rfl)
 ·obtain⟨cs,hc,he⟩:=RowE.elem h hi
  exact⟨cs,hc,hr cs _ he⟩
theorem RowE.rd (h:(RowE own T v l).p w f):RdS w f v l:=RowE.rdG h (fun _ h=>h) (fun cs x h=>Rep.mono h (fun b hb _=>⟨rfl,hb.1⟩))
theorem RowE.rdB {G:Nat→Prop}{W:World}(h:(RowE (shr G W) T v l).p w f)(hb:zdo G W f w):RdS w f v l:=RowE.rdG h (fun _ h=>h) (fun cs x h=>Rep.mono h hb)
theorem RowE.soft (h:(RowE own T v l).p w f):RdS w (fun b=>f b∧Soft w b) v l:=by
 have h':(RowE own T v l).p w (fun b=>f b∧Soft w b):=by
  obtain⟨css,h1,h2,h3,h4⟩:=h
  refine⟨css,h1.mono (fun cs x h=>Rep.mono h (fun b hb _=>⟨rfl,⟨⟨hb.1.1,hb.2⟩,hb.1.2⟩,hb.2⟩)),h2,fun b hb=>⟨h3 b hb,?_⟩,h4⟩
  rcases h2.2 with⟨rfl,h0⟩|⟨g,cap,cur,rfl,hg,hbk,_⟩
  ·simp[Value.ownBlock]at hb
  ·simp only[Value.ownBlock,Option.some.injEq]at hb;subst hb;exact⟨cur,T,hbk⟩
 exact RowE.rd h'
theorem RowE.ofFresh {lo:Nat}(h:Fresh T lo w v l):(RowE own T v l).p w (fun b=>lo≤b):=by
 obtain⟨F,⟨⟨css,h1,h2⟩,ha,hB,hs⟩,hF⟩:=h
 exact⟨css,h1.ep.mono (fun cs x h=>Rep.mono h (fun b hb _=>⟨rfl,⟨hF b hb,fun e=>ha b e hb⟩,(hB b hb).2 (hF b hb)⟩)),Yy h2 (Nat.zero_le _),fun b hb=>(h2.lt b hb).1,hs⟩
theorem RowE.ofOwn {lo:Nat}{F:Nat→Prop}(h:OwnS T lo w F v l)(hF: ∀b,F b→f b∧Soft w b)(hv: ∀b,v.ownBlock=some b→f b):(RowE own T v l).p w f:=by
 obtain⟨⟨css,h1,h2⟩,ha,hB,hs⟩:=h
 exact⟨css,h1.ep.mono (fun cs x h=>Rep.mono h (fun b hb _=>⟨rfl,⟨(hF b hb).1,fun e=>ha b e hb⟩,(hF b hb).2⟩)),Yy h2 (Nat.zero_le _),hv,hs⟩
variable {G:Nat→Prop}{W w':World}{As:List HP}
theorem Sep.rowNil (h:Sep G W As w)(src:Src α)(T:TypeId):Sep G W (RowE src T (.slice none 0 0) []::As) w:=h.push (Chg.refl _ _) (f:=fun _=>False) (RowE.nil _ _ _ _) (fun _ h=>h.elim)
theorem Sep.row (h:Sep G W As w){i:Nat}(hi:As[i]? =some (RowE src T v l)):IsSl v l.length∧l.length*Rep.bytes α≤140737488355328:=by
 obtain⟨f,h1,_⟩:=h.get hi;exact⟨RowE.isSl h1,RowE.small h1⟩
theorem Sep.rowAt (h:Sep G W As w){i j:Nat}(hi:As[i]? =some (RowE src T v l))(hj:j<l.length): ∃cs f,CellsAt w (sb v) (so v+j*Rep.k α) cs∧(src.el cs l[j]).p w f:=by
 obtain⟨f,h1,_⟩:=h.get hi
 obtain⟨cs,h2,h3⟩:=RowE.elem h1 hj
 exact⟨cs,f,h2,h3⟩
theorem Sep.made (h:Sep G W As w)(hx:Ext w w')(ho:OwnS T w.heap.size w' (fun _=>False) v l):Sep G W (RowE own T v l::As) w':=
 h.push hx (f:=fun b=>w.heap.size≤b) (RowE.ofOwn ho (fun _ h=>h.elim) (fun b hb=>(ho.lt b hb).1)) (fun _ h=>h)
theorem Sep.blkRow {b:Nat}{c:Array Value}(h:Sep G W (Blk b c T::As) w){css:List (List Value)}(hc:css.flatten=c.toList)(hE:EP (fun cs x=> ∀w f,(src.el cs x).p w f) css l)(hs:l.length*Rep.bytes α≤140737488355328)(hm:l.length≤maxLen:=by decide):
 Sep G W (RowE src T (.slice (some ⟨b,0,none⟩) l.length l.length) l::As) w:=by
 refine h.impl (i:=0) rfl (fun f hA=>⟨css,hE.mono (fun cs x h=>h _ _),?_,fun b' hb'=>?_,hs⟩)
 ·have hl:=hE.flat (fun cs x h=>src.len (h w f))
  refine⟨hl,.inr ⟨b,l.length,c,rfl,Nat.zero_le _,hA.1,Nat.le_refl _,hm,?_,?_⟩⟩
  ·rw[←hl,hc];simp
  ·rw[←hl,hc];exact List.take_of_length_le (Nat.le_refl _)
 ·simp only[Value.ownBlock,Option.some.injEq]at hb';subst hb';exact hA.2
end
section
variable {P:Program}{d:Option Tmp}{ty:TypeId}{pos:String}{af:Array Edge}{gd:Option (Nat×Bool)}{σ:Env}{w:World}{K:Value→World→Prop}
theorem XH {t T:TypeId}{k bytes n m c:Nat}{s x:Operand}{v:Value}{a:Addr}{xs news:List Value}(E:Elem P t T k bytes)(hk:0<k)(hs:ev σ s=v)(hown:w.ownsRow 0 T k v n xs)(hx:ev σ x=.slice (some a) m c)
 (hl:news.length=m*k) (ha: ∀j u,news[j]? =some u→w.cell? (a.add j)=some u) (h1: ∀u∈news,u.oneCell'=true) (hb:(n+m)*bytes≤140737488355328) (hm:n+m≤maxLen)
 (h: ∀v' w',w'.ownsRow 0 T k v' (n+m) (xs++news)→Chg (fun b=>v.ownBlock=some b) w w'→(v'.ownBlock=v.ownBlock∨ ∀g,v'.ownBlock=some g→w.heap.size≤g)→K v' w'):opV P ⟨d,.call ⟨.builtin .append,#[s,x],#[t,t]⟩,ty,pos,af,gd⟩ σ w K:=by
 obtain⟨i,z,hi,hz,hsize,hby,hzs⟩:=E.info
 obtain⟨v',w',hr,hown',hg,hrow',hsoft,hdrawn⟩:=YR (P:=P) w 0 t ty T i z k bytes E.und hi hz hsize hby hzs hk v n xs hown a m c news hl ha h1 hm hb (Nat.zero_le _)
 exact yp (Zx hs hx hr) (h v' w' hown' ⟨hg.os,hg.tape,hg.output,hg.size,fun b hlt hne=>hg.block b hlt (fun e=>hne e.symm),hsoft,hdrawn⟩ hrow')
variable {α:Type}[Rep α]{src:Src α}{T:TypeId}{v:Value}{l:List α}{G:Nat→Prop}{W:World}{As:List HP}{N:HP}
theorem Yz {w:World}{T:TypeId}{k n:Nat}{v:Value}{xs ys:List Value}(h:w.ownsRow 0 T k v n xs)(h2:w.ownsRow 0 T k v n ys):xs=ys:=by
 rcases h.2 with⟨rfl,h0⟩|⟨g,cap,cur,rfl,hg,hb,hn,hm,hs,ht⟩
 ·have e1:=h.1;have e2:=h2.1
  rw[h0,Nat.zero_mul]at e1 e2
  rw[List.length_eq_zero_iff.1 e1,List.length_eq_zero_iff.1 e2]
 ·rcases h2.2 with⟨h3,_⟩|⟨g',cap',cur',he,hg',hb',hn',hm',hs',ht'⟩
  ·cases h3
  ·cases he
   rw[hb]at hb'
   cases hb'
   rw[←ht,←ht']
theorem yq {t:TypeId}{bytes b:Nat}{s x:Operand}{c:Array Value}{x1:α}{T':TypeId}(h:Sep G W (RowE src T v l::N::As) w)(E:Elem P t T (Rep.k α) bytes)(hs:ev σ s=v)(hx:ev σ x=.slice (some ⟨b,0,none⟩) 1 1)
 (hbk:w.heap[b]? =some (.cells c T')) (hN: ∀w f,N.p w f→(src.el c.toList x1).p w f) (hb:(l.length+1)*bytes≤140737488355328) (hby0:bytes=Rep.bytes α)
 (hK: ∀v' w',Sep G W (RowE src T v' (l++[x1])::As) w'→K v' w'):opV P ⟨d,.call ⟨.builtin .append,#[s,x],#[t,t]⟩,ty,pos,af,gd⟩ σ w K:=by
 subst hby0
 have hst:=h.closeStar (Bs:=[RowE src T v l,N])
 obtain⟨f0,hf0,hl0⟩:=hst.get (i:=0) rfl
 obtain⟨fs,q1,q2⟩:=hf0
 obtain⟨⟨css,hE,hown,hrow,hsm⟩,_⟩:=q1 0 _ rfl
 obtain⟨hNp,_⟩:=q1 1 _ rfl
 have hc:=src.len (hN _ _ hNp)
 have h1:=src.one (hN _ _ hNp)
 have hlen:=XF (α:=α) hb
 refine XH E Rep.kpos hs hown hx (by rw[Nat.one_mul];exact hc) (fun j u hu=>by rw[VC,Nat.zero_add];exact Zk hbk (by simpa using hu)) h1 hb (by unfold maxLen;omega) (fun v' w' hown' hchg hv'=>hK v' w' ?_)
 have:=hst.upd (i:=0) (w':=w') (B:=RowE src T v' (l++[x1])) rfl (fun f hA hl=>?_)
 ·exact this
 obtain⟨gs,r1,r2⟩:=hA
 obtain⟨⟨css,hE,hown2,hrow,hsm⟩,hf0⟩:=r1 0 _ rfl
 obtain⟨hNp,hf1⟩:=r1 1 _ rfl
 have r2':=r2 0 1 (by simp) (by simp) (by simp)
 refine⟨hchg.weak (fun b _ hb=>(hf0 b (hrow b hb)).1),fun b=>f b∨w.heap.size≤b,?_,fun b hb=>hb⟩
 have hcss:css.flatten=_:=rfl
 have nb: ∀b,(gs 0 b∧v.ownBlock≠some b)∨gs 1 b→b<w.heap.size→w'.heap[b]? =w.heap[b]? :=fun b hb hlt=>hchg.block b hlt (fun e=>by
  rcases hb with hb|hb
  ·exact hb.2 e
  ·exact r2' b (hrow b e) hb)
 have nv: ∀b,(gs 0 b∧v.ownBlock≠some b)∨gs 1 b→v'.ownBlock≠some b:=fun b hb e=>by
  rcases hv' with h3|h3
  ·rw[h3]at e
   rcases hb with hb|hb
   ·exact hb.2 e
   ·exact r2' b (hrow b e) hb
  ·have h4:=h3 b e
   rcases hb with hb|hb
   ·have:=(hf0 b hb.1).2;omega
   ·have:=(hf1 b hb).2;omega
 refine⟨css++[c.toList],EP.append (hE.mono (fun cs x h=>(src.el cs x).loc h (fun b hb hlt=>⟨nb b (.inl hb) hlt,.inl (hf0 b hb.1).1,nv b (.inl hb)⟩))) ⟨(src.el _ _).loc (hN _ _ hNp) (fun b hb hlt=>⟨nb b (.inr hb) hlt,.inl (hf1 b hb).1,nv b (.inr hb)⟩),trivial⟩,?_,fun b hb=>?_,by simpa using hb⟩
 ·have hw:css.flatten=css.flatten:=rfl
  rw[List.length_append,List.flatten_append]
  have hu:w.ownsRow 0 T (Rep.k α) v l.length css.flatten:=hown2
  have hxs:=Yz hown hown2
  rw[←hxs]
  simpa using hown'
 ·rcases hv' with h3|h3
  ·rw[h3]at hb;exact .inl (hf0 b (hrow b hb)).1
  ·exact .inr (h3 b hb)
end
section
variable {α:Type}[Rep α]{src:Src α}{G:Nat→Prop}{W w:World}{As:List HP}{A0 A1 A2 A3 A4 A5 A6 A7 A8 A9 A10:HP}{T:TypeId}{v:Value}{l:List α}
theorem Sep.r0 (h:Sep G W (RowE src T v l::As) w):IsSl v l.length∧l.length*Rep.bytes α≤140737488355328:=h.row (i:=0) rfl
theorem Sep.r1 (h:Sep G W (A0::RowE src T v l::As) w):IsSl v l.length∧l.length*Rep.bytes α≤140737488355328:=h.row (i:=1) rfl
theorem Sep.r2 (h:Sep G W (A0::A1::RowE src T v l::As) w):IsSl v l.length∧l.length*Rep.bytes α≤140737488355328:=h.row (i:=2) rfl
theorem Sep.r3 (h:Sep G W (A0::A1::A2::RowE src T v l::As) w):IsSl v l.length∧l.length*Rep.bytes α≤140737488355328:=h.row (i:=3) rfl
theorem Sep.r6 (h:Sep G W (A0::A1::A2::A3::A4::A5::RowE src T v l::As) w):IsSl v l.length∧l.length*Rep.bytes α≤140737488355328:=h.row (i:=6) rfl
end
theorem Sep.rowAtD {α:Type}[Rep α][Inhabited α]{src:Src α}{G:Nat→Prop}{W w:World}{As:List HP}{T:TypeId}{v:Value}{l:List α}(h:Sep G W As w){i j:Nat}(hi:As[i]? =some (RowE src T v l))(hj:j<l.length): ∃cs f,CellsAt w (sb v) (so v+j*Rep.k α) cs∧(src.el cs (l.getD j default)).p w f:=by
 rw[zJ default hj];exact h.rowAt hi hj
end
section
open Go.RowKit
theorem _root_.List.take_getD {α:Type}{l:List α}{k:Nat}{d:α}(h:k<l.length):l.take (k+1)=l.take k++[l.getD k d]:=by
 rw[List.take_succ_eq_append_getElem h,zJ d h]
section
variable {P:Program}{d:Option Tmp}{ty:TypeId}{pos:String}{af:Array Edge}{gd:Option (Nat×Bool)}{σ:Env}{w:World}{K:Value→World→Prop}
variable {α:Type}[Rep α]{src:Src α}{T:TypeId}{v:Value}{l:List α}{G:Nat→Prop}{W:World}{As:List HP}{N:HP}
theorem xO {t:TypeId}{bytes:Nat}{s x:Operand}{v2:Value}{l2:List α}(h:Sep G W (RowE src T v l::As) w)(E:Elem P t T (Rep.k α) bytes)(hs:ev σ s=v)(hx:ev σ x=v2)(h2:RdS W G v2 l2)
 (hb:(l.length+l2.length)*bytes≤140737488355328) (hby0:bytes=Rep.bytes α)
 (hK: ∀v' w',Sep G W (RowE src T v' (l++l2)::As) w'→K v' w') (hq': ∀cs x,Rep.rd W G cs x→ ∀w f,(src.el cs x).p w f):opV P ⟨d,.call ⟨.builtin .append,#[s,x],#[t,t]⟩,ty,pos,af,gd⟩ σ w K:=by
 subst hby0
 obtain⟨i,z,hi,hz,hsize,hby,hzs⟩:=E.info
 obtain⟨f0,⟨css,hE,hown,hrow,hsm⟩,hl0⟩:=h.get (i:=0) rfl
 have hlen:=XF (α:=α) hb
 have h2w:=h.rds h2
 obtain⟨css2,hE2',hc2⟩:=h2w.els
 obtain⟨css2W,hE2W,hc2W⟩:=h2.els
 have hEq:css2.flatten=css2W.flatten:=by
  have l1:=hE2'.flat
  have l2':=hE2W.flat
  refine List.ext_getElem (by rw[l1,l2']) (fun j h3 h4=>?_)
  have e1:=hc2 j _ (List.getElem?_eq_getElem h3)
  have e2:=hc2W j _ (List.getElem?_eq_getElem h4)
  have hne:l2≠[]:=by intro e;rw[e,List.length_nil,Nat.zero_mul]at l1;omega
  have hG:=h2.foot hne
  rw[Yp (h.gb hG),e2]at e1
  exact(Option.some.inj e1).symm
 obtain⟨a2,cap2,hv2,hle2,hpos2⟩:=h2.sl
 cases a2 with
 |none=>
  have h0:l2.length=0:=by
   rcases Nat.eq_zero_or_pos l2.length with h|h
   ·exact h
   ·obtain⟨b,o,hbo⟩:=hpos2 h;cases hbo
  have hl2:l2=[]:=List.length_eq_zero_iff.1 h0
  obtain⟨a1,cap1,hv1,hle1,_⟩:=(h.row (i:=0) rfl).1
  rw[hv1]at hs
  rw[hv2,h0]at hx
  refine yp (Zx hs hx (WD w t ty T i E.und hi a1 l.length cap1 cap2 hle1)) ?_
  subst hl2
  rw[←hv1]
  exact hK v w (by simpa using h)
 |some a2=>
  have ha: ∀j u,css2.flatten[j]? =some u→w.cell? (a2.add j)=some u:=by
   intro j u hu
   have hne:0<l2.length:=by
    rcases Nat.eq_zero_or_pos l2.length with h0|h0
    ·have:=hE2'.flat;rw[h0,Nat.zero_mul]at this
     rw[List.length_eq_zero_iff.1 this]at hu;simp at hu
    ·exact h0
   obtain⟨b,o,hbo⟩:=hpos2 hne
   have hu':=hc2 j u hu
   rw[hv2]at hu'
   cases hbo
   rw[show(⟨b,o,none⟩:Addr).add j=⟨b,o+j,none⟩from Addr.add_lit b o j]
   exact hu'
  rw[hv2]at hx
  refine XH E Rep.kpos hs hown hx hE2'.flat ha hE2'.one hb (by unfold maxLen;omega) (fun v' w' hown' hchg hv'=>hK v' w' ?_)
  refine h.upd (i:=0) rfl (fun f hA hl=>?_)
  obtain⟨cs0,hE,hown2,hrow,hsm⟩:=hA
  have nv: ∀b,f b→v.ownBlock≠some b→v'.ownBlock≠some b:=fun b h1 h2 e=>by
   rcases hv' with h3|h3
   ·rw[h3]at e;exact h2 e
   ·have:=h3 b e;have:=(hl b h1).2;omega
  refine⟨hchg.weak (fun b _ hb=>hrow b hb),fun b=>f b∨w.heap.size≤b,⟨cs0++css2W,EP.append (hE.mono (fun cs x h=>(src.el cs x).loc h (fun b hb hlt=>⟨hchg.block b hlt hb.2,.inl hb.1,nv b hb.1 hb.2⟩))) (hE2W.ep.mono (fun cs x h=>hq' cs x h _ _)),?_,fun b hb=>?_,by simpa using hb⟩,fun b hb=>hb⟩
  ·rw[List.length_append,List.flatten_append,←Yz hown hown2,←hEq]
   exact hown'
  ·rcases hv' with h3|h3
   ·rw[h3]at hb;exact .inl (hrow b hb)
   ·exact .inr (h3 b hb)
theorem yJ {t:TypeId}{j o:Nat}{x y:Operand}{u:Value}{x1:α}{us:List Value}(h:Sep G W (RowE src T v l::N::As) w)(hS: ∀w,(sizeOf t).run P w=.ok us.length w)(hj:j<l.length)
 (hx:ev σ x=.pointer (some ⟨sb v,so v+j*Rep.k α+o,none⟩)) (hy:ev σ y=u) (hu:u.cells.toList=us) (ho:o+us.length≤Rep.k α) (h1: ∀u∈us,u.oneCell'=true)
 (hq: ∀w f cs0,(src.el cs0 l[j]).p w f→N.p w f→(src.el (cs0.take o++us++cs0.drop (o+us.length)) x1).p w f)
 (hK: ∀w',Sep G W (RowE src T v (l.set j x1)::As) w'→K undef w'):opV P ⟨d,.store t x y,ty,pos,af,gd⟩ σ w K:=by
 have hst:=h.closeStar (Bs:=[RowE src T v l,N])
 obtain⟨f0,⟨fs,q1,q2⟩,hl0⟩:=hst.get (i:=0) rfl
 obtain⟨⟨css,hE,hown,hrow,hsm⟩,_⟩:=q1 0 _ rfl
 have hlen: ∀{w f cs x},(src.el cs x).p w f→cs.length=Rep.k α:=fun h=>src.len h
 rcases hown.2 with⟨rfl,h0⟩|⟨g,cap,cur,rfl,hg,hb,hn,hm,hs,ht⟩
 ·omega
 ·have hle:j*Rep.k α+Rep.k α≤l.length*Rep.k α:=by rw[←Nat.succ_mul];exact Nat.mul_le_mul_right _ hj
  have hle2:l.length*Rep.k α≤cap*Rep.k α:=Nat.mul_le_mul_right _ hn
  have hx':ev σ x=.pointer (some ⟨g,j*Rep.k α+o,none⟩):=by rw[hx];simp[sb,so]
  refine zy (v:=u) (c:=cur) (T:=T) (by intro w;rw[hS,←hu];simp) hx' hy hb (by rw[hu];exact h1) (by rw[hu,hs];omega) rfl (fun w1 hp=>hK w1 ?_)
  refine hst.upd (i:=0) (B:=RowE src T (.slice (some ⟨g,0,none⟩) l.length cap) (l.set j x1)) rfl (fun f hA hl=>?_)
  obtain⟨gs,r1,r2⟩:=hA
  obtain⟨⟨css,hE,hown,hrow,hsm⟩,hf0⟩:=r1 0 _ rfl
  obtain⟨hNp,hf1⟩:=r1 1 _ rfl
  have r2':=r2 0 1 (by simp) (by simp) (by simp)
  have hgr:gs 0 g:=hrow g rfl
  refine⟨hp.chg.weak (fun b _ hb=>by subst hb;exact(hf0 _ hgr).1),f,?_,fun b hb=>.inl hb⟩
  have hgo:(Value.slice (some ⟨g,0,none⟩) l.length cap).ownBlock=some g:=rfl
  have nb: ∀b,(gs 0 b∧(Value.slice (some ⟨g,0,none⟩) l.length cap).ownBlock≠some b)∨gs 1 b→b<w.heap.size→w1.heap[b]? =w.heap[b]? ∧(f b∧(Value.slice (some ⟨g,0,none⟩) l.length cap).ownBlock≠some b):=fun b hb hlt=>by
   have hne:b≠g:=fun e=>by
    subst e
    rcases hb with hb|hb
    ·exact hb.2 hgo
    ·exact r2' _ hgr hb
   refine⟨hp.chg.block b hlt hne,?_,fun e=>hne (by rw[hgo]at e;exact(Option.some.inj e).symm)⟩
   rcases hb with hb|hb
   ·exact(hf0 b hb.1).1
   ·exact(hf1 b hb).1
  rcases hown.2 with⟨h3,h0⟩|⟨g',cap',cur',he,hg',hb',hn',hm',hs',ht'⟩
  ·cases h3
  ·cases he
   rw[hb]at hb'
   cases hb'
   obtain⟨cs,hcs0,hel,hcs⟩:=hE.at_ (fun cs x h=>hlen h) j hj
   have hcl:=hlen hel
   have hnew:(src.el (cs.take o++us++cs.drop (o+us.length)) x1).p w1 (fun b=>f b∧(Value.slice (some ⟨g,0,none⟩) l.length cap).ownBlock≠some b):=by
    have e1:=(src.el cs l[j]).loc hel (fun b hb hlt=>nb b (.inl hb) hlt)
    have e2:=N.loc hNp (fun b hb hlt=>nb b (.inr hb) hlt)
    exact hq _ _ _ e1 e2
   have hnl:=hlen hnew
   have hE':=(hE.mono (fun cs x h=>(src.el cs x).loc h (fun b hb hlt=>nb b (.inl hb) hlt)))
   refine⟨css.set j (cs.take o++us++cs.drop (o+us.length)),EP.set (q:=fun cs x=>(src.el cs x).p w1 (fun b=>f b∧(Value.slice (some ⟨g,0,none⟩) l.length cap).ownBlock≠some b)) hE' j hnew,?_,fun b hb=>by rw[hgo]at hb;cases hb;exact(hf0 _ hgr).1,by rw[List.length_set];exact hsm⟩
   have hcf:=hE.flat (fun cs x h=>hlen h)
   have hfl:=EP.setFlat (fun cs x h=>hlen h) hE j hj hnl
   have hlen2:(css.set j (cs.take o++us++cs.drop (o+us.length))).flatten.length=l.length*Rep.k α:=by
    rw[hfl]
    simp only[List.length_append,List.length_take,List.length_drop,hcf,hcl]
    omega
   refine⟨by rw[List.length_set];exact hlen2,.inr ⟨g,cap,_,by rw[List.length_set],hg,hp.at_,by rw[List.length_set];exact hn,hm,?_,?_⟩⟩
   ·simp only[Wz,hu,List.size_toArray,List.length_append,List.length_take,List.length_drop,Array.length_toList]
    rw[hs];omega
   ·rw[List.length_set,hfl]
    simp only[Wz,hu]
    have hcz:cur.toList.length=cap*Rep.k α:=by simpa using hs
    have hcsd:cs=(cur.toList.drop (j*Rep.k α)).take (Rep.k α):=by
     refine List.ext_getElem (by rw[hcl,List.length_take,List.length_drop,hcz];omega) (fun i h3 h4=>?_)
     have h5:=hcs i h3
     rw[←ht',List.getElem?_take]at h5
     split at h5
     ·rw[List.getElem_take,List.getElem_drop]
      exact(List.getElem?_eq_some_iff.1 h5).2.symm
     ·cases h5
    have e1:css.flatten.take (j*Rep.k α)=cur.toList.take (j*Rep.k α):=by rw[←ht',List.take_take,Nat.min_eq_left (by omega)]
    have e2:css.flatten.drop (j*Rep.k α+Rep.k α)=(cur.toList.drop (j*Rep.k α+Rep.k α)).take (l.length*Rep.k α-(j*Rep.k α+Rep.k α)):=by rw[←ht',List.drop_take]
    have e3:cs.take o=(cur.toList.drop (j*Rep.k α)).take o:=by rw[hcsd,List.take_take,Nat.min_eq_left (by omega)]
    have e4:cs.drop (o+us.length)=(cur.toList.drop (j*Rep.k α+o+us.length)).take (Rep.k α-(o+us.length)):=by rw[hcsd,List.drop_take,List.drop_drop];congr 2;omega
    rw[e1,e2,e3,e4]
    have e5:cur.toList.take (j*Rep.k α+o)=cur.toList.take (j*Rep.k α)++(cur.toList.drop (j*Rep.k α)).take o:=List.take_add
    have hA:(cur.toList.take (j*Rep.k α+o)++us).length=j*Rep.k α+o+us.length:=by rw[List.length_append,List.length_take,hcz];omega
    have e6:(cur.toList.drop (j*Rep.k α+o+us.length)).take (l.length*Rep.k α-(j*Rep.k α+o+us.length))=(cur.toList.drop (j*Rep.k α+o+us.length)).take (Rep.k α-(o+us.length))++(cur.toList.drop (j*Rep.k α+Rep.k α)).take (l.length*Rep.k α-(j*Rep.k α+Rep.k α)):=by
     have:= @List.take_add _ (cur.toList.drop (j*Rep.k α+o+us.length)) (Rep.k α-(o+us.length)) (l.length*Rep.k α-(j*Rep.k α+Rep.k α))
     rw[show Rep.k α-(o+us.length)+(l.length*Rep.k α-(j*Rep.k α+Rep.k α))=l.length*Rep.k α-(j*Rep.k α+o+us.length) by omega]at this
     rw[this,List.drop_drop]
     congr 3
     omega
    rw[List.take_append,hA,List.take_of_length_le (by rw[hA];omega),e6,e5]
    simp only[List.append_assoc]
end
section
variable {α:Type}[Rep α]{G:Nat→Prop}{W w w':World}{As:List HP}{m:Nat}{L:List (Int×α)}
def YS (m:Nat)(L:List (Int×α)):HP:=⟨fun w f=>f m∧MapR (α:=α) w (fun _=>False) m L,fun⟨h1,h2⟩ hf=>⟨(hf _ h1 h2.lt).2,h2.mono (hf _ h1 h2.lt).1 (fun _ h=>h.elim)⟩⟩
theorem Sep.mapNew (h:Sep G W As w)(hn:New w w' w.heap.size (.map #[] 0)):Sep G W (YS (α:=α) w.heap.size []::As) w':=h.push hn.ext (f:=fun i=>i=w.heap.size) ⟨rfl,New.mapR hn _⟩ (fun i hi=>by omega)
theorem Sep.map_ (h:Sep G W As w){i:Nat}(hi:As[i]? =some (YS m L)):MapR (α:=α) w (fun _=>False) m L:=by obtain⟨f,h1,_⟩:=h.get hi;exact h1.2
theorem Sep.mapPut (h:Sep G W As w){i:Nat}(hi:As[i]? =some (YS m L)){L':List (Int×α)}(hm:MapR (α:=α) w' (fun _=>False) m L')(hc:Chg (fun i=>i=m) w w'):Sep G W (As.set i (YS m L')) w':=
 h.upd hi (fun f hA _=>⟨hc.weak (fun j _ hj=>by subst hj;exact hA.1),f,⟨hA.1,hm⟩,fun _ hb=>.inl hb⟩)
end
end
section
def WF (l:List ((Nat→Value)→World→Prop)):Nat→(Nat→Value)→World→Prop:=fun i vals w=>match l[i]? with
 |some p=>p vals w
 |none=>True
def AF (l:List ((Nat→Value)→Prop)):Nat→(Nat→Value)→Prop:=fun i vals=>match l[i]? with
 |some p=>p vals
 |none=>True
abbrev Vl (n:Nat)(X:Value):(Nat→Value)→Prop:=fun v=>v n=X
def AFs (pre:List (List Nat)):Nat→List ((Nat→Value)→Prop)→Prop
 |_,[]=>True
 |n,A::l=>(∀v v':Nat→Value,(∀j,j=n∨j∈pre.getD n []→v' j=v j)→A v→A v')∧AFs pre (n+1) l
theorem AFs.at_ {pre:List (List Nat)}: ∀{l:List ((Nat→Value)→Prop)} {n:Nat},AFs pre n l→ ∀i v v',(∀j,j=n+i∨j∈pre.getD (n+i) []→v' j=v j)→AF l i v→AF l i v'
 |[],_,_,_,_,_,_,h=>h
 |_::_,_,h,0,v,v',hv,ha=>h.1 v v' hv ha
 |A::l,n,h,i+1,v,v',hv,ha=>AFs.at_ (l:=l) (n:=n+1) h.2 i v v' (by rw[show n+1+i=n+(i+1) by omega];exact hv) ha
theorem xi {pre:List (List Nat)}{l:List ((Nat→Value)→Prop)}(h:AFs pre 0 l): ∀i v v',(∀j,j=i∨j∈pre.getD i []→v' j=v j)→AF l i v→AF l i v':=fun i v v' hv ha=>h.at_ i v v' (by rw[Nat.zero_add];exact hv) ha
theorem dA {p:List Nat}{n:Nat}{X:Value}(v v':Nat→Value)(h: ∀j,j=n∨j∈p→v' j=v j)(e:v n=X):v' n=X:=(h n (.inl rfl)).trans e
theorem dT {Q:(Nat→Value)→(Nat→Value)→Prop}(v v':Nat→Value)(_:Q v v')(_:True):True:=trivial
section
variable {P:Program}{n:Nat}{Q:Xz}{σ:Env}{w:World}{ops:List Oper}{pre:List (List Nat)}
def seesOk (pre:List (List Nat))(ss:List Nat)(sees:List (Nat×Nat)):Bool:=
 (List.range sees.length).all fun i=>match sees.getD i (0,0)with
  |(a,b)=>((ss.take a).all fun s=>(pre.getD i []).contains s)&&((ss.drop b).all fun s=>Nat.beq s i||(pre.getD s []).contains i)&&Nat.ble a ss.length&&
   (!ss.contains i||(Nat.beq a b&&ss[a]? == some i&&(ss.take a).all (fun s=> !Nat.beq s i)&&(ss.drop (a+1)).all fun s=> !Nat.beq s i&&(pre.getD s []).contains i))
theorem seesOk.bounds {ss:List Nat}{sees:List (Nat×Nat)}(h:seesOk pre ss sees=true){i a b:Nat}(hi:i<sees.length)(hk:sees.getD i (0,0)=(a,b)){done:Nat→Bool}(hc:closed pre done)(hd:done i=false)(hp: ∀j∈pre.getD i [],done j=true):a≤xL ss done∧xL ss done≤b:=by
 simp only[seesOk,List.all_eq_true,List.mem_range]at h
 have h1:=h i hi
 rw[hk]at h1
 simp only[Bool.or_eq_true,Bool.and_eq_true,zbd,List.all_eq_true,List.contains_iff_mem,Bool.not_eq_true',beq_iff_eq]at h1
 obtain⟨⟨⟨ha,hb⟩,hal⟩,hs⟩:=h1
 have hal':a≤ss.length:=Nat.le_of_ble_eq_true hal
 have e2: ∀s∈ss.drop b,done s=false:=fun s hs'=>by
  rcases hb s hs' with rfl|h2
  ·exact hd
  ·cases hds:done s with
   |false=>rfl
   |true=>have:=hc s hds i h2;rw[hd]at this;cases this
 constructor
 ·have h3:xL ss done=(ss.take a).countP done+(ss.drop a).countP done:=by rw[xL,←List.countP_append,List.take_append_drop]
  have h4:(ss.take a).countP done=(ss.take a).length:=List.countP_eq_length.2 fun s hs=>hp s (ha s hs)
  rw[h3,h4,List.length_take];omega
 ·have:xL ss done=(ss.take b).countP done+(ss.drop b).countP done:=by rw[xL,←List.countP_append,List.take_append_drop]
  rw[this,Wn e2]
  exact Nat.le_trans List.countP_le_length (by rw[List.length_take];omega)
theorem seesOk.next {ss:List Nat}{sees:List (Nat×Nat)}(h:seesOk pre ss sees=true){i:Nat}(hi:i<sees.length)(hm:i∈ss){done:Nat→Bool}(hc:closed pre done)(hd:done i=false)(hp: ∀j∈pre.getD i [],done j=true):xL ss (fun j=>done j||j== i)=xL ss done+1:=by
 simp only[seesOk,List.all_eq_true,List.mem_range]at h
 have h1:=h i hi
 generalize hk:sees.getD i (0,0)=ab at h1
 obtain⟨a,b⟩:=ab
 simp only[Bool.or_eq_true,Bool.and_eq_true,zbd,List.all_eq_true,List.contains_iff_mem,Bool.not_eq_true',beq_iff_eq]at h1
 obtain⟨⟨⟨ha,hb⟩,hal⟩,hs⟩:=h1
 rcases hs with hs|⟨⟨⟨hab,hat⟩,hta⟩,htd⟩
 ·rw[show ss.contains i=true from List.contains_iff_mem.2 hm]at hs;cases hs
 ·obtain⟨hlt,hget⟩:=List.getElem?_eq_some_iff.1 hat
  have hsplit:ss=ss.take a++i::ss.drop (a+1):=by rw[←hget,←List.drop_eq_getElem_cons hlt,List.take_append_drop]
  have k1: ∀d:Nat→Bool,xL ss d=(ss.take a).countP d+((ss.drop (a+1)).countP d+if d i=true then 1 else 0):=fun d=>by
   conv=>lhs;rw[xL,hsplit]
   rw[List.countP_append,List.countP_cons]
  have k2:i∉ss.take a:=fun h=>by have:=hta i h;simp at this
  have k3:i∉ss.drop (a+1):=fun h=>by have:=(htd i h).1;simp at this
  rw[k1,k1,Xl k2,Xl k3]
  simp[hd]
  omega
def Qy (P:Program)(ops:List Oper)(pre:List (List Nat))(ss:List Nat)(sees:List (Nat×Nat))(W:Nat→(Nat→Value)→World→Prop)(A:Nat→(Nat→Value)→Prop)(σ:Env):Nat→List Oper→Prop
 |_,[]=>True
 |i,o::rest=>(∀k vals w,(sees.getD i (0,0)).1≤k→k≤(sees.getD i (0,0)).2→W k vals w→(∀j,j∈pre.getD i []→A j vals)→
  if Region.wanted o (yl ops.toArray (yP ops (pre.getD i []) σ vals))then opV P o (yP ops (pre.getD i []) σ vals) w (fun v w'=> ∀vals',vals' i=v→(∀j,j≠i→vals' j=vals j)→(if ss.contains i then W (k+1) vals' w' else w'=w)∧A i vals')
  else ∀vals',vals' i=undef→(∀j,j≠i→vals' j=vals j)→(if ss.contains i then W (k+1) vals' w else True)∧A i vals')∧
  Qy P ops pre ss sees W A σ (i+1) rest
theorem zaw {ss:List Nat}{sees:List (Nat×Nat)}{W:Nat→(Nat→Value)→World→Prop}{A:Nat→(Nat→Value)→Prop}{i0:Nat}: ∀{l:List Oper},Qy P ops pre ss sees W A σ i0 l→ ∀i o,l[i]? =some o→ ∀k vals w,(sees.getD (i0+i) (0,0)).1≤k→k≤(sees.getD (i0+i) (0,0)).2→W k vals w→(∀j,j∈pre.getD (i0+i) []→A j vals)→
 if Region.wanted o (yl ops.toArray (yP ops (pre.getD (i0+i) []) σ vals))then opV P o (yP ops (pre.getD (i0+i) []) σ vals) w (fun v w'=> ∀vals',vals' (i0+i)=v→(∀j,j≠i0+i→vals' j=vals j)→(if ss.contains (i0+i)then W (k+1) vals' w' else w'=w)∧A (i0+i) vals')
 else ∀vals',vals' (i0+i)=undef→(∀j,j≠i0+i→vals' j=vals j)→(if ss.contains (i0+i)then W (k+1) vals' w else True)∧A (i0+i) vals':=by
 intro l
 induction l generalizing i0 with
 |nil=>intro _ i o h;simp at h
 |cons x l ih=>
  intro h i o ho
  obtain⟨h1,h2⟩:=h
  cases i with
  |zero=>simp only[List.getElem?_cons_zero,Option.some.injEq]at ho;subst ho;exact h1
  |succ i=>
   have:=ih h2 i o (by simpa using ho)
   rw[show i0+1+i=i0+(i+1) by omega]at this
   exact this
theorem zcT {ss:List Nat}{sees:List (Nat×Nat)}{W:Nat→(Nat→Value)→World→Prop}{A:Nat→(Nat→Value)→Prop}(hf:Fit ops pre ops.length)(hd:xD n ops=true)(hkl:sees.length=ops.length)(hk:seesOk pre ss sees=true)(hsl: ∀s∈ss,s<ops.length)
 (hloc: ∀k vals vals' w,(∀s∈ss,vals' s=vals s)→W k vals w→W k vals' w)
 (hlocA: ∀i vals vals',(∀j,j=i∨j∈pre.getD i []→vals' j=vals j)→A i vals→A i vals') (hob:Qy P ops pre ss sees W A σ 0 ops)
 (hfin: ∀vals w',W ss.length vals w'→(∀j,j<ops.length→A j vals)→Q .normal (behind ops vals σ ops.length) w'):
 ∀(fuel:Nat) (listed:Array Bool) (a:Act) (vals:Nat→Value) (w:World),listed.size=ops.length→closed pre (dn listed)→(∀j,dn listed j=true→j<ops.length)→
 ops.length≤cnt (dn listed) ops.length+fuel→Sim n (mixed ops (dn listed) vals σ) a→W (xL ss (dn listed)) vals w→(∀j,dn listed j=true→A j vals)→
 wpAny P .any ops.toArray (fun e a' w'=> ∃σ'',Sim n σ'' a'∧Q e σ'' w') fuel listed a w:=by
 have hend: ∀(listed:Array Bool) (a:Act) (vals:Nat→Value) (w:World),(∀j,j<ops.length→dn listed j=true)→(∀j,dn listed j=true→j<ops.length)→Sim n (mixed ops (dn listed) vals σ) a→W (xL ss (dn listed)) vals w→(∀j,dn listed j=true→A j vals)→
  ∃σ'',Sim n σ'' a∧Q .normal σ'' w:=by
  intro listed a vals w hall hlt hsim hW hA
  have hdn:dn listed=fun j=>decide (j<ops.length):=by
   funext j
   rw[Bool.eq_iff_iff,decide_eq_true_eq]
   exact⟨hlt j,hall j⟩
  have hst:xL ss (dn listed)=ss.length:=List.countP_eq_length.2 fun s hs=>hall s (hsl s hs)
  rw[hdn,←Zl hf ops.length (Nat.le_refl _)]at hsim
  exact⟨_,hsim,hfin vals w (hst▸hW) fun j hj=>hA j (hall j hj)⟩
 intro fuel
 induction fuel with
 |zero=>
  intro listed a vals w hs hc hlt hfu hsim hW hA
  have hall:=XB (done:=dn listed) (m:=ops.length) (by omega)
  refine⟨?_,hend listed a vals w hall hlt hsim hW hA⟩
  cases hr:Region.ready .any ops.toArray listed with
  |nil=>rfl
  |cons i r=>
   have hi:i∈Region.ready .any ops.toArray listed:=by rw[hr];exact List.mem_cons_self
   obtain⟨h1,o,ho,_⟩:=(ZY hs).1 hi
   have:=hall i (List.getElem?_eq_some_iff.1 ho).1
   rw[h1]at this;cases this
 |succ fuel ih=>
  intro listed a vals w hs hc hlt hfu hsim hW hA
  refine⟨fun hr=>hend listed a vals w (YU hf hs hr) hlt hsim hW hA,fun i hi=>?_⟩
  obtain⟨o,ho,hni,hpre⟩:=Xb hf hs hc hi
  have hilen:=(List.getElem?_eq_some_iff.1 ho).1
  have hdst: ∀d,o.dst=some d→d<n:=by
   intro d hd'
   simp only[xD,List.all_eq_true]at hd
   have:=hd o (List.mem_of_getElem? ho)
   rw[hd']at this
   simpa[Nat.blt_eq]using this
  have hv:=Xr (σ:=σ) (vals:=vals) hf ho hc hni hpre
  have hbd:=seesOk.bounds hk (i:=i) (a:=(sees.getD i (0,0)).1) (b:=(sees.getD i (0,0)).2) (by omega) rfl hc hni hpre
  have hO:=zaw hob i o ho (xL ss (dn listed)) vals w
  simp only[Nat.zero_add]at hO
  have hO':=hO hbd.1 hbd.2 hW (fun j hj=>hA j (hpre j hj))
  have hset:=UG hs ho
  have hnext: ∀v a' w',(∀vals',vals' i=v→(∀j,j≠i→vals' j=vals j)→(if ss.contains i then W (xL ss (dn listed)+1) vals' w' else W (xL ss (dn listed)) vals w')∧A i vals')→Sim n (YC (mixed ops (dn listed) vals σ) o.dst v) a'→
   wpAny P .any ops.toArray (fun e a' w'=> ∃σ'',Sim n σ'' a'∧Q e σ'' w') fuel (listed.setIfInBounds i true) a' w':=by
   intro v a' w' hn hs'
   rw[XS hf ho hni v]at hs'
   obtain⟨hWn,hAn⟩:=hn (fun j=>if j=i then v else vals j) (if_pos rfl) (fun j hj=>if_neg hj)
   refine ih _ a' (fun j=>if j=i then v else vals j) w' (by simpa using hs) ?_ ?_ ?_ ?_ ?_ ?_
   ·intro j hj j' hj'
    rw[hset]at hj⊢
    simp only[Bool.or_eq_true,beq_iff_eq]at hj⊢
    rcases hj with hj|rfl
    ·exact .inl (hc j hj j' hj')
    ·exact .inl (hpre j' hj')
   ·intro j hj
    rw[hset]at hj
    simp only[Bool.or_eq_true,beq_iff_eq]at hj
    rcases hj with hj|rfl
    ·exact hlt j hj
    ·exact hilen
   ·rw[hset,WK hni,if_pos hilen];omega
   ·rw[hset];exact hs'
   ·rw[hset]
    by_cases hm:i∈ss
    ·rw[if_pos (List.contains_iff_mem.2 hm)]at hWn
     rw[seesOk.next hk (by omega) hm hc hni hpre]
     exact hWn
    ·rw[if_neg (fun h=>hm (List.contains_iff_mem.1 h))]at hWn
     rw[xL,Xl hm]
     exact hloc _ _ _ _ (fun s hs=>if_neg (fun e:s=i=>hm (e▸hs))) hWn
   ·intro j hj
    rw[hset]at hj
    simp only[Bool.or_eq_true,beq_iff_eq]at hj
    by_cases hji:j=i
    ·subst hji;exact hAn
    ·rcases hj with hj|hj
     ·refine hlocA j vals _ (fun q hq=>if_neg (fun e:q=i=>?_)) (hA j hj)
      subst e
      rcases hq with hq|hq
      ·exact hji hq.symm
      ·have:=hc j hj q hq;rw[hni]at this;cases this
     ·exact(hji hj).elim
  unfold wpOp
  simp only[List.getElem?_toArray,ho]
  rw[hsim.yielded,Yk (σ:=yP ops (pre.getD i []) σ vals) hv]
  split
  ·rename_i hw
   rw[if_pos hw]at hO'
   refine .inl (Vn hsim (K:=fun σ'' w'=> ∃v,(∀vals',vals' i=v→(∀j,j≠i→vals' j=vals j)→(if ss.contains i then W (xL ss (dn listed)+1) vals' w' else W (xL ss (dn listed)) vals w')∧A i vals')∧σ''=YC (mixed ops (dn listed) vals σ) o.dst v) ?_ hdst ?_)
   ·rintro a' σ'' w' hs' ⟨v,h1,rfl⟩
    exact hnext v a' w' h1 hs'
   ·unfold opP
    rw[Wl (hf.sel i o ho) hv]
    refine WS (fun v w' h=>⟨v,fun vals' h1 h2=>?_,rfl⟩) hO'
    obtain⟨h3,h4⟩:=h vals' h1 h2
    refine⟨?_,h4⟩
    split
    ·rename_i hm;rw[if_pos hm]at h3;exact h3
    ·rename_i hm;rw[if_neg hm]at h3;subst h3;exact hW
  ·rename_i hw
   rw[if_neg hw]at hO'
   refine hnext undef _ w (fun vals' h1 h2=>?_) (hsim.put hdst undef)
   obtain⟨h3,h4⟩:=hO' vals' h1 h2
   refine⟨?_,h4⟩
   split
   ·rename_i hm;rw[if_pos hm]at h3;exact h3
   ·exact hW
theorem zaT {id:Nat}(W:Nat→(Nat→Value)→World→Prop)(A:Nat→(Nat→Value)→Prop)(pre:List (List Nat))(ss:List Nat)(sees:List (Nat×Nat))(hm:P.follows .mixedOrders=true)(hd:xD n ops=true)(hok:drawOk ops pre ops.length=true)
 (hkl:sees.length=ops.length) (hk:seesOk pre ss sees=true) (hsl:(ss.all fun s=>Nat.blt s ops.length)=true)
 (hW: ∀w0:World,w0.heap=w.heap→w0.os=w.os→w0.tape=w.tape→w0.output=w.output∧w.drawn≤w0.drawn→ ∀vals,W 0 vals w0)
 (hloc: ∀k vals vals' w,(∀s∈ss,vals' s=vals s)→W k vals w→W k vals' w)
 (hlocA: ∀i vals vals',(∀j,j=i∨j∈pre.getD i []→vals' j=vals j)→A i vals→A i vals')
 (hob:Qy P ops pre ss sees W A σ 0 ops)
 (hfin: ∀vals w',W ss.length vals w'→(∀j,j<ops.length→A j vals)→WPs P ops.toArray (Q .normal) [] (behind ops vals σ ops.length) w'):
 WP P n (.region id ops.toArray true) Q σ w:=by
 intro a hs
 have hf:=drawOk.fit hok
 have hz:dn (Array.replicate ops.toArray.size false)=fun _=>false:=by
  funext i
  simp[dn,Array.getElem?_replicate]
  split<;>rfl
 refine wp_region_any hm ?_
 refine zcT (ss:=ss) (vals:=fun _=>undef) hf hd hkl hk (fun s hs=>by
  have:=(List.all_eq_true.1 hsl) s hs;simpa[Nat.blt_eq]using this) hloc hlocA hob hfin _ _ a _ (by simp) ?_ ?_ ?_ ?_ ?_ ?_
 ·intro i hi;rw[hz]at hi;cases hi
 ·intro i hi;rw[hz]at hi;cases hi
 ·simp
 ·have:mixed ops (dn (Array.replicate ops.toArray.size false)) (fun _=>undef) σ=σ:=by
   funext t
   exact Zd fun j _=>by rw[hz]
  rw[this];exact hs
 ·have:xL ss (dn (Array.replicate ops.toArray.size false))=0:=Wn fun s _=>by rw[hz]
  rw[this];exact hW {w with drawn:=w.drawn+1} rfl rfl rfl ⟨rfl,Nat.le_succ _⟩ _
 ·intro i hi;rw[hz]at hi;cases hi
end
theorem ob1 (a:Nat){W:Nat→(Nat→Value)→World→Prop}{B:(Nat→Value)→Prop}{C:Nat→(Nat→Value)→World→Prop}(h: ∀vals w,W a vals w→B vals→C a vals w): ∀k vals w,a≤k→k≤a→W k vals w→B vals→C k vals w:=fun k v w h1 h2 hW hB=>by
 obtain rfl:=Nat.le_antisymm h2 h1
 exact h v w hW hB
theorem dR {ss:List Nat}{i:Nat}{X:Value}{A:Nat→(Nat→Value)→Prop}{Z Y:(Nat→Value)→Prop}{w:World}(hc:ss.contains i=false:=by rfl)(hA:A i=Vl i X:=by rfl): ∀vals',vals' i=X→Y vals'→(if ss.contains i then Z vals' else w=w)∧A i vals':=by
 intro v h _
 rw[hc,hA]
 exact⟨rfl,h⟩
abbrev rg (n:Nat):List Nat:=List.range n
theorem WD4 {P:Program}{n:Nat}{Q:Xz}{σ:Env}{w W0:World}{G0:Nat→Prop}{As:List HP}{ops:List Oper}{id:Nat}(W:Nat→(Nat→Value)→World→Prop)(A:Nat→(Nat→Value)→Prop)(pre:List (List Nat))(ss:List Nat)(sees:List (Nat×Nat))(hS:Sep G0 W0 As w)
 (hob:Qy P ops pre ss sees W A σ 0 ops)
 (hfin: ∀vals w',W ss.length vals w'→(∀j,j<ops.length→A j vals)→WPs P ops.toArray (Q .normal) [] (behind ops vals σ ops.length) w')
 (hlocA: ∀i vals vals',(∀j,j=i∨j∈pre.getD i []→vals' j=vals j)→A i vals→A i vals':=by exact xi (by repeat first|exact trivial|refine⟨dA,?_⟩|refine⟨dT,?_⟩))
 (hm:P.follows .mixedOrders=true:=by kernel_rfl) (hd:xD n ops=true:=by kernel_rfl) (hok:drawOk ops pre ops.length=true:=by kernel_rfl) (hkl:sees.length=ops.length:=by rfl) (hk:seesOk pre ss sees=true:=by kernel_rfl) (hsl:(ss.all fun s=>Nat.blt s ops.length)=true:=by kernel_rfl)
 (h0: ∀vals w,Sep G0 W0 As w→W 0 vals w:=by exact fun _ _ h=>h)
 (hloc: ∀k vals vals' w,(∀s∈ss,vals' s=vals s)→W k vals w→W k vals' w:=by
  intro k vals u w H h
  try simp only[List.mem_cons,List.not_mem_nil,forall_eq_or_imp,or_false,forall_eq]at H
  rcases k with _|_|_|_|_|_|_|_|_|_|_|_
  all_goals first|exact h|exact trivial|(simp only[WF,List.getElem?_cons_zero,List.getElem?_cons_succ,H]at h⊢;exact h)):
 WP P n (.region id ops.toArray true) Q σ w:=zaT W A pre ss sees hm hd hok hkl hk hsl (fun _ h1 h2 h3 h4 _=>h0 _ _ (hS.same h1 h2 h3 h4)) hloc hlocA hob hfin
end
section
open Go.RowKit
section
variable {P:Program}{d:Option Tmp}{ty:TypeId}{pos:String}{af:Array Edge}{g:Option (Nat×Bool)}{σ:Env}{w:World}{K:Value→World→Prop}
theorem stu {ops:Array Oper}{Kp:Env→World→Prop}{rest:List Oper}{dd:Nat}{op:Op}{j q:Nat}{b:Bool}(hd:((ops[j]?).bind (·.dst))=some q)(ht:σ q=undef)(h:WPs P ops Kp rest (upd σ dd undef) w):WPs P ops Kp (⟨some dd,op,ty,pos,af,some (j,b)⟩::rest) σ w:=by
 have hw:Region.wanted ⟨some dd,op,ty,pos,af,some (j,b)⟩ (yl ops σ)=false:=by simp[Region.wanted,yl,hd,ht,undef]
 simp only[WPs,hw];exact h
theorem Kj {x y:Operand}{a b r:Int}{t t2:TypeId}(hx:ev σ x=.int .i64 a)(hy:ev σ y=.int .i64 b)(h0:0<b)(hr:IntKind.i64.wrap (a.tdiv b)=r)(h:K (.int .i64 r) w):opV P ⟨d,.binOp .quo t x y t2,ty,pos,af,g⟩ σ w K:=by
 subst hr
 refine yp (v:=.int .i64 (IntKind.i64.wrap (a.tdiv b))) (w':=w) ?_ h
 have hne:b≠0:=by omega
 simp[execOp,hx,hy,eqGuard_quo,binOp_quo,Op.intDiv,hne,go_sem]
section
variable {α:Type}[Rep α]
theorem ZZ {t kt et:TypeId}{x y z:Operand}{m:Nat}{k:Int}{F:Nat→Prop}{L:List (Int×α)}{x1:α}{cs:List Value}(hU:P.underlying t=some (.map kt et))(hK:P.underlying kt=some (.int .i64))
 (hx:ev σ x=.map (some m)) (hy:ev σ y=.int .i64 k) (hz:ev σ z=.agg cs.toArray) (hk0:InR k) (hm:MapR w F m L) (hr:Rep.rd w F cs x1) (hF: ¬F m) (h: ∀w1,MapR w1 F m (xP L k x1)→Chg (fun i=>i=m) w w1→K undef w1):
 opV P ⟨d,.insert t x y z,ty,pos,af,g⟩ σ w K:=by
 have h1:opV P ⟨d,.mapUpdate t x y z,ty,pos,af,g⟩ σ w K:=XG hU hK hx hy hz hk0 hm hr hF h
 exact h1
theorem Xh {t kt et:TypeId}{x y:Operand}{m:Nat}{k:Int}{F:Nat→Prop}{L:List (Int×α)}{a:α}(hU:P.underlying t=some (.map kt et))(hK:P.underlying kt=some (.int .i64))
 (hx:ev σ x=.map (some m)) (hy:ev σ y=.int .i64 k) (hm:MapR w F m L) (hl:yi L k=some a) (h: ∀cs,Rep.rd w F cs a→K (.tuple #[.agg cs.toArray,.bool true]) w):
 opV P ⟨d,.lookup t x y true,ty,pos,af,g⟩ σ w K:=by
 have hm':=hm
 obtain⟨es,clock,hb,hs,he⟩:=hm'
 have hk:MapKept.IsKey (.int .i64) (.int .i64 k):=rfl
 rcases MapKept.findNow_spec hk es.toList 0 he.key with⟨h1,h2⟩|⟨j,e,h1,h2,h3⟩
 ·exfalso
  have:yi L k=none:=by
   unfold yi
   rw[Option.map_eq_none_iff,List.find?_eq_none]
   intro p hp
   obtain⟨i,hi,rfl⟩:=List.getElem_of_mem hp
   have:=(he.at_ i (by rw[he.len];exact hi) hi).1
   have h4:=h2 _ (List.getElem_mem (by rw[he.len];exact hi))
   rw[this]at h4
   simpa using h4
  rw[this]at hl;cases hl
 ·obtain⟨hj,he2⟩:=List.getElem?_eq_some_iff.1 h2
  have hjl:j<L.length:=by rw[←he.len];exact hj
  obtain⟨h4,h5,cs,h6,h7⟩:=he.at_ j hj hjl
  rw[he2]at h4 h6
  have ek:L[j].1=k:=by rw[h3]at h4;cases h4;rfl
  have hl2:yi L k=some L[j].2:=by
   unfold yi
   rw[←ek,WG hm.nodup hjl];rfl
  rw[hl]at hl2
  cases hl2
  refine yp (v:=.tuple #[.agg cs.toArray,.bool true]) (w':=w) ?_ (h cs h7)
  simp[execOp,hx,hy,Instr.lookup,run_underlying hU,MapKept.run_getObj_map hb,MapKept.run_checkKey hK hk,MapKept.run_findKey hK h1,h6,go_sem]
theorem Xf {t kt et:TypeId}{x y:Operand}{m:Nat}{k:Int}{F:Nat→Prop}{L:List (Int×α)}{zc:List Value}(hU:P.underlying t=some (.map kt et))(hK:P.underlying kt=some (.int .i64))(hZ: ∀w,(zeroValue et).run P w=.ok (.agg zc.toArray) w)
 (hx:ev σ x=.map (some m)) (hy:ev σ y=.int .i64 k) (hm:MapR w F m L) (hl:yi L k=none) (h:K (.tuple #[.agg zc.toArray,.bool false]) w):
 opV P ⟨d,.lookup t x y true,ty,pos,af,g⟩ σ w K:=by
 have hm':=hm
 obtain⟨es,clock,hb,hs,he⟩:=hm'
 have hk:MapKept.IsKey (.int .i64) (.int .i64 k):=rfl
 rcases MapKept.findNow_spec hk es.toList 0 he.key with⟨h1,h2⟩|⟨j,e,h1,h2,h3⟩
 ·refine yp (v:=.tuple #[.agg zc.toArray,.bool false]) (w':=w) ?_ h
  simp[execOp,hx,hy,Instr.lookup,run_underlying hU,MapKept.run_getObj_map hb,MapKept.run_checkKey hK hk,MapKept.run_findKey hK h1,hZ,go_sem]
 ·exfalso
  obtain⟨hj,he2⟩:=List.getElem?_eq_some_iff.1 h2
  have hjl:j<L.length:=by rw[←he.len];exact hj
  obtain⟨h4,_⟩:=he.at_ j hj hjl
  rw[he2]at h4
  have ek:L[j].1=k:=by rw[h3]at h4;cases h4;rfl
  have hl2:yi L k=some L[j].2:=by
   unfold yi
   rw[←ek,WG hm.nodup hjl];rfl
  rw[hl]at hl2;cases hl2
end
end
end
section
open Go.RowKit
section
variable {G:Nat→Prop}{W w w':World}{As Bs:List HP}{A B:HP}
theorem Sep.map (h:Sep G W As w)(σ:Nat→Option Nat)(h1: ∀i C,Bs[i]? =some C→(∃j,σ i=some j∧As[j]? =some C)∨(σ i=none∧ ∀w f,C.p w f))(h2: ∀i j k,i<Bs.length→j<Bs.length→σ i=some k→σ j=some k→i=j):Sep G W Bs w:=by
 obtain⟨fs,q1,q2⟩:=h.parts
 refine⟨h.kept,fun i b=>match σ i with|some j=>fs j b|none=>False,fun i C hC=>?_,fun i j hi hj hne b hb=>?_⟩
 ·rcases h1 i C hC with⟨j,hj,hA⟩|⟨hn,hp⟩
  ·simp only[hj];exact q1 j C hA
  ·simp only[hn];exact⟨hp _ _,fun b h=>h.elim⟩
 ·rcases h1 i _ (List.getElem?_eq_getElem hi)with⟨i',hi',hAi⟩|⟨hn,_⟩
  ·rcases h1 j _ (List.getElem?_eq_getElem hj)with⟨j',hj',hAj⟩|⟨hn,_⟩
   ·simp only[hi']at hb
    simp only[hj']
    exact q2 i' j' (List.getElem?_eq_some_iff.1 hAi).1 (List.getElem?_eq_some_iff.1 hAj).1 (fun e=>hne (h2 i j i' hi hj hi' (e▸hj'))) b hb
   ·simp only[hn];exact fun h=>h
  ·simp only[hn]at hb
theorem Sep.takeStar (h:Sep G W (Star Bs::As) w){i:Nat}(hi:Bs[i]? =some B):Sep G W (B::Star (Bs.set i Emp)::As) w:=by
 have hlt:=(List.getElem?_eq_some_iff.1 hi).1
 have h0:Sep G W (Bs++As) w:=h.openStar
 have h1:Sep G W (Bs.set i Emp++B::As) w:=by
  refine h0.map (fun k=>if k=i then none else if k=Bs.length then some i else if k<Bs.length then some k else some (k-1)) (fun k C hC=>?_) (fun a b c ha hb h3 h4=>?_)
  ·by_cases e1:k=i
   ·subst e1
    rw[List.getElem?_append_left (by simpa using hlt),List.getElem?_set_self hlt]at hC
    cases hC
    exact .inr ⟨if_pos rfl,fun _ _=>trivial⟩
   ·left
    by_cases e2:k=Bs.length
    ·subst e2
     rw[List.getElem?_append_right (by simp)]at hC
     simp only[List.length_set,Nat.sub_self,List.getElem?_cons_zero,Option.some.injEq]at hC
     subst hC
     exact⟨i,by simp[e1],by rw[List.getElem?_append_left hlt];exact hi⟩
    ·by_cases e3:k<Bs.length
     ·rw[List.getElem?_append_left (by simpa using e3),List.getElem?_set_ne (Ne.symm e1)]at hC
      exact⟨k,by simp[e1,e2,e3],by rw[List.getElem?_append_left e3];exact hC⟩
     ·rw[List.getElem?_append_right (by simp;omega)]at hC
      obtain⟨q,hq⟩: ∃q,k-Bs.length=q+1:=⟨k-Bs.length-1,by omega⟩
      rw[List.length_set,hq,List.getElem?_cons_succ]at hC
      exact⟨k-1,by simp[e1,e2,e3],by rw[List.getElem?_append_right (by omega),show k-1-Bs.length=q by omega];exact hC⟩
  ·split at h3
   ·cases h3
   ·split at h4
    ·cases h4
    ·split at h3<;>split at h4<;>(try split at h3)<;>(try split at h4)<;>simp_all<;>omega
 exact(Sep.closeStar h1).map (fun k=>match k with|0=>some 1|1=>some 0|k+2=>some (k+2)) (fun k C hC=>by
  match k,hC with
  |0,hC=>exact .inl ⟨1,rfl,hC⟩
  |1,hC=>exact .inl ⟨0,rfl,hC⟩
  |k+2,hC=>exact .inl ⟨k+2,rfl,hC⟩) (fun a b c _ _ h3 h4=>by
  match a,b,h3,h4 with
  |0,0,_,_=>rfl
  |1,1,_,_=>rfl
  |0,1,h3,h4=>simp at h3 h4;omega
  |1,0,h3,h4=>simp at h3 h4;omega
  |0,b+2,h3,h4=>simp at h3 h4;omega
  |1,b+2,h3,h4=>simp at h3 h4;omega
  |a+2,0,h3,h4=>simp at h3 h4;omega
  |a+2,1,h3,h4=>simp at h3 h4;omega
  |a+2,b+2,h3,h4=>simp at h3 h4;omega)
theorem Sep.putStar (h:Sep G W (B::Star Bs::As) w){i:Nat}(hlt:i<Bs.length):Sep G W (Star (Bs.set i B)::As) w:=by
 have h0:Sep G W (Star Bs::B::As) w:=h.sel 2 [1,0] (Nat.le_add_left _ _) rfl rfl
 have h1:Sep G W (Bs++B::As) w:=h0.openStar
 refine Sep.closeStar (h1.map (fun k=>if k=i then some Bs.length else if k<Bs.length then some k else some (k+1)) (fun k C hC=>?_) (fun a b c ha hb h3 h4=>?_))
 ·left
  by_cases e1:k=i
  ·subst e1
   rw[List.getElem?_append_left (by simpa using hlt),List.getElem?_set_self hlt]at hC
   exact⟨Bs.length,by simp,by rw[List.getElem?_append_right (Nat.le_refl _),Nat.sub_self];exact hC⟩
  ·by_cases e3:k<Bs.length
   ·rw[List.getElem?_append_left (by simpa using e3),List.getElem?_set_ne (Ne.symm e1)]at hC
    exact⟨k,by simp[e1,e3],by rw[List.getElem?_append_left e3];exact hC⟩
   ·rw[List.getElem?_append_right (by simp;omega),List.length_set]at hC
    exact⟨k+1,by simp[e1,e3],by rw[List.getElem?_append_right (by omega),show k+1-Bs.length=(k-Bs.length)+1 by omega,List.getElem?_cons_succ];exact hC⟩
 ·split at h3<;>split at h4<;>(try split at h3)<;>(try split at h4)<;>simp_all<;>omega
theorem Sep.snocStar (h:Sep G W (B::Star Bs::As) w):Sep G W (Star (Bs++[B])::As) w:=by
 have h0:Sep G W (Star Bs::B::As) w:=h.sel 2 [1,0] (Nat.le_add_left _ _) rfl rfl
 have h1:Sep G W (Bs++B::As) w:=h0.openStar
 exact Sep.closeStar (by rw[List.append_assoc];exact h1)
theorem Sep.nilStar (h:Sep G W As w):Sep G W (Star []::As) w:=h.push (Chg.refl _ _) (f:=fun _=>False) ⟨fun _ _=>False,fun i A hA=>by simp at hA,fun i j hi=>by simp at hi⟩ (fun _ h=>h.elim)
theorem Star.at_ {w:World}{f:Nat→Prop}(h:(Star Bs).p w f){i:Nat}(hi:Bs[i]? =some B):B.p w f:=by
 obtain⟨fs,h1,h2⟩:=h
 exact B.weak (h1 i B hi).1 (fun b hb _=>((h1 i B hi).2 b hb).1)
end
structure CelS where
 n:Int
 v:Value
 deriving Inhabited
structure CelS.Ok (e:CelS):Prop where
 n:InR e.n
 one:e.v.oneCell'=true
def CelS.cells (e:CelS):List Value:=[.int .i64 e.n,e.v]
instance:Rep CelS where
 k:=2
 rd _ _ cs x:=cs=x.cells∧x.Ok
 bytes:=32
 bpos:=by decide
 kpos:=by decide
 len h:=by rw[h.1];rfl
 one h:=by rw[h.1];exact yo ⟨rfl,h.2.one,trivial⟩
 mono h _:=h
instance:Flat CelS:=⟨fun h=>h⟩
end
section
open Go.RowKit
theorem EP.of_at {α:Type}{q:List Value→α→Prop}: ∀{css:List (List Value)} {l:List α},css.length=l.length→(∀i (h1:i<css.length) (h2:i<l.length),q css[i] l[i])→EP q css l
 |[],[],_,_=>trivial
 |c::css,x::l,hl,h=>⟨h 0 (by simp) (by simp),EP.of_at (by simpa using hl) (fun i h1 h2=>h (i+1) (by simpa using h1) (by simpa using h2))⟩
 |[],_::_,hl,_=>by simp at hl
 |_::_,[],hl,_=>by simp at hl
theorem EP.at2 {α:Type}{q:List Value→α→Prop}: ∀{css:List (List Value)} {l:List α},EP q css l→ ∀i (h1:i<css.length) (h2:i<l.length),q css[i] l[i]
 |_::_,_::_,h,0,_,_=>h.1
 |_::_,_::_,h,i+1,h1,h2=>EP.at2 h.2 i (by simpa using h1) (by simpa using h2)
 |[],_,_,i,h1,_=>absurd h1 (Nat.not_lt_zero i)
 |_::_,[],h,_,_,_=>h.elim
def SetRows (Ti:TypeId):List CelS→List Cel→List HP
 |s::sh,c::l=>RowE (α:=Int) own Ti s.v c.set::SetRows Ti sh l
 |_,_=>[]
theorem SetRows.get {Ti:TypeId}: ∀{sh:List CelS} {l:List Cel} {i:Nat},i<sh.length→i<l.length→(SetRows Ti sh l)[i]? =some (RowE (α:=Int) own Ti (sh.getD i default).v (l.getD i default).set)
 |_::_,_::_,0,_,_=>rfl
 |_::_,_::_,i+1,h1,h2=>by
  have:=SetRows.get (Ti:=Ti) (i:=i) (by simpa using h1) (by simpa using h2)
  simpa[SetRows]using this
 |[],_,i,h,_=>absurd h (Nat.not_lt_zero i)
 |_::_,[],i,_,h=>absurd h (Nat.not_lt_zero i)
theorem SetRows.len {Ti:TypeId}: ∀{sh:List CelS} {l:List Cel},sh.length=l.length→(SetRows Ti sh l).length=l.length
 |[],[],_=>rfl
 |_::_,_::_,h=>by simpa[SetRows]using SetRows.len (Ti:=Ti) (by simpa using h)
 |[],_::_,h=>by simp at h
 |_::_,[],h=>by simp at h
theorem SetRows.set {Ti:TypeId}: ∀{sh:List CelS} {l:List Cel} (i:Nat) (s:CelS) (c:Cel),sh.length=l.length→SetRows Ti (sh.set i s) (l.set i c)=(SetRows Ti sh l).set i (RowE (α:=Int) own Ti s.v c.set)
 |[],[],_,_,_,_=>rfl
 |_::_,_::_,0,_,_,_=>rfl
 |_::sh,_::l,i+1,s,c,h=>by simp only[List.set_cons_succ,SetRows];rw[SetRows.set i s c (by simpa using h)]
 |[],_::_,_,_,_,h=>by simp at h
 |_::_,[],_,_,_,h=>by simp at h
theorem SetRows.snoc {Ti:TypeId}: ∀{sh:List CelS} {l:List Cel} (s:CelS) (c:Cel),sh.length=l.length→SetRows Ti (sh++[s]) (l++[c])=SetRows Ti sh l++[RowE (α:=Int) own Ti s.v c.set]
 |[],[],_,_,_=>rfl
 |_::sh,_::l,s,c,h=>by simp only[List.cons_append,SetRows];rw[SetRows.snoc s c (by simpa using h)]
 |[],_::_,_,_,h=>by simp at h
 |_::_,[],_,_,h=>by simp at h
section
variable {G:Nat→Prop}{W w:World}{As:List HP}{T Ti:TypeId}{v:Value}{sh:List CelS}{l:List Cel}
theorem Sep.celRow (h:Sep G W (RowE (α:=CelS) own T v sh::Star (SetRows Ti sh l)::As) w)(hlen:sh.length=l.length)(hn: ∀i,i<l.length→(sh.getD i default).n=(l.getD i default).n):Sep G W (RowE (α:=Cel) own T v l::As) w:=by
 refine(h.closeStar (Bs:=[RowE (α:=CelS) own T v sh,Star (SetRows Ti sh l)])).impl (i:=0) rfl (fun f hA=>?_)
 obtain⟨fs,q1,q2⟩:=hA
 obtain⟨⟨css,hE,hown,hrow,hsm⟩,hf0⟩:=q1 0 _ rfl
 obtain⟨hSt,hf1⟩:=q1 1 _ rfl
 have q2':=q2 0 1 (by simp) (by simp) (by simp)
 have hcl:=hE.length
 refine⟨css,EP.of_at (by omega) (fun i h1 h2=>?_),by rw[←hlen];exact hown,fun b hb=>(hf0 b (hrow b hb)).1,by rw[←hlen];exact hsm⟩
 have hs:i<sh.length:=by omega
 obtain⟨hcs,hin,hone⟩:css[i]=sh[i].cells∧InR sh[i].n∧sh[i].v.oneCell'=true:=(EP.at2 hE i h1 hs).imp id (fun h=>⟨h.n,h.one⟩)
 have hr:(RowE (α:=Int) own Ti (sh.getD i default).v (l.getD i default).set).p w (fs 1):=Star.at_ hSt (SetRows.get hs h2)
 have hsoft:=RowE.soft hr
 have hni:=hn i h2
 rw[zJ _ hs,zJ _ h2]at hsoft hni
 refine⟨sh[i].v,?_,hsoft.mono (fun b hb hlt=>⟨rfl,⟨(hf1 b hb.1).1,fun e=>q2' b (hrow b e) hb.1⟩,hb.2⟩),⟨by rw[←hni];exact hin⟩⟩
 rw[hcs]
 show[Value.int .i64 sh[i].n,sh[i].v]=_
 rw[hni];rfl
theorem Sep.celShare (h:Sep G W (RowE (α:=Cel) (shr G W) T v l::As) w): ∃sh:List CelS,sh.length=l.length∧(∀i,i<l.length→(sh.getD i default).n=(l.getD i default).n∧RdS W G (sh.getD i default).v (l.getD i default).set)∧Sep G W (RowE (α:=CelS) own T v sh::As) w:=by
 obtain⟨f,hA,hl,hT⟩:=h.take (i:=0) rfl
 obtain⟨css,hE,hown,hrow,hsm⟩:=hA
 have hcl:=hE.length
 have key: ∀i,i<l.length→ ∃s:CelS,(css.getD i [])=[.int .i64 s.n,s.v]∧s.n=(l.getD i default).n∧RdS W G s.v (l.getD i default).set∧InR s.n∧s.v.oneCell'=true:=by
  intro i hi
  obtain⟨d,hcs,hd,hok⟩:=EP.at2 hE i (by omega) hi
  refine⟨⟨l[i].n,d⟩,?_,?_,?_,hok.n,hd.sl.one⟩
  ·rw[zJ _ (by omega),hcs];rfl
  ·rw[zJ _ hi]
  ·rw[zJ _ hi];exact hd
 obtain⟨sh,hs1,hs2⟩:=QC key
 refine⟨sh,hs1,fun i hi=>?_,hT w _ f (Chg.refl _ _) ⟨css,EP.of_at (by omega) (fun i h1 h2=>?_),by rw[hs1];exact hown,hrow,by rw[hs1];exact hsm⟩ (fun _ h=>.inl h)⟩
 ·obtain⟨_,h2,h3,_⟩:=hs2 i (by omega)
  rw[zJ _ (by omega)]
  exact⟨h2,h3⟩
 ·obtain⟨h3,_,_,h4,h5⟩:=hs2 i h2
  rw[zJ _ h1]at h3
  exact⟨h3,⟨h4,h5⟩⟩
def CelW (v:Value)(T Ti:TypeId)(l:List Cel):HP:=Ex1 fun sh:List CelS=>WC (sh.length=l.length∧ ∀i,i<l.length→(sh.getD i default).n=(l.getD i default).n) (Star [RowE (α:=CelS) own T v sh,Star (SetRows Ti sh l)])
theorem CelW.open (h:Sep G W (CelW v T Ti l::As) w): ∃sh:List CelS,(sh.length=l.length∧ ∀i,i<l.length→(sh.getD i default).n=(l.getD i default).n)∧Sep G W (RowE (α:=CelS) own T v sh::Star (SetRows Ti sh l)::As) w:=by
 obtain⟨sh,h1⟩:=h.openEx
 obtain⟨h2,h3⟩:=h1.openAnd
 exact⟨sh,h2,h3.openStar⟩
theorem CelW.mk (h:Sep G W (RowE (α:=CelS) own T v sh::Star (SetRows Ti sh l)::As) w)(hn:sh.length=l.length∧ ∀i,i<l.length→(sh.getD i default).n=(l.getD i default).n):Sep G W (CelW v T Ti l::As) w:=
 Sep.closeEx (A:=fun sh:List CelS=>WC (sh.length=l.length∧ ∀i,i<l.length→(sh.getD i default).n=(l.getD i default).n) (Star [RowE (α:=CelS) own T v sh,Star (SetRows Ti sh l)])) sh (Sep.closeAnd hn (Sep.closeStar (Bs:=[RowE (α:=CelS) own T v sh,Star (SetRows Ti sh l)]) h))
theorem CelW.row (h:Sep G W (CelW v T Ti l::As) w):Sep G W (RowE (α:=Cel) own T v l::As) w:=by
 obtain⟨sh,⟨h1,h2⟩,h3⟩:=CelW.open h
 exact h3.celRow h1 h2
theorem ZH {α:Type}{l:List α}{i:Nat}(d:α)(h:i<l.length):l.set i (l.getD i d)=l:=by rw[zJ _ h];exact List.set_getElem_self h
theorem Ky {i:Nat}{s:CelS}{c:Cel}(hlen:sh.length=l.length)(hn: ∀i,i<l.length→(sh.getD i default).n=(l.getD i default).n)(hs:s.n=c.n)(hi:i<l.length):(sh.set i s).length=(l.set i c).length∧ ∀j,j<(l.set i c).length→((sh.set i s).getD j default).n=((l.set i c).getD j default).n:=by
 refine⟨by rw[List.length_set,List.length_set];exact hlen,fun j hj=>?_⟩
 rw[List.length_set]at hj
 by_cases e:i=j
 ·subst e
  rw[zJ _ (by rw[List.length_set];omega),zJ _ (by rw[List.length_set];omega),List.getElem_set_self,List.getElem_set_self];exact hs
 ·have e1:=hn j hj
  rw[List.getD_eq_getElem?_getD,List.getD_eq_getElem?_getD]at e1⊢
  rw[List.getElem?_set_ne e,List.getElem?_set_ne e];exact e1
theorem CelW.close {i:Nat}{s:CelS}{c:Cel}(hlen:sh.length=l.length)(hn: ∀i,i<l.length→(sh.getD i default).n=(l.getD i default).n)(hi:i<l.length)(hs:s.n=c.n)
 (h:Sep G W (RowE (α:=Int) own Ti s.v c.set::Star ((SetRows Ti sh l).set i Emp)::RowE (α:=CelS) own T v (sh.set i s)::As) w):Sep G W (CelW v T Ti (l.set i c)::As) w:=by
 have h1:=h.putStar (i:=i) (by rw[List.length_set,SetRows.len hlen];exact hi)
 rw[List.set_set,←SetRows.set i s c hlen]at h1
 exact CelW.mk (h1.sel 2 [1,0] (Nat.le_add_left _ _) rfl rfl) (Ky hlen hn hs hi)
theorem CelW.close0 {i:Nat}(hlen:sh.length=l.length)(hn: ∀i,i<l.length→(sh.getD i default).n=(l.getD i default).n)(hi:i<l.length)
 (h:Sep G W (RowE (α:=Int) own Ti (sh.getD i default).v (l.getD i default).set::Star ((SetRows Ti sh l).set i Emp)::RowE (α:=CelS) own T v sh::As) w):Sep G W (CelW v T Ti l::As) w:=by
 have hsi:i<sh.length:=by omega
 have h2:=CelW.close (s:=sh.getD i default) (c:=l.getD i default) hlen hn hi (hn i hi) (by rw[ZH default hsi];exact h)
 rw[ZH default hi]at h2
 exact h2
theorem CelW.closeN {i:Nat}{m:Int}(hlen:sh.length=l.length)(hn: ∀i,i<l.length→(sh.getD i default).n=(l.getD i default).n)(hi:i<l.length)
 (h:Sep G W (RowE (α:=CelS) own T v (sh.set i ⟨m,(sh.getD i default).v⟩)::Star (SetRows Ti sh l)::As) w):Sep G W (CelW v T Ti (l.set i ⟨m,(l.getD i default).set⟩)::As) w:=by
 have hsi:i<sh.length:=by omega
 refine CelW.mk (sh:=sh.set i ⟨m,(sh.getD i default).v⟩) ?_ (Ky hlen hn rfl hi)
 have e:(SetRows Ti sh l).set i (RowE (α:=Int) own Ti (sh.getD i default).v (l.getD i default).set)=SetRows Ti sh l:=by
  have hg:=SetRows.get (Ti:=Ti) hsi hi
  obtain⟨hlt,he⟩:=List.getElem?_eq_some_iff.1 hg
  rw[←he];exact List.set_getElem_self hlt
 rw[SetRows.set i _ _ hlen,e]
 exact h
end
end
section
theorem UU {l:List Int}(h:Asc l){i j:Nat}(hij:i<j)(hj:j<l.length):l.getD i 0<l.getD j 0:=by
 rw[zJ _ (show i<l.length by omega),zJ _ hj]
 exact List.pairwise_iff_getElem.1 h i j (by omega) hj hij
theorem bs_lo {l:List Int}(h:Asc l){m:Nat}{x:Int}(hm:m<l.length)(hx:l.getD m 0<x): ∀q,q<m+1→l.getD q 0<x:=by
 intro q hq
 rcases Nat.lt_or_eq_of_le (Nat.le_of_lt_succ hq)with h1|rfl
 ·have:=UU h h1 hm;omega
 ·exact hx
theorem bs_hi {l:List Int}(h:Asc l){m:Nat}{x:Int}(hm:m<l.length)(hx: ¬l.getD m 0<x): ∀q,m≤q→q<l.length→x≤l.getD q 0:=by
 intro q hq hl
 rcases Nat.lt_or_eq_of_le hq with h1|rfl
 ·have:=UU h h1 hl;omega
 ·omega
theorem UP {l:List Int}(ha:Asc l){i:Nat}{x:Int}(hi:i≤l.length)(hlo: ∀q,q<i→l.getD q 0<x)(hhi: ∀q,i≤q→q<l.length→x≤l.getD q 0):decide (x∈l)=(decide (i<l.length)&&decide (l.getD i 0=x)):=by
 rw[Bool.eq_iff_iff]
 simp only[decide_eq_true_eq,Bool.and_eq_true]
 constructor
 ·intro h
  obtain⟨q,hq,rfl⟩:=List.getElem_of_mem h
  have e:l.getD q 0=l[q]:=zJ _ hq
  rcases Nat.lt_trichotomy q i with h1|rfl|h1
  ·have:=hlo q h1;omega
  ·exact⟨hq,e⟩
  ·have h2:=hhi i (Nat.le_refl _) (by omega)
   have h3:=UU ha h1 hq
   omega
 ·rintro⟨h1,h2⟩
  rw[←h2,zJ _ h1]
  exact List.getElem_mem h1
theorem lens:(∀{α:Type} (a b:List α),(a++b).length=a.length+b.length)∧(∀{α:Type} (x:α) (a:List α),(x::a).length=a.length+1)∧(∀{α:Type},([]:List α).length=0)∧(∀{α:Type} (n:Nat) (a:List α),(a.take n).length=min n a.length)∧(∀{α:Type} (n:Nat) (a:List α),(a.drop n).length=a.length-n)∧(∀{α:Type} (n:Nat) (x:α) (a:List α),(a.set n x).length=a.length)∧(∀{α:Type} (n:Nat) (x:α),(List.replicate n x).length=n):=
 ⟨fun _ _=>List.length_append,fun _ _=>rfl,rfl,fun _ _=>List.length_take,fun _ _=>List.length_drop,fun _ _ _=>List.length_set,fun _ _=>List.length_replicate⟩
theorem zi:(∀a b:Bool,((a&&b)=true)=(a=true∧b=true))∧(∀a b:Bool,((a||b)=true)=(a=true∨b=true))∧(∀a b:Bool,((a&&b)=false)=(a=false∨b=false))∧(∀a b:Bool,((a||b)=false)=(a=false∧b=false))∧(∀(p:Prop) [Decidable p],(decide p=true)=p)∧(∀(p:Prop) [Decidable p],(decide p=false)= ¬p)∧(∀b:Bool,((!b)=true)=(b=false))∧(∀b:Bool,((!b)=false)=(b=true))∧(∀a b:Int,(¬a<b)=(b≤a))∧(∀a b:Int,(¬a≤b)=(b<a)):=
 ⟨by simp,by simp,by simp,by simp,by simp,by simp,by simp,by simp,by simp,by simp⟩
theorem bo {p:Prop}(h:p:=by first|omega|(simp only[lens];omega)|(simp+zetaDelta only at*;omega)):p:=h
end
end Go.Proofs.YtpdolkiohjdodaaGreatDoor
