import Derived.Test.YtlblilbmpdejgaaDoorT3
set_option linter.unusedSimpArgs false
set_option linter.unusedVariables false
set_option linter.unusedSectionVars false
set_option linter.deprecated false
/- Steps of the proofs of this seat: part C5. -/
set_option maxRecDepth 8000
namespace Go.Proofs.YtlblilbmpdejgaaDoor
open Go.Proofs Go.RowKit

theorem SetRows.step {Ti : TypeId} {sh : List CelS} {l : List Cel} {k : Nat} (s : CelS) (hlen : sh.length = l.length) (hk : k < l.length) : SetRows Ti ((sh.set k s).take (k + 1)) (l.take (k + 1)) = SetRows Ti (sh.take k) (l.take k) ++ [RowE (α := Int) own Ti s.v (l.getD k default).set] := by
  have e1 : (sh.set k s).take (k + 1) = sh.take k ++ [s] := by
    rw [List.take_succ_eq_append_getElem (by rw [List.length_set]; omega), List.getElem_set_self, List.take_set_of_le (Nat.le_refl _)]
  have e2 : l.take (k + 1) = l.take k ++ [l.getD k default] := by rw [List.take_succ_eq_append_getElem hk, zm _ hk]
  rw [e1, e2]
  exact SetRows.snoc s _ (by rw [List.length_take, List.length_take]; omega)
theorem UA {sh : List CelS} {l : List Cel} {k : Nat} {v : Value} (hlen : sh.length = l.length) (hn : ∀ i, i < l.length → (sh.getD i default).n = (l.getD i default).n) (hk : k < l.length) : ∀ i, i < l.length → ((sh.set k ⟨(sh.getD k default).n, v⟩).getD i default).n = (l.getD i default).n := by
  intro i hi
  have h := (Vg (s := ⟨(sh.getD k default).n, v⟩) (c := l.getD k default) hlen hn (hn k hk) hk).2 i (by rw [List.length_set]; exact hi)
  rwa [xK default hk] at h
theorem Qu {t : Typ} {c : List Cel} {f op arg : Int} (hf : f.toNat < c.length) (h : op ≠ 1 ∧ op ≠ 2 ∧ op ≠ 3 ∧ op ≠ 4 ∧ op ≠ 5) : doL t c f op arg = c := by
  unfold doL yD
  rw [if_neg h.1, if_neg h.2.1, if_neg h.2.2.1, if_neg h.2.2.2.1, if_neg h.2.2.2.2]
  exact xK default hf
theorem KR {d : Option Tmp} {ty : TypeId} {pos : String} {af : Array Edge} {g : Option (Nat × Bool)} {σ : Env} {w : World} {K : Value → World → Prop} {x : Operand} {b o : Nat} (hx : ev σ x = .pointer (some ⟨b, o, none⟩)) (h : K (.pointer (some ⟨b, o + 1, none⟩)) w) : opV Tryd.prog ⟨d, .fieldAddr 96 x 1, ty, pos, af, g⟩ σ w K := zA Tryd.underlying96 rfl rfl (fun w => ⟨0, Tryd.sizeOf94 w⟩) hx h
set_option maxHeartbeats 4000000 in
theorem D_Do {G : Nat → Prop} {W w : World} {Rs : List HP} {t : Typ} {dt0 : Value} (hdt0 : RdS W G dt0 t.fields) (ot : t.Ok) {vc : Value} {c : List Cel} (hc : RdS W G vc c) {f : Int} (hf : InR f) {op : Int} (hop : InR op) {arg : Int} (harg : InR arg) (hS0 : Sep G W Rs w) (hak : Yy t c f op arg) (hfew : op = 3 → (yj c f).set.length ≤ 1000) : Ret Tryd.prog 17 [.agg (t.cells dt0).toArray, vc, .int .i64 (f), .int .i64 (op), .int .i64 (arg)] w (fun r w' => ∃ (v : Value), r = (v : Value) ∧ Sep G W ((RowE (α := Cel) own 42 v (doL t c f op arg)) :: Rs) w') := by
 have hdt0s : _ * 48 ≤ _ := hdt0.small
 have hcs : _ * 32 ≤ _ := hc.small
 have hf0 := hak.1; have hf1 := hak.2.1; have hf2 := hak.2.2.1
 refine zr (args := [.agg (t.cells dt0).toArray, vc, Iv f, Iv op, Iv arg]) Tryd.func17 rfl rfl ?_
 refine zd (za kr (fun _ => (st (zT (v := .agg (t.cells dt0).toArray) rfl ?_))))
 intro w3 b2 ba
 have bb := hS0.new ba
 refine st (ze (v := (Iz)) rfl (zf (zd (za kr (fun _ => (st (zb (v := vc) rfl (st (zu (f := 53) (vals := [vc]) (cap := []) rfl rfl Tryd.call53 (YO (l := c) (vl := vc) hc bb) ?_)))))))))
 rintro d w6 ⟨_, rfl, aN⟩
 have bd := aN.row (i := 0) rfl
 have hr8s : _ * 32 ≤ _ := bd.2
 obtain ⟨q, aQ, aR, aS⟩ := aN.celShare
 have L : Sep G W ((RowE (α := CelS) own 42 d q) :: (Blk b2 (t.cells dt0).toArray 33) :: Rs) w6 := aS
 have X := L.row (i := 0) rfl
 have hr13s : _ * 32 ≤ _ := X.2
 refine st (ze (v := d) rfl (zf (zd (zd (za kr (fun _ => (st (zb (v := d) rfl (st (zJ (n := q.length) Tryd.underlying26 rfl X.1 (st (zb (v := Iv 0) rfl (zf (zw ?_))))))))))))))
 have aT : Sep G W ((Star []) :: (RowE (α := CelS) own 42 d q) :: (Blk b2 (t.cells dt0).toArray 33) :: Rs) w6 := L.nilStar
 have aU := aT.mv1
 refine yd (fun mq σ Y => ∃ (k : Nat) (shk : List CelS) (ρ : Env), mq = c.length - k ∧ σ = yh ρ [(1, vc), (2, Iv f), (3, Iv op), (4, Iv arg), (5, Ix b2 0), (10, (Iz)), (11, d), (18, Iw q.length), (19, Iw k)] ∧ (k ≤ c.length) ∧ (shk.length = c.length) ∧ (∀ i, i < c.length → (shk.getD i default).n = (c.getD i default).n) ∧ Sep G W ((RowE (α := CelS) own 42 d shk) :: (Star (SetRows 3 (shk.take k) (c.take k))) :: (Blk b2 (t.cells dt0).toArray 33) :: Rs) Y) ⟨0, q, _, rfl, zq ⟨rfl, rfl, rfl, rfl, rfl, rfl, rfl, rfl, rfl, trivial⟩, Nat.zero_le _, aQ, (fun i h => (aR i h).1), aU⟩ ?_
 rintro m17 σ18 be ⟨k, shk, ρl1, rfl, rfl, hkk, hshl, hshn, p⟩
 have K := p.row (i := 0) rfl
 have hr20s : _ * 32 ≤ _ := K.2
 refine zd (za kr (fun _ => (st (zL (k := .i64) (a := ((k : Nat) : Int)) (b := ((q.length : Nat) : Int)) rfl rfl (zf (zd ?_))))))
 cases A : decide (((k : Nat) : Int) < ((q.length : Nat) : Int))
 have A := fD A
 refine zn rfl (yc (zU (zd (zd (za kr (fun _ => ?_))))))
 have hkl : k = c.length := by omega
 rw [hkl] at p
 rw [List.take_of_length_le (Nat.le_of_eq hshl), List.take_length] at p
 have aV : Sep G W ((CelW d 42 3 c) :: (Blk b2 (t.cells dt0).toArray 33) :: Rs) be := CelW.mk p ⟨hshl, hshn⟩
 refine st (zu (f := 52) (vals := []) (cap := []) rfl rfl Tryd.call52 (VU  aV) ?_)
 rintro _ w24 ⟨z, rfl, B⟩
 refine st (zb (v := Iv op) rfl ?_)
 have hops : (op = 1 ∨ op = 2 ∨ op = 3 ∨ op = 4 ∨ op = 5) ∨ (op ≠ 1 ∧ op ≠ 2 ∧ op ≠ 3 ∧ op ≠ 4 ∧ op ≠ 5) := by omega
 rcases hops with hop | hop
 obtain ⟨rx, hrx⟩ := Xz hop
 refine st (ZL (α := Rul) (a := rx) Tryd.underlying98 Tryd.underlying3 rfl rfl (B.map_ (i := 0) rfl) hrx ?_)
 rintro _ rfl
 refine st (zb (v := .tuple #[.agg #[.func (.func rx.may) #[] #[], .func (.func rx.does) #[] #[]], .bool true]) rfl (st (zE (vs := [.agg #[.func (.func rx.may) #[] #[], .func (.func rx.does) #[] #[]], .bool true]) (i := 0) (v := .agg #[.func (.func rx.may) #[] #[], .func (.func rx.does) #[] #[]]) rfl rfl (st (zE (vs := [.agg #[.func (.func rx.may) #[] #[], .func (.func rx.does) #[] #[]], .bool true]) (i := 1) (v := .bool true) rfl rfl (st (zB Tryd.zeroValue96 ?_)))))))
 intro w28 F aW
 have Z := B.new aW
 refine stn (zy (v := .agg #[.func (.func rx.may) #[] #[], .func (.func rx.does) #[] #[]]) (c' := #[.func (.func rx.may) #[] #[], .func (.func rx.does) #[] #[]]) Tryd.sizeOf96 rfl rfl (Z.blk (i := 0) rfl) (ya ⟨rfl, rfl, trivial⟩) (Nat.le_of_ble_eq_true rfl) rfl ?_)
 intro w30 aX
 have aY := Z.pt0 aX
 refine st (ze (v := .bool true) rfl (zf (zd (za kr (fun _ => (st (zb (v := .bool true) rfl (zf (zo rfl ?_)))))))))
 refine WD4 ((fun TT aO aP => WF [fun vals Y => Sep G W (aO :: aP :: (CelW d 42 3 c) :: TT) Y, fun vals Y => (vals 11 = (.tuple #[] : Value)) ∧ Sep G W ((CelW d 42 3 (c.set f.toNat (yD (t.fields.getD f.toNat default) (yj c f) op arg))) :: aO :: aP :: TT) Y]) ((Blk b2 (t.cells dt0).toArray 33) :: Rs) (Blk F #[.func (.func rx.may) #[] #[], .func (.func rx.does) #[] #[]] 96) (Zm (α := Rul) z xG)) (AF [Vl 0 (Ix F 1), Vl 1 (.func (.func rx.does) #[] #[]), Vl 2 (Ix b2 0), Vl 3 (dt0), Vl 4 (Iv f), Vl 5 (Ix (sb dt0) (so dt0 + f.toNat * 4)), Vl 6 (.agg ((t.fields.getD f.toNat default).cells (zi W (sb dt0) (so dt0 + f.toNat * 4 + 3))).toArray), Vl 7 (d), Vl 8 (Iv f), Vl 9 (Iv arg), Vl 10 (.agg #[Iv ((t.fields.getD f.toNat default).kind), Iv ((t.fields.getD f.toNat default).policy), .bool ((t.fields.getD f.toNat default).floor), (zi W (sb dt0) (so dt0 + f.toNat * 4 + 3)), d, Iv f, Iv arg]), fun _ => True]) [[], [0], [], [2], [], [2, 3, 4], [2, 3, 4, 5], [], [], [], [2, 3, 4, 5, 6, 7, 8, 9], (rg 11)] [11] [(0, 0), (0, 0), (0, 0), (0, 0), (0, 0), (0, 0), (0, 0), (0, 0), (0, 0), (0, 0), (0, 0), (0, 0)] aY ⟨?_, ?_, ?_, ?_, ?_, ?_, ?_, ?_, ?_, ?_, ?_, ?_, trivial⟩ ?_
 exact fun _ _ _ _ _ _ _ => obl rfl (KR rfl dR)
 exact ob1 0 fun _ _ (ai : Sep _ _ _ _) aj => obl rfl (zg (v := .func (.func rx.does) #[] #[]) Tryd.isAgg94 (aj 0 dc) (zh (ai.blk (i := 0) rfl) rfl) dR)
 exact fun _ _ _ _ _ _ _ => obl rfl (yA rfl dR)
 exact ob1 0 fun _ _ (ak : Sep _ _ _ _) al => obl rfl (zg (v := dt0) Tryd.isAgg31 (al 2 dc) (zh (ak.blk (i := 3) rfl) rfl) dR)
 exact fun _ _ _ _ _ _ _ => obl rfl (zb (v := Iv f) rfl dR)
 refine ob1 0 fun _ _ _ M => (obl rfl ?_)
 have hi178 : f.toNat < t.fields.length := (by have h1 := hak.1; have h2 := hak.2.1; have h3 := hak.2.2.1; omega)
 exact zz (k := 4) (i := f) Tryd.underlying31 Tryd.sizeOf79 (M 3 dc) hdt0.sl (M 4 dc) ⟨by omega, by omega⟩ dR
 refine ob1 0 fun _ _ (am : Sep _ _ _ _) an => (obl rfl ?_)
 have C : f.toNat < t.fields.length := (by have h1 := hak.1; have h2 := hak.2.1; have h3 := hak.2.2.1; omega)
 obtain ⟨H, y, T⟩ := hdt0.fld C
 rw [← zm default C] at H y T
 have hsm189 : ((t.fields.getD f.toNat default).moves).length * 32 ≤ 140737488355328 := y.small
 have ad := am.cells H (hdt0.foot (ne_of_lt C))
 exact zl (k := 4) Tryd.isAgg79 Tryd.sizeOf79 rfl (an 5 dc) ad dR
 exact fun _ _ _ _ _ _ _ => obl rfl (zb (v := d) rfl dR)
 exact fun _ _ _ _ _ _ _ => obl rfl (zb (v := Iv f) rfl dR)
 exact fun _ _ _ _ _ _ _ => obl rfl (zb (v := Iv arg) rfl dR)
 exact fun _ _ _ _ _ _ s => obl rfl (zQ (parts' := [(0, .agg ((t.fields.getD f.toNat default).cells (zi W (sb dt0) (so dt0 + f.toNat * 4 + 3))).toArray), (1, d), (2, Iv f), (3, Iv arg)]) (v := .agg #[Iv ((t.fields.getD f.toNat default).kind), Iv ((t.fields.getD f.toNat default).policy), .bool ((t.fields.getD f.toNat default).floor), (zi W (sb dt0) (so dt0 + f.toNat * 4 + 3)), d, Iv f, Iv arg]) (xF ⟨rfl, (s 6 (by decide)), rfl, (s 7 (by decide)), rfl, (s 8 (by decide)), rfl, (s 9 (by decide)), trivial⟩) (by obtain ⟨_, _, ao, _⟩ := K.1; rw [show d = Value.slice _ _ _ from ao]; simp [Instr.build, Instr.fill, Ev.cells, go_sem, Mv.cells, Fld.cells, Typ.cells, Prj.cells, Dcl.cells, Cel.cells, AskR.cells, Ask.cells]) dR)
 refine ob1 0 fun vals _ (ap : Sep _ _ _ _) N => (obl rfl ?_)
 have O := ap.mv2
 have D : f.toNat < t.fields.length := (by have h1 := hak.1; have h2 := hak.2.1; have h3 := hak.2.2.1; omega)
 obtain ⟨I, e, U⟩ := hdt0.fld D
 rw [← zm default D] at I e U
 have hsm130 : ((t.fields.getD f.toNat default).moves).length * 32 ≤ 140737488355328 := e.small
 have hcw131 := O.cells I (hdt0.foot (ne_of_lt D))
 refine (zu (f := rx.does) (vals := [.agg #[Iv ((t.fields.getD f.toNat default).kind), Iv ((t.fields.getD f.toNat default).policy), .bool ((t.fields.getD f.toNat default).floor), (zi W (sb dt0) (so dt0 + f.toNat * 4 + 3)), d, Iv f, Iv arg]]) (cap := []) (show _ = (.func (.func rx.does) #[] #[] : Value) from (N 1 dc)) (yP ⟨(N 10 dc), trivial⟩) (XC hop hrx).2 (D_rdo  O (⟨hak.1, hak.2.2.1⟩) (hf) (harg) (hrx) (hop) (e) (⟨hak.2.2.2.1, fun h => ⟨(hak.2.2.2.2 h).1, (hak.2.2.2.2 h).2.1⟩⟩) (hfew)) ?_)
 rintro _ w132 ⟨rfl, aq⟩
 exact fun vals' hv hv' => ⟨(And.intro hv aq), trivial⟩
 intro vals ae ar hA222
 obtain ⟨he134, au⟩ := ar
 refine yf (kv := [(1, vc), (2, Iv f), (3, Iv op), (4, Iv arg), (5, Ix b2 0), (10, (Iz)), (11, d), (18, Iw q.length), (19, Iw k), (20, .bool false), (34, .map (some z)), (35, Iv op), (36, .tuple #[.agg #[.func (.func rx.may) #[] #[], .func (.func rx.does) #[] #[]], .bool true]), (33, .tuple #[.agg #[.func (.func rx.may) #[] #[], .func (.func rx.does) #[] #[]], .bool true]), (37, .agg #[.func (.func rx.may) #[] #[], .func (.func rx.does) #[] #[]]), (38, .bool true), (13, Ix F 0), (14, .bool true), (39, .bool true)]) ⟨rfl, rfl, rfl, rfl, rfl, rfl, rfl, rfl, rfl, rfl, rfl, rfl, rfl, rfl, rfl, rfl, rfl, rfl, rfl, trivial⟩ (fun ρw220 => (zf (zd (za kr (fun _ => (st (zb (v := d) rfl (st (ze (v := d) rfl (zf (zt (zO Tryd.results17 (show _ = (d : Value) from rfl) ?_))))))))))))
 have av : Sep G W ((RowE (α := Cel) own 42 d (c.set f.toNat (yD (t.fields.getD f.toNat default) (yj c f) op arg))) :: (Blk F #[.func (.func rx.may) #[] #[], .func (.func rx.does) #[] #[]] 96) :: (Zm (α := Rul) z xG) :: (Blk b2 (t.cells dt0).toArray 33) :: Rs) ae := CelW.row au
 have aw : Sep G W ((RowE (α := Cel) own 42 d (doL t c f op arg)) :: (Blk F #[.func (.func rx.may) #[] #[], .func (.func rx.does) #[] #[]] 96) :: (Zm (α := Rul) z xG) :: (Blk b2 (t.cells dt0).toArray 33) :: Rs) ae := av
 have ax := aw.s4_a
 refine ⟨d, rfl, ax⟩
 refine st (ZJ (α := Rul) (zc := [.nilFunc, .nilFunc]) Tryd.underlying98 Tryd.underlying3 Tryd.zeroValue96 rfl rfl (B.map_ (i := 0) rfl) (Xn hop) (st (zb (v := .tuple #[.agg #[.nilFunc, .nilFunc], .bool false]) rfl (st (zE (vs := [.agg #[.nilFunc, .nilFunc], .bool false]) (i := 0) (v := .agg #[.nilFunc, .nilFunc]) rfl rfl (st (zE (vs := [.agg #[.nilFunc, .nilFunc], .bool false]) (i := 1) (v := .bool false) rfl rfl (st (zB Tryd.zeroValue96 ?_)))))))))
 intro w229 af ay
 have P := B.new ay
 refine stn (zy (v := .agg #[.nilFunc, .nilFunc]) (c' := #[.nilFunc, .nilFunc]) Tryd.sizeOf96 rfl rfl (P.blk (i := 0) rfl) (ya ⟨rfl, rfl, trivial⟩) (Nat.le_of_ble_eq_true rfl) rfl ?_)
 intro ag az
 have aA := P.pt0 az
 refine st (ze (v := .bool false) rfl (zf (zd (za kr (fun _ => (st (zb (v := .bool false) rfl (zf (zn rfl (zv (zd (za kr (fun _ => (st (zb (v := d) rfl (st (ze (v := d) rfl (zf (zt (zO Tryd.results17 (show _ = (d : Value) from rfl) ?_))))))))))))))))))))
 have aB := aA.mv2
 have aC : Sep G W ((RowE (α := Cel) own 42 d c) :: (Blk af #[.nilFunc, .nilFunc] 96) :: (Zm (α := Rul) z xG) :: (Blk b2 (t.cells dt0).toArray 33) :: Rs) ag := CelW.row aB
 have aD : Sep G W ((RowE (α := Cel) own 42 d (doL t c f op arg)) :: (Blk af #[.nilFunc, .nilFunc] 96) :: (Zm (α := Rul) z xG) :: (Blk b2 (t.cells dt0).toArray 33) :: Rs) ag := by rw [Qu (by omega) hop]; exact aC
 have aE := aD.s4_a
 refine ⟨d, rfl, aE⟩
 have A := tD A
 refine zo rfl (zv (zd (zw (zd (za kr (fun _ => (st (zb (v := Iw k) rfl (st (ze (v := Iw k) rfl (zf (za kr (fun _ => (st (zb (v := d) rfl (st (zb (v := Iw k) rfl (st (zb (v := vc) rfl (st (zb (v := Iw k) rfl ?_)))))))))))))))))))))
 have aF : k < c.length := (by have h1 := hak.1; have h2 := hak.2.1; have h3 := hak.2.2.1; omega)
 refine st (zk (k := 2) (i := k) Tryd.underlying26 Tryd.sizeOf42 rfl hc.sl rfl aF (st (yN rfl ?_)))
 have E : k < c.length := (by have h1 := hak.1; have h2 := hak.2.1; have h3 := hak.2.2.1; omega)
 obtain ⟨J, g, V⟩ := hc.cel E
 rw [← zm default E] at J g V
 have hsm241 : ((c.getD k default).set).length * 8 ≤ 140737488355328 := g.small
 have ah := p.cells J (hc.foot (ne_of_lt E))
 refine st (zg (v := (zi W (sb vc) (so vc + k * 2 + 1))) Tryd.isAgg40 rfl (ah.get (j := 1) rfl) (st (zu (f := 54) (vals := [(zi W (sb vc) (so vc + k * 2 + 1))]) (cap := []) rfl rfl Tryd.call54 (ZS (l := (c.getD k default).set) (vl := (zi W (sb vc) (so vc + k * 2 + 1))) g p) ?_)))
 rintro m w244 ⟨_, rfl, Q⟩
 have x := Q.row (i := 0) rfl
 have hr246s : _ * 8 ≤ _ := x.2
 have aG : k < shk.length := (by have h1 := hak.1; have h2 := hak.2.1; have h3 := hak.2.2.1; omega)
 refine st (zk (k := 2) (i := k) Tryd.underlying26 Tryd.sizeOf42 rfl K.1 rfl aG (st (yN rfl ?_)))
 have aH := Q.mv1
 have aI := aH.emp1
 refine stn (yE (α := CelS) (j := k) (o := 1) (u := m) (us := [m]) (x1 := (⟨(shk.getD k default).n, m⟩ : CelS)) aI Tryd.sizeOf40 bo rfl rfl (congrArg Array.toList (yX x.1.one)) (Nat.le_of_ble_eq_true rfl) (ya ⟨x.1.one, trivial⟩) (fun _ _ _ hel _ => (by rw [← zm default (by omega)] at hel; obtain ⟨rfl, hok⟩ := hel; exact ⟨rfl, ⟨hok.n, x.1.one⟩⟩)) ?_)
 intro aZ R
 have aJ := R.row (i := 0) rfl
 have hr252s : _ * 32 ≤ _ := aJ.2
 refine zf (za kr (fun _ => ?_))
 have aK : InR ((k + 1 : Nat) : Int) := bo
 refine st (zV (r := ((k + 1 : Nat) : Int)) (k := .i64) (a := ((k : Nat) : Int)) (b := 1) rfl rfl (by rw [show (((k : Nat) : Int) + 1 : Int) = ((k + 1 : Nat) : Int) from bo]; exact zM aK) (st (zb (v := Iw (k + 1)) rfl (zf ?_))))
 have aL := R.s4_bcad
 have S : Sep G W ((Star (SetRows 3 (shk.take k) (c.take k) ++ [(RowE (α := Int) own 3 m ((c.getD k default).set))])) :: (RowE (α := CelS) own 42 d (shk.set k (⟨(shk.getD k default).n, m⟩ : CelS))) :: (Blk b2 (t.cells dt0).toArray 33) :: Rs) aZ := aL.snocStar
 rw [← SetRows.step (Ti := 3) (⟨(shk.getD k default).n, m⟩ : CelS) hshl (by omega)] at S
 have aM := S.mv1
 exact ⟨_, by omega, k + 1, shk.set k (⟨(shk.getD k default).n, m⟩ : CelS), _, rfl, zq ⟨rfl, rfl, rfl, rfl, rfl, rfl, rfl, rfl, rfl, trivial⟩, by omega, by rw [List.length_set]; exact hshl, (UA hshl hshn (by omega)), aM⟩

end Go.Proofs.YtlblilbmpdejgaaDoor
/- Steps of the proofs of this seat: part C6. -/
set_option maxRecDepth 8000
namespace Go.Proofs.YtlblilbmpdejgaaDoor
open Go.Proofs Go.RowKit

theorem Zt {P : Program} {σ : Env} {w : World} {fn : Func} {a u : Tmp} {t : TypeId} {R : Value → World → Prop} {b k : Nat} {cs : List Value} {v' : Value} (hr : fn.results = #[.cell a t, .tmp u]) (hA : ∀ w, (isAgg t).run P w = .ok true w) (hS : ∀ w, (sizeOf t).run P w = .ok k w) (hk : cs.length = k)
    (hv : σ a = .pointer (some ⟨b, 0, none⟩)) (hc : CellsAt w b 0 cs) (hu : σ u = v') (h : R (.tuple #[.agg cs.toArray, v']) w) : Xe P fn R .ret σ w := by
  subst hk
  refine ⟨_, fun tmps ht => ?_, h⟩
  have := yO (P := P) (w := w) b 0 cs 0 #[] (fun j hj => by simpa using hc j hj)
  have e : tmps[a]?.getD undef = .pointer (some ⟨b, 0, none⟩) := by rw [← hv, ← ht a]; simp
  have e2 : tmps[u]?.getD undef = v' := by rw [← hu, ← ht u]; simp
  simp [results, hr, e, e2, asAddr, loadVar, hA, hS, loadCells, this, go_sem]
def yB (t : Typ) (n : Int) : Int := if n < 0 ∨ (t.fields.length : Int) ≤ n then 0 else (t.fields.getD n.toNat default).kind
def Ww (t : Typ) (f : Fld) : Prop := (1 ≤ f.kind ∧ f.kind ≤ 4) ∧ (f.floor = true → f.kind = 1) ∧ ∀ j, j < f.moves.length → (f.moves.getD j default).need = -1 ∨ yB t (f.moves.getD j default).need = 1
def KB (f : Fld) : Prop := (f.kind = 4 → 1 ≤ f.moves.length) ∧ f.moves.length ≤ 16
def FewT (t : Typ) : Prop := (1 ≤ t.fields.length ∧ t.fields.length ≤ 8) ∧ ∀ j, j < t.fields.length → KB (t.fields.getD j default)
def FewD (d : Dcl) : Prop := (1 ≤ d.types.length ∧ d.types.length ≤ 8) ∧ ∀ i, i < d.types.length → FewT (d.types.getD i default)
theorem yW {p : Nat → Prop} {k : Nat} (h : ∀ i, i < k → p i) (hk : p k) : ∀ i, i < k + 1 → p i := fun i hi => by
  by_cases e : i = k
  · rw [e]; exact hk
  · exact h i (by omega)
theorem KD {d : Dcl} (h1 : FewD d) (h2 : ∀ i, i < d.types.length → ∀ j, j < (d.types.getD i default).fields.length → Ww (d.types.getD i default) ((d.types.getD i default).fields.getD j default)) : DclOk d := by
  refine ⟨h1.1.1, h1.1.2, fun i hi => ?_⟩
  have f1 := h1.2 i hi
  have f2 := h2 i hi
  refine ⟨f1.1.1, f1.1.2, fun j hj => (f2 j hj).1, fun j hj => (f2 j hj).2.1, fun j hj => f1.2 j hj, fun j hj q hq => ?_⟩
  rcases (f2 j hj).2.2 q hq with h | h
  · exact .inl h
  · right
    unfold yB at h
    split at h
    · omega
    · rename_i hn
      exact ⟨by omega, by omega, h⟩
theorem yo {d : Option Tmp} {ty : TypeId} {pos : String} {af : Array Edge} {g : Option (Nat × Bool)} {σ : Env} {w : World} {K : Value → World → Prop} {x : Operand} {b o : Nat} (hx : ev σ x = .pointer (some ⟨b, o, none⟩)) (h : K (.pointer (some ⟨b, o + 0, none⟩)) w) : opV Tryd.prog ⟨d, .fieldAddr 25 x 0, ty, pos, af, g⟩ σ w K := zA Tryd.underlying25 rfl rfl (fun w => ⟨0, Tryd.sizeOf22 w⟩) hx h
theorem xS {d : Option Tmp} {ty : TypeId} {pos : String} {af : Array Edge} {g : Option (Nat × Bool)} {σ : Env} {w : World} {K : Value → World → Prop} {x : Operand} {b o : Nat} (hx : ev σ x = .pointer (some ⟨b, o, none⟩)) (h : K (.pointer (some ⟨b, o + 1, none⟩)) w) : opV Tryd.prog ⟨d, .fieldAddr 25 x 1, ty, pos, af, g⟩ σ w K := zA Tryd.underlying25 rfl rfl (fun w => ⟨0, Tryd.sizeOf23 w⟩) hx h
theorem KH {G : Nat → Prop} {W w : World} {Rs : List HP} {d : Dcl} {dd0 : Value} (hdd0 : RdS W G dd0 d.types) {dd1 : Value} (hdd1 : RdS W G dd1 d.projs) (od : d.Ok) (hS0 : Sep G W Rs w) : Ret Tryd.prog 45 [.agg (d.cells dd0 dd1).toArray] w (fun r w' => ∃ (b : Bool), r = (.bool b : Value) ∧ Sep G W Rs w') := by
 have hdd0s : _ * 24 ≤ _ := hdd0.small
 have hdd1s : _ * 40 ≤ _ := hdd1.small
 refine zr (args := [.agg (d.cells dd0 dd1).toArray]) Tryd.func45 rfl rfl ?_
 refine zd (za kr (fun _ => (st (zT (v := .agg (d.cells dd0 dd1).toArray) rfl ?_))))
 intro w3 b2 Z
 have t := hS0.new Z
 refine st (ze (v := .bool false) rfl (zf (zd (zd (zF kr (st (yo rfl (st (zg (v := dd0) Tryd.isAgg22 rfl (zh (t.blk (i := 0) rfl) rfl) (st (zJ (n := d.types.length) Tryd.underlying22 rfl hdd0.sl (st (yT (k := .i64) (a := ((d.types.length : Nat) : Int)) (b := 20) rfl rfl (st (zb (v := .bool (decide (20 < ((d.types.length : Nat) : Int)))) rfl (stc (V := Ix b2 1) rfl rfl (fun aa => ?_) ?_))))))))))))))))
 have I := aa
 have I := fD I
 exact xS rfl ⟨rfl, rfl⟩
 refine stc (V := dd1) rfl rfl (fun J => ?_) ?_
 have K := J
 have K := fD K
 exact zg (v := dd1) Tryd.isAgg23 (show _ = (Ix b2 1 : Value) from (if_pos J)) (zh (t.blk (i := 0) rfl) rfl) ⟨rfl, rfl⟩
 refine stc (V := Iw d.projs.length) rfl rfl (fun L => ?_) ?_
 have x := L
 have x := fD x
 exact zJ (n := d.projs.length) Tryd.underlying23 (show _ = (dd1 : Value) from (if_pos L)) hdd1.sl ⟨rfl, rfl⟩
 refine stc (V := .bool (decide (20 < ((d.projs.length : Nat) : Int)))) rfl rfl (fun y => ?_) ?_
 have z := y
 have z := fD z
 exact yT (k := .i64) (a := ((d.projs.length : Nat) : Int)) (b := 20) (show _ = (Iw d.projs.length : Value) from (if_pos y)) rfl ⟨rfl, rfl⟩
 refine st (zG (b := decide (20 < ((d.types.length : Nat) : Int))) (b' := decide (20 < ((d.projs.length : Nat) : Int))) rfl (fun hbp => (show _ = (.bool (decide (20 < ((d.projs.length : Nat) : Int))) : Value) from (if_pos hbp))) (zf ?_))
 cases A : (decide (20 < ((d.types.length : Nat) : Int))) || (decide (20 < ((d.projs.length : Nat) : Int)))
 try simp only [zj] at A
 refine zn rfl (zv (zd (zd (za kr (fun _ => (st (ze (v := Iv 0) rfl (zf (zw (yd (fun mq σ M => ∃ (k : Nat) (ρ : Env), mq = d.types.length - k ∧ σ = yh ρ [(1, Ix b2 0), (3, Iw k)] ∧ (k ≤ d.types.length) ∧ Sep G W ((Blk b2 (d.cells dd0 dd1).toArray 25) :: Rs) M) ⟨0, _, rfl, zq ⟨rfl, rfl, trivial⟩, Nat.zero_le _, t⟩ ?_))))))))))
 rintro m15 σ16 w14 ⟨k, ρl1, rfl, rfl, hkk, f⟩
 refine zd (zd (za kr (fun _ => (st (zb (v := Iw k) rfl (st (yo rfl (st (zg (v := dd0) Tryd.isAgg22 rfl (zh (f.blk (i := 0) rfl) rfl) (st (zJ (n := d.types.length) Tryd.underlying22 rfl hdd0.sl (st (zL (k := .i64) (a := ((k : Nat) : Int)) (b := ((d.types.length : Nat) : Int)) rfl rfl (zf ?_))))))))))))))
 cases m : decide (((k : Nat) : Int) < ((d.types.length : Nat) : Int))
 have m := fD m
 refine zn rfl (yc (zU (zd (za kr (fun _ => (st (ze (v := .bool false) rfl (zf (zt (zO Tryd.results45 (show _ = (.bool false : Value) from rfl) ?_))))))))))
 have N := f.s1_
 refine ⟨false, rfl, N⟩
 have m := tD m
 refine zo rfl (zv (zd (zw (zd (zd (za kr (fun _ => (st (yo rfl (st (zg (v := dd0) Tryd.isAgg22 rfl (zh (f.blk (i := 0) rfl) rfl) (st (zb (v := Iw k) rfl ?_)))))))))))))
 have O : k < d.types.length := bo
 refine st (zk (k := 1) (i := k) Tryd.underlying22 Tryd.sizeOf33 rfl hdd0.sl rfl O (st (yA rfl ?_)))
 have l : k < d.types.length := bo
 obtain ⟨h, c, B⟩ := hdd0.typ l
 rw [← zm default l] at h c B
 have hsm23 : ((d.types.getD k default).fields).length * 48 ≤ 140737488355328 := c.small
 have D := f.cells h (hdd0.foot (ne_of_lt l))
 refine st (zg (v := (zi W (sb dd0) (so dd0 + k * 1 + 0))) Tryd.isAgg31 rfl (D.get (j := 0) rfl) (st (zJ (n := ((d.types.getD k default).fields).length) Tryd.underlying31 rfl c.sl (st (yT (k := .i64) (a := ((((d.types.getD k default).fields).length : Nat) : Int)) (b := 20) rfl rfl (zf ?_))))))
 cases o : decide (20 < ((((d.types.getD k default).fields).length : Nat) : Int))
 have o := fD o
 refine zn rfl (zv (zd (za kr (fun _ => (st (ze (v := Iv 0) rfl (zf (zw (yd (fun mq σ M => ∃ (j : Nat) (ρ : Env), mq = (d.types.getD k default).fields.length - j ∧ σ = yh ρ [(1, Ix b2 0), (3, Iw k), (4, Iw j)] ∧ (j ≤ (d.types.getD k default).fields.length) ∧ Sep G W ((Blk b2 (d.cells dd0 dd1).toArray 25) :: Rs) M) ⟨0, _, rfl, zq ⟨rfl, rfl, rfl, trivial⟩, Nat.zero_le _, f⟩ ?_)))))))))
 rintro m27 σ28 w26 ⟨j, ρl2, rfl, rfl, hkj, e⟩
 refine zd (zd (za kr (fun _ => (st (zb (v := Iw j) rfl (st (yo rfl (st (zg (v := dd0) Tryd.isAgg22 rfl (zh (e.blk (i := 0) rfl) rfl) (st (zb (v := Iw k) rfl ?_)))))))))))
 have P : k < d.types.length := bo
 refine st (zk (k := 1) (i := k) Tryd.underlying22 Tryd.sizeOf33 rfl hdd0.sl rfl P (st (yA rfl ?_)))
 have E := e.cells h (hdd0.foot (ne_of_lt l))
 refine st (zg (v := (zi W (sb dd0) (so dd0 + k * 1 + 0))) Tryd.isAgg31 rfl (E.get (j := 0) rfl) (st (zJ (n := ((d.types.getD k default).fields).length) Tryd.underlying31 rfl c.sl (st (zL (k := .i64) (a := ((j : Nat) : Int)) (b := ((((d.types.getD k default).fields).length : Nat) : Int)) rfl rfl (zf ?_))))))
 cases p : decide (((j : Nat) : Int) < ((((d.types.getD k default).fields).length : Nat) : Int))
 have p := fD p
 refine zn rfl (yc (zU (za kr (fun _ => (st (zb (v := Iw k) rfl ?_))))))
 have Q : InR ((k + 1 : Nat) : Int) := bo
 refine st (zV (r := ((k + 1 : Nat) : Int)) (k := .i64) (a := ((k : Nat) : Int)) (b := 1) rfl rfl (by rw [show (((k : Nat) : Int) + 1 : Int) = ((k + 1 : Nat) : Int) from bo]; exact zM Q) (st (ze (v := Iw (k + 1)) rfl (zf ?_))))
 exact ⟨_, by omega, k + 1, _, rfl, zq ⟨rfl, rfl, trivial⟩, by omega, e⟩
 have p := tD p
 refine zo rfl (zv (zd (zw (zd (za kr (fun _ => (st (yo rfl (st (zg (v := dd0) Tryd.isAgg22 rfl (zh (e.blk (i := 0) rfl) rfl) (st (zb (v := Iw k) rfl ?_))))))))))))
 have R : k < d.types.length := bo
 refine st (zk (k := 1) (i := k) Tryd.underlying22 Tryd.sizeOf33 rfl hdd0.sl rfl R (st (yA rfl ?_)))
 have F := e.cells h (hdd0.foot (ne_of_lt l))
 refine st (zg (v := (zi W (sb dd0) (so dd0 + k * 1 + 0))) Tryd.isAgg31 rfl (F.get (j := 0) rfl) (st (zb (v := Iw j) rfl ?_)))
 have S : j < ((d.types.getD k default).fields).length := bo
 refine st (zk (k := 4) (i := j) Tryd.underlying31 Tryd.sizeOf79 rfl c.sl rfl S (st (yz rfl ?_)))
 have s : j < ((d.types.getD k default).fields).length := bo
 obtain ⟨u, g, C⟩ := c.fld s
 rw [← zm default s] at u g C
 have hsm41 : ((((d.types.getD k default).fields).getD j default).moves).length * 32 ≤ 140737488355328 := g.small
 have H := e.cells u (c.foot (ne_of_lt s))
 refine st (zg (v := (zi W (sb (zi W (sb dd0) (so dd0 + k * 1 + 0))) (so (zi W (sb dd0) (so dd0 + k * 1 + 0)) + j * 4 + 3))) Tryd.isAgg77 rfl (H.get (j := 3) rfl) (st (zJ (n := ((((d.types.getD k default).fields).getD j default).moves).length) Tryd.underlying77 rfl g.sl (st (yT (k := .i64) (a := ((((((d.types.getD k default).fields).getD j default).moves).length : Nat) : Int)) (b := 40) rfl rfl (zf ?_))))))
 cases q : decide (40 < ((((((d.types.getD k default).fields).getD j default).moves).length : Nat) : Int))
 have q := fD q
 refine zn rfl (zv (za kr (fun _ => (st (zb (v := Iw j) rfl ?_)))))
 have T : InR ((j + 1 : Nat) : Int) := bo
 refine st (zV (r := ((j + 1 : Nat) : Int)) (k := .i64) (a := ((j : Nat) : Int)) (b := 1) rfl rfl (by rw [show (((j : Nat) : Int) + 1 : Int) = ((j + 1 : Nat) : Int) from bo]; exact zM T) (st (ze (v := Iw (j + 1)) rfl (zf ?_))))
 exact ⟨_, by omega, j + 1, _, rfl, zq ⟨rfl, rfl, rfl, trivial⟩, by omega, e⟩
 have q := tD q
 refine zo rfl (zd (za kr (fun _ => (st (ze (v := .bool true) rfl (zf (zt (zO Tryd.results45 (show _ = (.bool true : Value) from rfl) ?_))))))))
 have U := e.s1_
 refine ⟨true, rfl, U⟩
 have o := tD o
 refine zo rfl (zd (za kr (fun _ => (st (ze (v := .bool true) rfl (zf (zt (zO Tryd.results45 (show _ = (.bool true : Value) from rfl) ?_))))))))
 have X := f.s1_
 refine ⟨true, rfl, X⟩
 try simp only [zj] at A
 refine zo rfl (zd (za kr (fun _ => (st (ze (v := .bool true) rfl (zf (zt (zO Tryd.results45 (show _ = (.bool true : Value) from rfl) ?_))))))))
 have Y := t.s1_
 refine ⟨true, rfl, Y⟩

theorem xb {d : Option Tmp} {ty : TypeId} {pos : String} {af : Array Edge} {g : Option (Nat × Bool)} {σ : Env} {w : World} {K : Value → World → Prop} {x : Operand} {b o : Nat} (hx : ev σ x = .pointer (some ⟨b, o, none⟩)) (h : K (.pointer (some ⟨b, o + 0, none⟩)) w) : opV Tryd.prog ⟨d, .fieldAddr 79 x 0, ty, pos, af, g⟩ σ w K := zA Tryd.underlying79 rfl rfl (fun w => ⟨0, Tryd.sizeOf3 w⟩) hx h
theorem Ql {G : Nat → Prop} {W w : World} {Rs : List HP} {t : Typ} {dt0 : Value} (hdt0 : RdS W G dt0 t.fields) (ot : t.Ok) {n : Int} (hn : InR n) (hS0 : Sep G W Rs w) : Ret Tryd.prog 73 [.agg (t.cells dt0).toArray, .int .i64 (n)] w (fun r w' => r = (.int .i64 ((yB t n)) : Value) ∧ Sep G W Rs w') := by
 have hdt0s : _ * 48 ≤ _ := hdt0.small
 refine zr (args := [.agg (t.cells dt0).toArray, Iv n]) Tryd.func73 rfl rfl ?_
 refine zd (za kr (fun _ => (st (zT (v := .agg (t.cells dt0).toArray) rfl ?_))))
 intro w3 b2 B
 have d := hS0.new B
 refine st (ze (v := Iv 0) rfl (zf (zd (zd (zF kr (st (zb (v := Iv n) rfl (st (zL (k := .i64) (a := n) (b := 0) rfl rfl (st (zb (v := .bool (decide (n < 0))) rfl (stc (V := Iv n) rfl rfl (fun C => ?_) ?_))))))))))))
 have u := C
 have u := fD u
 exact zb (v := Iv n) rfl ⟨rfl, rfl⟩
 refine stc (V := Ix b2 0) rfl rfl (fun D => ?_) ?_
 have x := D
 have x := fD x
 exact yA rfl ⟨rfl, rfl⟩
 refine stc (V := dt0) rfl rfl (fun y => ?_) ?_
 have h := y
 have h := fD h
 exact zg (v := dt0) Tryd.isAgg31 (show _ = (Ix b2 0 : Value) from (if_pos y)) (zh (d.blk (i := 0) rfl) rfl) ⟨rfl, rfl⟩
 refine stc (V := Iw t.fields.length) rfl rfl (fun l => ?_) ?_
 have m := l
 have m := fD m
 exact zJ (n := t.fields.length) Tryd.underlying31 (show _ = (dt0 : Value) from (if_pos l)) hdt0.sl ⟨rfl, rfl⟩
 refine stc (V := .bool (decide (((t.fields.length : Nat) : Int) ≤ n))) rfl rfl (fun e => ?_) ?_
 have o := e
 have o := fD o
 exact yY (k := .i64) (a := n) (b := ((t.fields.length : Nat) : Int)) (show _ = (Iv n : Value) from (if_pos e)) (show _ = (Iw t.fields.length : Value) from (if_pos e)) ⟨rfl, rfl⟩
 refine st (zG (b := decide (n < 0)) (b' := decide (((t.fields.length : Nat) : Int) ≤ n)) rfl (fun hbp => (show _ = (.bool (decide (((t.fields.length : Nat) : Int) ≤ n)) : Value) from (if_pos hbp))) (zf ?_))
 cases p : (decide (n < 0)) || (decide (((t.fields.length : Nat) : Int) ≤ n))
 try simp only [zj] at p
 refine zn rfl (zv (zd (za kr (fun _ => (st (yA rfl (st (zg (v := dt0) Tryd.isAgg31 rfl (zh (d.blk (i := 0) rfl) rfl) (st (zb (v := Iv n) rfl ?_))))))))))
 have hi16 : n.toNat < t.fields.length := bo
 refine st (zz (k := 4) (i := n) Tryd.underlying31 Tryd.sizeOf79 rfl hdt0.sl rfl ⟨by omega, by omega⟩ (st (xb rfl ?_)))
 have f : n.toNat < t.fields.length := bo
 obtain ⟨g, c, q⟩ := hdt0.fld f
 rw [← zm default f] at g c q
 have hsm19 : ((t.fields.getD n.toNat default).moves).length * 32 ≤ 140737488355328 := c.small
 have s := d.cells g (hdt0.foot (ne_of_lt f))
 refine st (zg (v := Iv ((t.fields.getD n.toNat default).kind)) Tryd.isAgg3 rfl (s.get (j := 0) rfl) (st (ze (v := Iv ((t.fields.getD n.toNat default).kind)) rfl (zf (zt (zO Tryd.results73 (show _ = (Iv ((t.fields.getD n.toNat default).kind) : Value) from rfl) ?_))))))
 have z := d.s1_
 refine ⟨?_, z⟩
 unfold yB
 rw [if_neg (by omega)]
 try simp only [zj] at p
 refine zo rfl (zd (za kr (fun _ => (st (ze (v := Iv 0) rfl (zf (zt (zO Tryd.results73 (show _ = (Iv 0 : Value) from rfl) ?_))))))))
 have A := d.s1_
 refine ⟨?_, A⟩
 unfold yB
 rw [if_pos (by omega)]

theorem KE {G : Nat → Prop} {W w : World} {Rs : List HP} {d : Dcl} {dd0 : Value} (hdd0 : RdS W G dd0 d.types) {dd1 : Value} (hdd1 : RdS W G dd1 d.projs) (od : d.Ok) (hS0 : Sep G W Rs w) : Ret Tryd.prog 70 [.agg (d.cells dd0 dd1).toArray] w (fun r w' => ∃ (b : Bool), r = (.bool b : Value) ∧ (b = false → FewD d) ∧ Sep G W Rs w') := by
 have hdd0s : _ * 24 ≤ _ := hdd0.small
 have hdd1s : _ * 40 ≤ _ := hdd1.small
 refine zr (args := [.agg (d.cells dd0 dd1).toArray]) Tryd.func70 rfl rfl ?_
 refine zd (za kr (fun _ => (st (zT (v := .agg (d.cells dd0 dd1).toArray) rfl ?_))))
 intro w3 b2 bW
 have H := hS0.new bW
 refine st (ze (v := .bool false) rfl (zf (zd (zd (zF kr (st (yo rfl (st (zg (v := dd0) Tryd.isAgg22 rfl (zh (H.blk (i := 0) rfl) rfl) (st (zJ (n := d.types.length) Tryd.underlying22 rfl hdd0.sl (st (zP (k := .i64) (a := ((d.types.length : Nat) : Int)) (b := 0) rfl rfl (st (zb (v := .bool (decide (((d.types.length : Nat) : Int) = 0))) rfl (stc (V := Ix b2 0) rfl rfl (fun bX => ?_) ?_))))))))))))))))
 have bx := bX
 have bx := fD bx
 exact yo rfl ⟨rfl, rfl⟩
 refine stc (V := dd0) rfl rfl (fun bz => ?_) ?_
 have bA := bz
 have bA := fD bA
 exact zg (v := dd0) Tryd.isAgg22 (show _ = (Ix b2 0 : Value) from (if_pos bz)) (zh (H.blk (i := 0) rfl) rfl) ⟨rfl, rfl⟩
 refine stc (V := Iw d.types.length) rfl rfl (fun bB => ?_) ?_
 have ac := bB
 have ac := fD ac
 exact zJ (n := d.types.length) Tryd.underlying22 (show _ = (dd0 : Value) from (if_pos bB)) hdd0.sl ⟨rfl, rfl⟩
 refine stc (V := .bool (decide (8 < ((d.types.length : Nat) : Int)))) rfl rfl (fun ad => ?_) ?_
 have ae := ad
 have ae := fD ae
 exact yT (k := .i64) (a := ((d.types.length : Nat) : Int)) (b := 8) (show _ = (Iw d.types.length : Value) from (if_pos ad)) rfl ⟨rfl, rfl⟩
 refine st (zG (b := decide (((d.types.length : Nat) : Int) = 0)) (b' := decide (8 < ((d.types.length : Nat) : Int))) rfl (fun hbp => (show _ = (.bool (decide (8 < ((d.types.length : Nat) : Int))) : Value) from (if_pos hbp))) (st (zb (v := .bool ((decide (((d.types.length : Nat) : Int) = 0)) || (decide (8 < ((d.types.length : Nat) : Int))))) rfl (stc (V := Ix b2 1) rfl rfl (fun bD => ?_) ?_))))
 have bE := bD
 try simp only [zj] at bE
 exact xS rfl ⟨rfl, rfl⟩
 refine stc (V := dd1) rfl rfl (fun af => ?_) ?_
 have bF := af
 try simp only [zj] at bF
 exact zg (v := dd1) Tryd.isAgg23 (show _ = (Ix b2 1 : Value) from (if_pos af)) (zh (H.blk (i := 0) rfl) rfl) ⟨rfl, rfl⟩
 refine stc (V := Iw d.projs.length) rfl rfl (fun ag => ?_) ?_
 have bG := ag
 try simp only [zj] at bG
 exact zJ (n := d.projs.length) Tryd.underlying23 (show _ = (dd1 : Value) from (if_pos ag)) hdd1.sl ⟨rfl, rfl⟩
 refine stc (V := .bool (decide (8 < ((d.projs.length : Nat) : Int)))) rfl rfl (fun ah => ?_) ?_
 have bH := ah
 try simp only [zj] at bH
 exact yT (k := .i64) (a := ((d.projs.length : Nat) : Int)) (b := 8) (show _ = (Iw d.projs.length : Value) from (if_pos ah)) rfl ⟨rfl, rfl⟩
 refine st (zG (b := (decide (((d.types.length : Nat) : Int) = 0)) || (decide (8 < ((d.types.length : Nat) : Int)))) (b' := decide (8 < ((d.projs.length : Nat) : Int))) rfl (fun hbp => (show _ = (.bool (decide (8 < ((d.projs.length : Nat) : Int))) : Value) from (if_pos hbp))) (zf ?_))
 cases ai : ((decide (((d.types.length : Nat) : Int) = 0)) || (decide (8 < ((d.types.length : Nat) : Int)))) || (decide (8 < ((d.projs.length : Nat) : Int)))
 try simp only [zj] at ai
 refine zn rfl (zv (zd (zd (za kr (fun _ => (st (ze (v := Iv 0) rfl (zf (zw (yd (fun mq σ wq => ∃ (k : Nat) (ρ : Env), mq = d.types.length - k ∧ σ = yh ρ [(1, Ix b2 0), (3, Iw k)] ∧ (k ≤ d.types.length) ∧ (∀ i, i < k → FewT (d.types.getD i default)) ∧ Sep G W ((Blk b2 (d.cells dd0 dd1).toArray 25) :: Rs) wq) ⟨0, _, rfl, zq ⟨rfl, rfl, trivial⟩, Nat.zero_le _, (fun i h => absurd h (Nat.not_lt_zero i)), H⟩ ?_))))))))))
 rintro m23 σ24 w22 ⟨k, ρl1, rfl, rfl, hkk, hm, o⟩
 refine zd (zd (za kr (fun _ => (st (zb (v := Iw k) rfl (st (yo rfl (st (zg (v := dd0) Tryd.isAgg22 rfl (zh (o.blk (i := 0) rfl) rfl) (st (zJ (n := d.types.length) Tryd.underlying22 rfl hdd0.sl (st (zL (k := .i64) (a := ((k : Nat) : Int)) (b := ((d.types.length : Nat) : Int)) rfl rfl (zf ?_))))))))))))))
 cases x : decide (((k : Nat) : Int) < ((d.types.length : Nat) : Int))
 have x := fD x
 refine zn rfl (yc (zU (zd (za kr (fun _ => (st (ze (v := .bool false) rfl (zf (zt (zO Tryd.results70 (show _ = (.bool false : Value) from rfl) ?_))))))))))
 have bJ := o.s1_
 refine ⟨false, rfl, ?_, bJ⟩
 intro I
 exact ⟨by omega, fun i hi => hm i om⟩
 have x := tD x
 refine zo rfl (zv (zd (zw (zd (za kr (fun _ => (st (yo rfl (st (zg (v := dd0) Tryd.isAgg22 rfl (zh (o.blk (i := 0) rfl) rfl) (st (zb (v := Iw k) rfl ?_))))))))))))
 have bK : k < d.types.length := bo
 refine st (zk (k := 1) (i := k) Tryd.underlying22 Tryd.sizeOf33 rfl hdd0.sl rfl bK (st (yA rfl ?_)))
 have J : k < d.types.length := bo
 obtain ⟨M, c, aj⟩ := hdd0.typ J
 rw [← zm default J] at M c aj
 have hsm31 : ((d.types.getD k default).fields).length * 48 ≤ 140737488355328 := c.small
 have aZ := o.cells M (hdd0.foot (ne_of_lt J))
 refine st (zg (v := (zi W (sb dd0) (so dd0 + k * 1 + 0))) Tryd.isAgg31 rfl (aZ.get (j := 0) rfl) (st (ze (v := (zi W (sb dd0) (so dd0 + k * 1 + 0))) rfl (zf (zd (zd (zF kr (st (zb (v := (zi W (sb dd0) (so dd0 + k * 1 + 0))) rfl (st (zJ (n := ((d.types.getD k default).fields).length) Tryd.underlying31 rfl c.sl (st (zP (k := .i64) (a := ((((d.types.getD k default).fields).length : Nat) : Int)) (b := 0) rfl rfl (st (zb (v := .bool (decide (((((d.types.getD k default).fields).length : Nat) : Int) = 0))) rfl (stc (V := (zi W (sb dd0) (so dd0 + k * 1 + 0))) rfl rfl (fun bL => ?_) ?_))))))))))))))))
 have ak := bL
 have ak := fD ak
 exact zb (v := (zi W (sb dd0) (so dd0 + k * 1 + 0))) rfl ⟨rfl, rfl⟩
 refine stc (V := Iw (((d.types.getD k default).fields).length)) rfl rfl (fun al => ?_) ?_
 have am := al
 have am := fD am
 exact zJ (n := ((d.types.getD k default).fields).length) Tryd.underlying31 (show _ = ((zi W (sb dd0) (so dd0 + k * 1 + 0)) : Value) from (if_pos al)) c.sl ⟨rfl, rfl⟩
 refine stc (V := .bool (decide (8 < ((((d.types.getD k default).fields).length : Nat) : Int)))) rfl rfl (fun an => ?_) ?_
 have ao := an
 have ao := fD ao
 exact yT (k := .i64) (a := ((((d.types.getD k default).fields).length : Nat) : Int)) (b := 8) (show _ = (Iw (((d.types.getD k default).fields).length) : Value) from (if_pos an)) rfl ⟨rfl, rfl⟩
 refine st (zG (b := decide (((((d.types.getD k default).fields).length : Nat) : Int) = 0)) (b' := decide (8 < ((((d.types.getD k default).fields).length : Nat) : Int))) rfl (fun hbp => (show _ = (.bool (decide (8 < ((((d.types.getD k default).fields).length : Nat) : Int))) : Value) from (if_pos hbp))) (zf ?_))
 cases ap : (decide (((((d.types.getD k default).fields).length : Nat) : Int) = 0)) || (decide (8 < ((((d.types.getD k default).fields).length : Nat) : Int)))
 try simp only [zj] at ap
 refine zn rfl (zv (zd (za kr (fun _ => (st (ze (v := Iv 0) rfl (zf (zw (yd (fun mq σ wq => ∃ (j : Nat) (ρ : Env), mq = (d.types.getD k default).fields.length - j ∧ σ = yh ρ [(1, Ix b2 0), (3, Iw k), (4, (zi W (sb dd0) (so dd0 + k * 1 + 0))), (5, Iw j)] ∧ (j ≤ (d.types.getD k default).fields.length) ∧ (∀ i, i < j → KB ((d.types.getD k default).fields.getD i default)) ∧ Sep G W ((Blk b2 (d.cells dd0 dd1).toArray 25) :: Rs) wq) ⟨0, _, rfl, zq ⟨rfl, rfl, rfl, rfl, trivial⟩, Nat.zero_le _, (fun i h => absurd h (Nat.not_lt_zero i)), o⟩ ?_)))))))))
 rintro m41 σ42 w40 ⟨j, ρl2, rfl, rfl, hkj, bC, f⟩
 refine zd (zd (za kr (fun _ => (st (zb (v := Iw j) rfl (st (zb (v := (zi W (sb dd0) (so dd0 + k * 1 + 0))) rfl (st (zJ (n := ((d.types.getD k default).fields).length) Tryd.underlying31 rfl c.sl (st (zL (k := .i64) (a := ((j : Nat) : Int)) (b := ((((d.types.getD k default).fields).length : Nat) : Int)) rfl rfl (zf ?_))))))))))))
 cases y : decide (((j : Nat) : Int) < ((((d.types.getD k default).fields).length : Nat) : Int))
 have y := fD y
 refine zn rfl (yc (zU (za kr (fun _ => (st (zb (v := Iw k) rfl ?_))))))
 have bM : InR ((k + 1 : Nat) : Int) := bo
 refine st (zV (r := ((k + 1 : Nat) : Int)) (k := .i64) (a := ((k : Nat) : Int)) (b := 1) rfl rfl (by rw [show (((k : Nat) : Int) + 1 : Int) = ((k + 1 : Nat) : Int) from bo]; exact zM bM) (st (ze (v := Iw (k + 1)) rfl (zf ?_))))
 exact ⟨_, by omega, k + 1, _, rfl, zq ⟨rfl, rfl, trivial⟩, by omega, (yW hm ⟨by omega, fun j9 I => bC j9 om⟩), f⟩
 have y := tD y
 refine zo rfl (zv (zd (zw (zd (zF kr (st (zb (v := (zi W (sb dd0) (so dd0 + k * 1 + 0))) rfl (st (zb (v := Iw j) rfl ?_)))))))))
 have bN : j < ((d.types.getD k default).fields).length := bo
 refine st (zk (k := 4) (i := j) Tryd.underlying31 Tryd.sizeOf79 rfl c.sl rfl bN (st (xb rfl ?_)))
 have m : j < ((d.types.getD k default).fields).length := bo
 obtain ⟨g, e, aq⟩ := c.fld m
 rw [← zm default m] at g e aq
 have hsm49 : ((((d.types.getD k default).fields).getD j default).moves).length * 32 ≤ 140737488355328 := e.small
 have ba := f.cells g (c.foot (ne_of_lt m))
 refine st (zg (v := Iv ((((d.types.getD k default).fields).getD j default).kind)) Tryd.isAgg3 rfl (ba.get (j := 0) rfl) (st (zP (k := .i64) (a := (((d.types.getD k default).fields).getD j default).kind) (b := 4) rfl rfl (st (zb (v := .bool (decide (((((d.types.getD k default).fields).getD j default).kind) = 4))) rfl (stc (V := (zi W (sb dd0) (so dd0 + k * 1 + 0))) rfl rfl (fun bO => ?_) ?_))))))
 have ar := bO
 have ar := tD ar
 exact zb (v := (zi W (sb dd0) (so dd0 + k * 1 + 0))) rfl ⟨rfl, rfl⟩
 refine stc (V := Iw j) rfl rfl (fun bP => ?_) ?_
 have au := bP
 have au := tD au
 exact zb (v := Iw j) rfl ⟨rfl, rfl⟩
 refine stc (V := Ix (sb (zi W (sb dd0) (so dd0 + k * 1 + 0))) (so (zi W (sb dd0) (so dd0 + k * 1 + 0)) + j * 4)) rfl rfl (fun K => ?_) ?_
 have av := K
 have av := tD av
 have bQ : j < ((d.types.getD k default).fields).length := bo
 exact zk (k := 4) (i := j) Tryd.underlying31 Tryd.sizeOf79 (show _ = ((zi W (sb dd0) (so dd0 + k * 1 + 0)) : Value) from (if_pos K)) c.sl (show _ = (Iw j : Value) from (if_pos K)) bQ ⟨rfl, rfl⟩
 refine stc (V := Ix (sb (zi W (sb dd0) (so dd0 + k * 1 + 0))) (so (zi W (sb dd0) (so dd0 + k * 1 + 0)) + j * 4 + 3)) rfl rfl (fun aw => ?_) ?_
 have ax := aw
 have ax := tD ax
 exact yz (show _ = (Ix (sb (zi W (sb dd0) (so dd0 + k * 1 + 0))) (so (zi W (sb dd0) (so dd0 + k * 1 + 0)) + j * 4) : Value) from (if_pos aw)) ⟨rfl, rfl⟩
 refine stc (V := (zi W (sb (zi W (sb dd0) (so dd0 + k * 1 + 0))) (so (zi W (sb dd0) (so dd0 + k * 1 + 0)) + j * 4 + 3))) rfl rfl (fun ay => ?_) ?_
 have az := ay
 have az := tD az
 have bb := f.cells g (c.foot (ne_of_lt m))
 exact zg (v := (zi W (sb (zi W (sb dd0) (so dd0 + k * 1 + 0))) (so (zi W (sb dd0) (so dd0 + k * 1 + 0)) + j * 4 + 3))) Tryd.isAgg77 (show _ = (Ix (sb (zi W (sb dd0) (so dd0 + k * 1 + 0))) (so (zi W (sb dd0) (so dd0 + k * 1 + 0)) + j * 4 + 3) : Value) from (if_pos ay)) (bb.get (j := 3) rfl) ⟨rfl, rfl⟩
 refine stc (V := Iw (((((d.types.getD k default).fields).getD j default).moves).length)) rfl rfl (fun aA => ?_) ?_
 have aB := aA
 have aB := tD aB
 exact zJ (n := ((((d.types.getD k default).fields).getD j default).moves).length) Tryd.underlying77 (show _ = ((zi W (sb (zi W (sb dd0) (so dd0 + k * 1 + 0))) (so (zi W (sb dd0) (so dd0 + k * 1 + 0)) + j * 4 + 3)) : Value) from (if_pos aA)) e.sl ⟨rfl, rfl⟩
 refine stc (V := .bool (decide (((((((d.types.getD k default).fields).getD j default).moves).length : Nat) : Int) = 0))) rfl rfl (fun aC => ?_) ?_
 have aD := aC
 have aD := tD aD
 exact zP (k := .i64) (a := ((((((d.types.getD k default).fields).getD j default).moves).length : Nat) : Int)) (b := 0) (show _ = (Iw (((((d.types.getD k default).fields).getD j default).moves).length) : Value) from (if_pos aC)) rfl ⟨rfl, rfl⟩
 refine stc (V := .bool (decide (((((((d.types.getD k default).fields).getD j default).moves).length : Nat) : Int) = 0))) rfl rfl (fun aE => ?_) ?_
 have aF := aE
 have aF := tD aF
 exact zb (v := .bool (decide (((((((d.types.getD k default).fields).getD j default).moves).length : Nat) : Int) = 0))) (show _ = (.bool (decide (((((((d.types.getD k default).fields).getD j default).moves).length : Nat) : Int) = 0)) : Value) from (if_pos aE)) ⟨rfl, rfl⟩
 refine yI (V := (zi W (sb dd0) (so dd0 + k * 1 + 0))) rfl rfl (fun aG => ?_) ?_
 have aH := aG.1
 have aH := tD aH
 have aI := aG.2
 have aI := fD aI
 exact zb (v := (zi W (sb dd0) (so dd0 + k * 1 + 0))) rfl ⟨rfl, rfl⟩
 refine yI (V := Iw j) rfl rfl (fun aJ => ?_) ?_
 have aK := aJ.1
 have aK := tD aK
 have aL := aJ.2
 have aL := fD aL
 exact zb (v := Iw j) rfl ⟨rfl, rfl⟩
 refine yI (V := Ix (sb (zi W (sb dd0) (so dd0 + k * 1 + 0))) (so (zi W (sb dd0) (so dd0 + k * 1 + 0)) + j * 4)) rfl rfl (fun p => ?_) ?_
 have aM := p.1
 have aM := tD aM
 have aN := p.2
 have aN := fD aN
 have bR : j < ((d.types.getD k default).fields).length := bo
 exact zk (k := 4) (i := j) Tryd.underlying31 Tryd.sizeOf79 (show _ = ((zi W (sb dd0) (so dd0 + k * 1 + 0)) : Value) from (if_pos ⟨p.1, p.2⟩)) c.sl (show _ = (Iw j : Value) from (if_pos ⟨p.1, p.2⟩)) bR ⟨rfl, rfl⟩
 refine yI (V := Ix (sb (zi W (sb dd0) (so dd0 + k * 1 + 0))) (so (zi W (sb dd0) (so dd0 + k * 1 + 0)) + j * 4 + 3)) rfl rfl (fun z => ?_) ?_
 have aO := z.1
 have aO := tD aO
 have aP := z.2
 have aP := fD aP
 exact yz (show _ = (Ix (sb (zi W (sb dd0) (so dd0 + k * 1 + 0))) (so (zi W (sb dd0) (so dd0 + k * 1 + 0)) + j * 4) : Value) from (if_pos ⟨z.1, z.2⟩)) ⟨rfl, rfl⟩
 refine yI (V := (zi W (sb (zi W (sb dd0) (so dd0 + k * 1 + 0))) (so (zi W (sb dd0) (so dd0 + k * 1 + 0)) + j * 4 + 3))) rfl rfl (fun A => ?_) ?_
 have aQ := A.1
 have aQ := tD aQ
 have aR := A.2
 have aR := fD aR
 have bc := f.cells g (c.foot (ne_of_lt m))
 exact zg (v := (zi W (sb (zi W (sb dd0) (so dd0 + k * 1 + 0))) (so (zi W (sb dd0) (so dd0 + k * 1 + 0)) + j * 4 + 3))) Tryd.isAgg77 (show _ = (Ix (sb (zi W (sb dd0) (so dd0 + k * 1 + 0))) (so (zi W (sb dd0) (so dd0 + k * 1 + 0)) + j * 4 + 3) : Value) from (if_pos ⟨A.1, A.2⟩)) (bc.get (j := 3) rfl) ⟨rfl, rfl⟩
 refine yI (V := Iw (((((d.types.getD k default).fields).getD j default).moves).length)) rfl rfl (fun B => ?_) ?_
 have aS := B.1
 have aS := tD aS
 have aT := B.2
 have aT := fD aT
 exact zJ (n := ((((d.types.getD k default).fields).getD j default).moves).length) Tryd.underlying77 (show _ = ((zi W (sb (zi W (sb dd0) (so dd0 + k * 1 + 0))) (so (zi W (sb dd0) (so dd0 + k * 1 + 0)) + j * 4 + 3)) : Value) from (if_pos ⟨B.1, B.2⟩)) e.sl ⟨rfl, rfl⟩
 refine yI (V := .bool (decide (16 < ((((((d.types.getD k default).fields).getD j default).moves).length : Nat) : Int)))) rfl rfl (fun C => ?_) ?_
 have aU := C.1
 have aU := tD aU
 have aV := C.2
 have aV := fD aV
 exact yT (k := .i64) (a := ((((((d.types.getD k default).fields).getD j default).moves).length : Nat) : Int)) (b := 16) (show _ = (Iw (((((d.types.getD k default).fields).getD j default).moves).length) : Value) from (if_pos ⟨C.1, C.2⟩)) rfl ⟨rfl, rfl⟩
 refine stc (V := .bool ((decide (((((((d.types.getD k default).fields).getD j default).moves).length : Nat) : Int) = 0)) || (decide (16 < ((((((d.types.getD k default).fields).getD j default).moves).length : Nat) : Int))))) rfl rfl (fun L => ?_) ?_
 have aW := L
 have aW := tD aW
 exact zG (b := decide (((((((d.types.getD k default).fields).getD j default).moves).length : Nat) : Int) = 0)) (b' := decide (16 < ((((((d.types.getD k default).fields).getD j default).moves).length : Nat) : Int))) (show _ = (.bool (decide (((((((d.types.getD k default).fields).getD j default).moves).length : Nat) : Int) = 0)) : Value) from (if_pos L)) (fun hbp => (show _ = (.bool (decide (16 < ((((((d.types.getD k default).fields).getD j default).moves).length : Nat) : Int))) : Value) from (if_pos ⟨L, hbp⟩))) ⟨rfl, rfl⟩
 refine st (zx (b := decide (((((d.types.getD k default).fields).getD j default).kind) = 4)) (b' := (decide (((((((d.types.getD k default).fields).getD j default).moves).length : Nat) : Int) = 0)) || (decide (16 < ((((((d.types.getD k default).fields).getD j default).moves).length : Nat) : Int)))) rfl (fun hbp => (show _ = (.bool ((decide (((((((d.types.getD k default).fields).getD j default).moves).length : Nat) : Int) = 0)) || (decide (16 < ((((((d.types.getD k default).fields).getD j default).moves).length : Nat) : Int)))) : Value) from (if_pos hbp))) (st (zb (v := .bool ((decide (((((d.types.getD k default).fields).getD j default).kind) = 4)) && ((decide (((((((d.types.getD k default).fields).getD j default).moves).length : Nat) : Int) = 0)) || (decide (16 < ((((((d.types.getD k default).fields).getD j default).moves).length : Nat) : Int)))))) rfl (stc (V := (zi W (sb dd0) (so dd0 + k * 1 + 0))) rfl rfl (fun bS => ?_) ?_))))
 have bT := bS
 try simp only [zj] at bT
 exact zb (v := (zi W (sb dd0) (so dd0 + k * 1 + 0))) rfl ⟨rfl, rfl⟩
 refine stc (V := Iw j) rfl rfl (fun bU => ?_) ?_
 have bV := bU
 try simp only [zj] at bV
 exact zb (v := Iw j) rfl ⟨rfl, rfl⟩
 refine stc (V := Ix (sb (zi W (sb dd0) (so dd0 + k * 1 + 0))) (so (zi W (sb dd0) (so dd0 + k * 1 + 0)) + j * 4)) rfl rfl (fun D => ?_) ?_
 have bd := D
 try simp only [zj] at bd
 have be : j < ((d.types.getD k default).fields).length := bo
 exact zk (k := 4) (i := j) Tryd.underlying31 Tryd.sizeOf79 (show _ = ((zi W (sb dd0) (so dd0 + k * 1 + 0)) : Value) from (if_pos D)) c.sl (show _ = (Iw j : Value) from (if_pos D)) be ⟨rfl, rfl⟩
 refine stc (V := Ix (sb (zi W (sb dd0) (so dd0 + k * 1 + 0))) (so (zi W (sb dd0) (so dd0 + k * 1 + 0)) + j * 4)) rfl rfl (fun N => ?_) ?_
 have bf := N
 try simp only [zj] at bf
 exact xb (show _ = (Ix (sb (zi W (sb dd0) (so dd0 + k * 1 + 0))) (so (zi W (sb dd0) (so dd0 + k * 1 + 0)) + j * 4) : Value) from (if_pos N)) ⟨rfl, rfl⟩
 refine stc (V := Iv ((((d.types.getD k default).fields).getD j default).kind)) rfl rfl (fun O => ?_) ?_
 have bg := O
 try simp only [zj] at bg
 have aX := f.cells g (c.foot (ne_of_lt m))
 exact zg (v := Iv ((((d.types.getD k default).fields).getD j default).kind)) Tryd.isAgg3 (show _ = (Ix (sb (zi W (sb dd0) (so dd0 + k * 1 + 0))) (so (zi W (sb dd0) (so dd0 + k * 1 + 0)) + j * 4) : Value) from (if_pos O)) (aX.get (j := 0) rfl) ⟨rfl, rfl⟩
 refine stc (V := .bool (!decide (((((d.types.getD k default).fields).getD j default).kind) = 4))) rfl rfl (fun P => ?_) ?_
 have bh := P
 try simp only [zj] at bh
 exact yq (k := .i64) (a := (((d.types.getD k default).fields).getD j default).kind) (b := 4) (show _ = (Iv ((((d.types.getD k default).fields).getD j default).kind) : Value) from (if_pos P)) rfl ⟨rfl, rfl⟩
 refine stc (V := .bool (!decide (((((d.types.getD k default).fields).getD j default).kind) = 4))) rfl rfl (fun Q => ?_) ?_
 have bi := Q
 try simp only [zj] at bi
 exact zb (v := .bool (!decide (((((d.types.getD k default).fields).getD j default).kind) = 4))) (show _ = (.bool (!decide (((((d.types.getD k default).fields).getD j default).kind) = 4)) : Value) from (if_pos Q)) ⟨rfl, rfl⟩
 refine yI (V := (zi W (sb dd0) (so dd0 + k * 1 + 0))) rfl rfl (fun R => ?_) ?_
 have bj := R.1
 try simp only [zj] at bj
 have S := R.2
 have S := zR S
 exact zb (v := (zi W (sb dd0) (so dd0 + k * 1 + 0))) rfl ⟨rfl, rfl⟩
 refine yI (V := Iw j) rfl rfl (fun T => ?_) ?_
 have bk := T.1
 try simp only [zj] at bk
 have U := T.2
 have U := zR U
 exact zb (v := Iw j) rfl ⟨rfl, rfl⟩
 refine yI (V := Ix (sb (zi W (sb dd0) (so dd0 + k * 1 + 0))) (so (zi W (sb dd0) (so dd0 + k * 1 + 0)) + j * 4)) rfl rfl (fun l => ?_) ?_
 have bl := l.1
 try simp only [zj] at bl
 have X := l.2
 have X := zR X
 have bm : j < ((d.types.getD k default).fields).length := bo
 exact zk (k := 4) (i := j) Tryd.underlying31 Tryd.sizeOf79 (show _ = ((zi W (sb dd0) (so dd0 + k * 1 + 0)) : Value) from (if_pos ⟨l.1, l.2⟩)) c.sl (show _ = (Iw j : Value) from (if_pos ⟨l.1, l.2⟩)) bm ⟨rfl, rfl⟩
 refine yI (V := Ix (sb (zi W (sb dd0) (so dd0 + k * 1 + 0))) (so (zi W (sb dd0) (so dd0 + k * 1 + 0)) + j * 4 + 3)) rfl rfl (fun q => ?_) ?_
 have bn := q.1
 try simp only [zj] at bn
 have Y := q.2
 have Y := zR Y
 exact yz (show _ = (Ix (sb (zi W (sb dd0) (so dd0 + k * 1 + 0))) (so (zi W (sb dd0) (so dd0 + k * 1 + 0)) + j * 4) : Value) from (if_pos ⟨q.1, q.2⟩)) ⟨rfl, rfl⟩
 refine yI (V := (zi W (sb (zi W (sb dd0) (so dd0 + k * 1 + 0))) (so (zi W (sb dd0) (so dd0 + k * 1 + 0)) + j * 4 + 3))) rfl rfl (fun s => ?_) ?_
 have bp := s.1
 try simp only [zj] at bp
 have Z := s.2
 have Z := zR Z
 have aY := f.cells g (c.foot (ne_of_lt m))
 exact zg (v := (zi W (sb (zi W (sb dd0) (so dd0 + k * 1 + 0))) (so (zi W (sb dd0) (so dd0 + k * 1 + 0)) + j * 4 + 3))) Tryd.isAgg77 (show _ = (Ix (sb (zi W (sb dd0) (so dd0 + k * 1 + 0))) (so (zi W (sb dd0) (so dd0 + k * 1 + 0)) + j * 4 + 3) : Value) from (if_pos ⟨s.1, s.2⟩)) (aY.get (j := 3) rfl) ⟨rfl, rfl⟩
 refine yI (V := Iw (((((d.types.getD k default).fields).getD j default).moves).length)) rfl rfl (fun t => ?_) ?_
 have bq := t.1
 try simp only [zj] at bq
 have aa := t.2
 have aa := zR aa
 exact zJ (n := ((((d.types.getD k default).fields).getD j default).moves).length) Tryd.underlying77 (show _ = ((zi W (sb (zi W (sb dd0) (so dd0 + k * 1 + 0))) (so (zi W (sb dd0) (so dd0 + k * 1 + 0)) + j * 4 + 3)) : Value) from (if_pos ⟨t.1, t.2⟩)) e.sl ⟨rfl, rfl⟩
 refine yI (V := .bool (!decide (((((((d.types.getD k default).fields).getD j default).moves).length : Nat) : Int) = 0))) rfl rfl (fun u => ?_) ?_
 have br := u.1
 try simp only [zj] at br
 have ab := u.2
 have ab := zR ab
 exact yq (k := .i64) (a := ((((((d.types.getD k default).fields).getD j default).moves).length : Nat) : Int)) (b := 0) (show _ = (Iw (((((d.types.getD k default).fields).getD j default).moves).length) : Value) from (if_pos ⟨u.1, u.2⟩)) rfl ⟨rfl, rfl⟩
 refine stc (V := .bool ((!decide (((((d.types.getD k default).fields).getD j default).kind) = 4)) && (!decide (((((((d.types.getD k default).fields).getD j default).moves).length : Nat) : Int) = 0)))) rfl rfl (fun E => ?_) ?_
 have bs := E
 try simp only [zj] at bs
 exact zx (b := !decide (((((d.types.getD k default).fields).getD j default).kind) = 4)) (b' := !decide (((((((d.types.getD k default).fields).getD j default).moves).length : Nat) : Int) = 0)) (show _ = (.bool (!decide (((((d.types.getD k default).fields).getD j default).kind) = 4)) : Value) from (if_pos E)) (fun hbp => (show _ = (.bool (!decide (((((((d.types.getD k default).fields).getD j default).moves).length : Nat) : Int) = 0)) : Value) from (if_pos ⟨E, hbp⟩))) ⟨rfl, rfl⟩
 refine st (zG (b := (decide (((((d.types.getD k default).fields).getD j default).kind) = 4)) && ((decide (((((((d.types.getD k default).fields).getD j default).moves).length : Nat) : Int) = 0)) || (decide (16 < ((((((d.types.getD k default).fields).getD j default).moves).length : Nat) : Int))))) (b' := (!decide (((((d.types.getD k default).fields).getD j default).kind) = 4)) && (!decide (((((((d.types.getD k default).fields).getD j default).moves).length : Nat) : Int) = 0))) rfl (fun hbp => (show _ = (.bool ((!decide (((((d.types.getD k default).fields).getD j default).kind) = 4)) && (!decide (((((((d.types.getD k default).fields).getD j default).moves).length : Nat) : Int) = 0))) : Value) from (if_pos hbp))) (zf ?_))
 cases F : ((decide (((((d.types.getD k default).fields).getD j default).kind) = 4)) && ((decide (((((((d.types.getD k default).fields).getD j default).moves).length : Nat) : Int) = 0)) || (decide (16 < ((((((d.types.getD k default).fields).getD j default).moves).length : Nat) : Int))))) || ((!decide (((((d.types.getD k default).fields).getD j default).kind) = 4)) && (!decide (((((((d.types.getD k default).fields).getD j default).moves).length : Nat) : Int) = 0)))
 try simp only [zj] at F
 refine zn rfl (zv (za kr (fun _ => (st (zb (v := Iw j) rfl ?_)))))
 have bt : InR ((j + 1 : Nat) : Int) := bo
 refine st (zV (r := ((j + 1 : Nat) : Int)) (k := .i64) (a := ((j : Nat) : Int)) (b := 1) rfl rfl (by rw [show (((j : Nat) : Int) + 1 : Int) = ((j + 1 : Nat) : Int) from bo]; exact zM bt) (st (ze (v := Iw (j + 1)) rfl (zf ?_))))
 exact ⟨_, by omega, j + 1, _, rfl, zq ⟨rfl, rfl, rfl, rfl, trivial⟩, by omega, (yW bC (by unfold KB; have I := F; omega)), f⟩
 try simp only [zj] at F
 refine zo rfl (zd (za kr (fun _ => (st (ze (v := .bool true) rfl (zf (zt (zO Tryd.results70 (show _ = (.bool true : Value) from rfl) ?_))))))))
 have bu := f.s1_
 refine ⟨true, rfl, ?_, bu⟩
 intro I
 exact absurd I dc
 try simp only [zj] at ap
 refine zo rfl (zd (za kr (fun _ => (st (ze (v := .bool true) rfl (zf (zt (zO Tryd.results70 (show _ = (.bool true : Value) from rfl) ?_))))))))
 have bv := o.s1_
 refine ⟨true, rfl, ?_, bv⟩
 intro I
 exact absurd I dc
 try simp only [zj] at ai
 refine zo rfl (zd (za kr (fun _ => (st (ze (v := .bool true) rfl (zf (zt (zO Tryd.results70 (show _ = (.bool true : Value) from rfl) ?_))))))))
 have bw := H.s1_
 refine ⟨true, rfl, ?_, bw⟩
 intro I
 exact absurd I dc

end Go.Proofs.YtlblilbmpdejgaaDoor
/- Steps of the proofs of this seat: part C7. -/
set_option maxRecDepth 8000
namespace Go.Proofs.YtlblilbmpdejgaaDoor
open Go.Proofs Go.RowKit

theorem ZP {d : Option Tmp} {ty : TypeId} {pos : String} {af : Array Edge} {g : Option (Nat × Bool)} {σ : Env} {w : World} {K : Value → World → Prop} {x : Operand} {b o : Nat} (hx : ev σ x = .pointer (some ⟨b, o, none⟩)) (h : K (.pointer (some ⟨b, o + 1, none⟩)) w) : opV Tryd.prog ⟨d, .fieldAddr 79 x 1, ty, pos, af, g⟩ σ w K := zA Tryd.underlying79 rfl rfl (fun w => ⟨0, Tryd.sizeOf3 w⟩) hx h
theorem D_one {G : Nat → Prop} {W w : World} {Rs : List HP} {t : Typ} {dt0 : Value} (hdt0 : RdS W G dt0 t.fields) (ot : t.Ok) {f : Fld} {df0 : Value} (hdf0 : RdS W G df0 f.moves) (of : f.Ok) (hS0 : Sep G W Rs w) : Ret Tryd.prog 71 [.agg (t.cells dt0).toArray, .agg (f.cells df0).toArray] w (fun r w' => ∃ (e : Int), r = (.int .i64 (e) : Value) ∧ (InR e) ∧ (e = 0 → Ww t f) ∧ Sep G W Rs w') := by
 have hdt0s : _ * 48 ≤ _ := hdt0.small
 have hdf0s : _ * 32 ≤ _ := hdf0.small
 refine zr (args := [.agg (t.cells dt0).toArray, .agg (f.cells df0).toArray]) Tryd.func71 rfl rfl ?_
 refine zd (za kr (fun _ => (st (zT (v := .agg (t.cells dt0).toArray) rfl ?_))))
 intro w3 b2 cQ
 have cR := hS0.new cQ
 refine st (zT (v := .agg (f.cells df0).toArray) rfl ?_)
 intro w7 g cS
 have l := cR.new cS
 refine st (ze (v := Iv 0) rfl (zf (zd (zd (zF kr (st (xb rfl (st (zg (v := Iv (f.kind)) Tryd.isAgg3 rfl (zh (l.blk (i := 0) rfl) rfl) (st (zL (k := .i64) (a := f.kind) (b := 1) rfl rfl (st (zb (v := .bool (decide (f.kind < 1))) rfl (stc (V := Ix g 0) rfl rfl (fun cT => ?_) ?_))))))))))))))
 have aU := cT
 have aU := fD aU
 exact xb rfl ⟨rfl, rfl⟩
 refine stc (V := Iv (f.kind)) rfl rfl (fun aV => ?_) ?_
 have aW := aV
 have aW := fD aW
 exact zg (v := Iv (f.kind)) Tryd.isAgg3 (show _ = (Ix g 0 : Value) from (if_pos aV)) (zh (l.blk (i := 0) rfl) rfl) ⟨rfl, rfl⟩
 refine stc (V := .bool (decide (4 < f.kind))) rfl rfl (fun aX => ?_) ?_
 have aY := aX
 have aY := fD aY
 exact yT (k := .i64) (a := f.kind) (b := 4) (show _ = (Iv (f.kind) : Value) from (if_pos aX)) rfl ⟨rfl, rfl⟩
 refine st (zG (b := decide (f.kind < 1)) (b' := decide (4 < f.kind)) rfl (fun hbp => (show _ = (.bool (decide (4 < f.kind)) : Value) from (if_pos hbp))) (zf ?_))
 cases aZ : (decide (f.kind < 1)) || (decide (4 < f.kind))
 try simp only [zj] at aZ
 refine zn rfl (zv (zd (zF kr (st (ZP rfl (st (zg (v := Iv (f.policy)) Tryd.isAgg3 rfl (zh (l.blk (i := 0) rfl) rfl) (st (zP (k := .i64) (a := f.policy) (b := 1) rfl rfl (st (zb (v := .bool (decide (f.policy = 1))) rfl (stc (V := Ix g 1) rfl rfl (fun cu => ?_) ?_))))))))))))
 have ba := cu
 have ba := fD ba
 exact ZP rfl ⟨rfl, rfl⟩
 refine stc (V := Iv (f.policy)) rfl rfl (fun bb => ?_) ?_
 have bc := bb
 have bc := fD bc
 exact zg (v := Iv (f.policy)) Tryd.isAgg3 (show _ = (Ix g 1 : Value) from (if_pos bb)) (zh (l.blk (i := 0) rfl) rfl) ⟨rfl, rfl⟩
 refine stc (V := .bool (decide (f.policy = 2))) rfl rfl (fun bd => ?_) ?_
 have be := bd
 have be := fD be
 exact zP (k := .i64) (a := f.policy) (b := 2) (show _ = (Iv (f.policy) : Value) from (if_pos bd)) rfl ⟨rfl, rfl⟩
 refine stc (V := .bool (decide (f.policy = 2))) rfl rfl (fun bf => ?_) ?_
 have bg := bf
 have bg := fD bg
 exact zb (v := .bool (decide (f.policy = 2))) (show _ = (.bool (decide (f.policy = 2)) : Value) from (if_pos bf)) ⟨rfl, rfl⟩
 refine yI (V := Ix g 0) rfl rfl (fun bh => ?_) ?_
 have bi := bh.1
 have bi := fD bi
 have bj := bh.2
 have bj := tD bj
 exact xb rfl ⟨rfl, rfl⟩
 refine yI (V := Iv (f.kind)) rfl rfl (fun I => ?_) ?_
 have bk := I.1
 have bk := fD bk
 have bl := I.2
 have bl := tD bl
 exact zg (v := Iv (f.kind)) Tryd.isAgg3 (show _ = (Ix g 0 : Value) from (if_pos ⟨I.1, I.2⟩)) (zh (l.blk (i := 0) rfl) rfl) ⟨rfl, rfl⟩
 refine yI (V := .bool (!decide (f.kind = 1))) rfl rfl (fun J => ?_) ?_
 have bm := J.1
 have bm := fD bm
 have bn := J.2
 have bn := tD bn
 exact yq (k := .i64) (a := f.kind) (b := 1) (show _ = (Iv (f.kind) : Value) from (if_pos ⟨J.1, J.2⟩)) rfl ⟨rfl, rfl⟩
 refine stc (V := .bool ((decide (f.policy = 2)) && (!decide (f.kind = 1)))) rfl rfl (fun af => ?_) ?_
 have bp := af
 have bp := fD bp
 exact zx (b := decide (f.policy = 2)) (b' := !decide (f.kind = 1)) (show _ = (.bool (decide (f.policy = 2)) : Value) from (if_pos af)) (fun hbp => (show _ = (.bool (!decide (f.kind = 1)) : Value) from (if_pos ⟨af, hbp⟩))) ⟨rfl, rfl⟩
 refine st (zG (b := decide (f.policy = 1)) (b' := (decide (f.policy = 2)) && (!decide (f.kind = 1))) rfl (fun hbp => (show _ = (.bool ((decide (f.policy = 2)) && (!decide (f.kind = 1))) : Value) from (if_pos hbp))) (st (zb (v := .bool ((decide (f.policy = 1)) || ((decide (f.policy = 2)) && (!decide (f.kind = 1))))) rfl (stc (V := Ix g 1) rfl rfl (fun cv => ?_) ?_))))
 have cw := cv
 try simp only [zj] at cw
 exact ZP rfl ⟨rfl, rfl⟩
 refine stc (V := Iv (f.policy)) rfl rfl (fun bq => ?_) ?_
 have cx := bq
 try simp only [zj] at cx
 exact zg (v := Iv (f.policy)) Tryd.isAgg3 (show _ = (Ix g 1 : Value) from (if_pos bq)) (zh (l.blk (i := 0) rfl) rfl) ⟨rfl, rfl⟩
 refine stc (V := .bool (decide (f.policy = 3))) rfl rfl (fun br => ?_) ?_
 have cy := br
 try simp only [zj] at cy
 exact zP (k := .i64) (a := f.policy) (b := 3) (show _ = (Iv (f.policy) : Value) from (if_pos br)) rfl ⟨rfl, rfl⟩
 refine stc (V := .bool (decide (f.policy = 3))) rfl rfl (fun bs => ?_) ?_
 have cz := bs
 try simp only [zj] at cz
 exact zb (v := .bool (decide (f.policy = 3))) (show _ = (.bool (decide (f.policy = 3)) : Value) from (if_pos bs)) ⟨rfl, rfl⟩
 refine yI (V := Ix g 0) rfl rfl (fun bt => ?_) ?_
 have cA := bt.1
 try simp only [zj] at cA
 have bu := bt.2
 have bu := tD bu
 exact xb rfl ⟨rfl, rfl⟩
 refine yI (V := Iv (f.kind)) rfl rfl (fun K => ?_) ?_
 have cB := K.1
 try simp only [zj] at cB
 have bv := K.2
 have bv := tD bv
 exact zg (v := Iv (f.kind)) Tryd.isAgg3 (show _ = (Ix g 0 : Value) from (if_pos ⟨K.1, K.2⟩)) (zh (l.blk (i := 0) rfl) rfl) ⟨rfl, rfl⟩
 refine yI (V := .bool (decide (f.kind = 2))) rfl rfl (fun L => ?_) ?_
 have cC := L.1
 try simp only [zj] at cC
 have bw := L.2
 have bw := tD bw
 exact zP (k := .i64) (a := f.kind) (b := 2) (show _ = (Iv (f.kind) : Value) from (if_pos ⟨L.1, L.2⟩)) rfl ⟨rfl, rfl⟩
 refine stc (V := .bool ((decide (f.policy = 3)) && (decide (f.kind = 2)))) rfl rfl (fun ag => ?_) ?_
 have cD := ag
 try simp only [zj] at cD
 exact zx (b := decide (f.policy = 3)) (b' := decide (f.kind = 2)) (show _ = (.bool (decide (f.policy = 3)) : Value) from (if_pos ag)) (fun hbp => (show _ = (.bool (decide (f.kind = 2)) : Value) from (if_pos ⟨ag, hbp⟩))) ⟨rfl, rfl⟩
 refine st (zG (b := (decide (f.policy = 1)) || ((decide (f.policy = 2)) && (!decide (f.kind = 1)))) (b' := (decide (f.policy = 3)) && (decide (f.kind = 2))) rfl (fun hbp => (show _ = (.bool ((decide (f.policy = 3)) && (decide (f.kind = 2))) : Value) from (if_pos hbp))) (st (ze (v := .bool (((decide (f.policy = 1)) || ((decide (f.policy = 2)) && (!decide (f.kind = 1)))) || ((decide (f.policy = 3)) && (decide (f.kind = 2))))) rfl (zf (zd (zd (zF kr (st (zb (v := .bool (((decide (f.policy = 1)) || ((decide (f.policy = 2)) && (!decide (f.kind = 1)))) || ((decide (f.policy = 3)) && (decide (f.kind = 2))))) rfl (st (yt (a := ((decide (f.policy = 1)) || ((decide (f.policy = 2)) && (!decide (f.kind = 1)))) || ((decide (f.policy = 3)) && (decide (f.kind = 2)))) rfl (st (zb (v := .bool (!(((decide (f.policy = 1)) || ((decide (f.policy = 2)) && (!decide (f.kind = 1)))) || ((decide (f.policy = 3)) && (decide (f.kind = 2)))))) rfl (stc (V := Ix g 2) rfl rfl (fun cE => ?_) ?_))))))))))))))
 have cF := cE
 try simp only [zj] at cF
 exact XR rfl ⟨rfl, rfl⟩
 refine stc (V := .bool (f.floor)) rfl rfl (fun bx => ?_) ?_
 have cG := bx
 try simp only [zj] at cG
 exact zg (v := .bool (f.floor)) Tryd.isAgg4 (show _ = (Ix g 2 : Value) from (if_pos bx)) (zh (l.blk (i := 0) rfl) rfl) ⟨rfl, rfl⟩
 refine stc (V := .bool (f.floor)) rfl rfl (fun bz => ?_) ?_
 have cH := bz
 try simp only [zj] at cH
 exact zb (v := .bool (f.floor)) (show _ = (.bool (f.floor) : Value) from (if_pos bz)) ⟨rfl, rfl⟩
 refine yI (V := Ix g 0) rfl rfl (fun bA => ?_) ?_
 have cI := bA.1
 try simp only [zj] at cI
 have hl62 := bA.2
 exact xb rfl ⟨rfl, rfl⟩
 refine yI (V := Iv (f.kind)) rfl rfl (fun M => ?_) ?_
 have cJ := M.1
 try simp only [zj] at cJ
 have hl65 := M.2
 exact zg (v := Iv (f.kind)) Tryd.isAgg3 (show _ = (Ix g 0 : Value) from (if_pos ⟨M.1, M.2⟩)) (zh (l.blk (i := 0) rfl) rfl) ⟨rfl, rfl⟩
 refine yI (V := .bool (!decide (f.kind = 1))) rfl rfl (fun N => ?_) ?_
 have cK := N.1
 try simp only [zj] at cK
 have hl68 := N.2
 exact yq (k := .i64) (a := f.kind) (b := 1) (show _ = (Iv (f.kind) : Value) from (if_pos ⟨N.1, N.2⟩)) rfl ⟨rfl, rfl⟩
 refine stc (V := .bool (f.floor && (!decide (f.kind = 1)))) rfl rfl (fun ah => ?_) ?_
 have cL := ah
 try simp only [zj] at cL
 exact zx (b := f.floor) (b' := !decide (f.kind = 1)) (show _ = (.bool (f.floor) : Value) from (if_pos ah)) (fun hbp => (show _ = (.bool (!decide (f.kind = 1)) : Value) from (if_pos ⟨ah, hbp⟩))) ⟨rfl, rfl⟩
 refine st (zG (b := !(((decide (f.policy = 1)) || ((decide (f.policy = 2)) && (!decide (f.kind = 1)))) || ((decide (f.policy = 3)) && (decide (f.kind = 2))))) (b' := f.floor && (!decide (f.kind = 1))) rfl (fun hbp => (show _ = (.bool (f.floor && (!decide (f.kind = 1))) : Value) from (if_pos hbp))) (zf ?_))
 cases ai : (!(((decide (f.policy = 1)) || ((decide (f.policy = 2)) && (!decide (f.kind = 1)))) || ((decide (f.policy = 3)) && (decide (f.kind = 2))))) || (f.floor && (!decide (f.kind = 1)))
 try simp only [zj] at ai
 have hfl : f.floor = true → f.kind = 1 := by
  intro E
  rcases ai.2 with h7 | h7
  · rw [E] at h7; cases h7
  · exact h7
 refine zn rfl (zv (zd (zd (za kr (fun _ => (st (ze (v := Iv 0) rfl (zf (zw (yd (fun mq σ wq => ∃ (k : Nat) (ρ : Env), mq = f.moves.length - k ∧ σ = yh ρ [(2, Ix b2 0), (3, Ix g 0), (6, Iw k)] ∧ (k ≤ f.moves.length) ∧ Sep G W ((Blk g (f.cells df0).toArray 79) :: (Blk b2 (t.cells dt0).toArray 33) :: Rs) wq) ⟨0, _, rfl, zq ⟨rfl, rfl, rfl, trivial⟩, Nat.zero_le _, l⟩ ?_))))))))))
 rintro m73 σ74 w72 ⟨k, ρl1, rfl, rfl, hkk, F⟩
 refine zd (zd (za kr (fun _ => (st (zb (v := Iw k) rfl (st (yz rfl (st (zg (v := df0) Tryd.isAgg77 rfl (zh (F.blk (i := 0) rfl) rfl) (st (zJ (n := f.moves.length) Tryd.underlying77 rfl hdf0.sl (st (zL (k := .i64) (a := ((k : Nat) : Int)) (b := ((f.moves.length : Nat) : Int)) rfl rfl (zf ?_))))))))))))))
 cases O : decide (((k : Nat) : Int) < ((f.moves.length : Nat) : Int))
 have O := fD O
 refine zn rfl (yc (zU (zd (zd (za kr (fun _ => (st (ze (v := Iv 0) rfl (zf (zw (yd (fun mq σ wq => ∃ (j : Nat) (ρ : Env), mq = f.moves.length - j ∧ σ = yh ρ [(2, Ix b2 0), (3, Ix g 0), (8, Iw j)] ∧ (j ≤ f.moves.length) ∧ (∀ i, i < j → (f.moves.getD i default).need = -1 ∨ yB t (f.moves.getD i default).need = 1) ∧ Sep G W ((Blk g (f.cells df0).toArray 79) :: (Blk b2 (t.cells dt0).toArray 33) :: Rs) wq) ⟨0, _, rfl, zq ⟨rfl, rfl, rfl, trivial⟩, Nat.zero_le _, (fun i h => absurd h (Nat.not_lt_zero i)), F⟩ ?_)))))))))))
 rintro m78 σ79 w77 ⟨j, ρl2, rfl, rfl, hkj, hm, ak⟩
 refine zd (zd (za kr (fun _ => (st (zb (v := Iw j) rfl (st (yz rfl (st (zg (v := df0) Tryd.isAgg77 rfl (zh (ak.blk (i := 0) rfl) rfl) (st (zJ (n := f.moves.length) Tryd.underlying77 rfl hdf0.sl (st (zL (k := .i64) (a := ((j : Nat) : Int)) (b := ((f.moves.length : Nat) : Int)) rfl rfl (zf ?_))))))))))))))
 cases P : decide (((j : Nat) : Int) < ((f.moves.length : Nat) : Int))
 have P := fD P
 refine zn rfl (yc (zU (zd (za kr (fun _ => (st (ze (v := Iv 0) rfl (zf (zt (zO Tryd.results71 (show _ = (Iv 0 : Value) from rfl) ?_))))))))))
 have cM := ak.s2_
 refine ⟨0, rfl, ?_, ?_, cM⟩
 decide
 intro E
 exact ⟨by omega, hfl, fun i hi => hm i om⟩
 have P := tD P
 refine zo rfl (zv (zd (zw (zd ?_))))
 refine WD4 ((fun TT ct => WF [fun vals wq => Sep G W (ct :: TT) wq, fun vals wq => (vals 15 = (if (!decide (((f.moves.getD j default).need) = (-1))) = true then (Iv ((yB t ((f.moves.getD j default).need))) : Value) else undef)) ∧ Sep G W (ct :: TT) wq]) ((Blk b2 (t.cells dt0).toArray 33) :: Rs) (Blk g (f.cells df0).toArray 79)) (AF [Vl 0 (Ix g 3), Vl 1 (df0), Vl 2 (Iw j), Vl 3 (Ix (sb df0) (so df0 + j * 4)), Vl 4 (Ix (sb df0) (so df0 + j * 4 + 2)), Vl 5 (Iv ((f.moves.getD j default).need)), Vl 6 (.bool (!decide (((f.moves.getD j default).need) = (-1)))), Vl 7 (.bool (!decide (((f.moves.getD j default).need) = (-1)))), Vl 8 (if (!decide (((f.moves.getD j default).need) = (-1))) = true then .agg (t.cells dt0).toArray else undef), Vl 9 (if (!decide (((f.moves.getD j default).need) = (-1))) = true then Ix g 3 else undef), Vl 10 (if (!decide (((f.moves.getD j default).need) = (-1))) = true then df0 else undef), Vl 11 (if (!decide (((f.moves.getD j default).need) = (-1))) = true then Iw j else undef), Vl 12 (if (!decide (((f.moves.getD j default).need) = (-1))) = true then Ix (sb df0) (so df0 + j * 4) else undef), Vl 13 (if (!decide (((f.moves.getD j default).need) = (-1))) = true then Ix (sb df0) (so df0 + j * 4 + 2) else undef), Vl 14 (if (!decide (((f.moves.getD j default).need) = (-1))) = true then Iv ((f.moves.getD j default).need) else undef), fun _ => True, Vl 16 (if (!decide (((f.moves.getD j default).need) = (-1))) = true then .bool (!decide ((yB t ((f.moves.getD j default).need)) = 1)) else undef), Vl 17 (.bool ((!decide (((f.moves.getD j default).need) = (-1))) && (!decide ((yB t ((f.moves.getD j default).need)) = 1))))]) [[], [0], [], [0, 1, 2], (rg 4), (rg 5), (rg 6), (rg 7), (rg 8), (rg 8), [0, 1, 2, 3, 4, 5, 6, 7, 9], (rg 8), [0, 1, 2, 3, 4, 5, 6, 7, 9, 10, 11], [0, 1, 2, 3, 4, 5, 6, 7, 9, 10, 11, 12], [0, 1, 2, 3, 4, 5, 6, 7, 9, 10, 11, 12, 13], (rg 15), (rg 16), (rg 17)] [15] [(0, 0), (0, 0), (0, 0), (0, 0), (0, 0), (0, 0), (0, 0), (0, 0), (0, 0), (0, 0), (0, 0), (0, 0), (0, 0), (0, 0), (0, 0), (0, 0), (1, 1), (1, 1)] ak ⟨?_, ?_, ?_, ?_, ?_, ?_, ?_, ?_, ?_, ?_, ?_, ?_, ?_, ?_, ?_, ?_, ?_, ?_, trivial⟩ ?_
 exact fun _ _ _ _ _ _ _ => obl rfl (yz rfl dR)
 exact ob1 0 fun _ _ (bF : Sep _ _ _ _) bG => obl rfl (zg (v := df0) Tryd.isAgg77 (bG 0 dc) (zh (bF.blk (i := 0) rfl) rfl) dR)
 exact fun _ _ _ _ _ _ _ => obl rfl (zb (v := Iw j) rfl dR)
 refine ob1 0 fun _ _ _ al => (obl rfl ?_)
 have bH : j < f.moves.length := bo
 exact zk (k := 4) (i := j) Tryd.underlying77 Tryd.sizeOf115 (al 1 dc) hdf0.sl (al 2 dc) bH dR
 exact fun _ _ _ _ _ _ bI => obl rfl (Zl (bI 3 dc) dR)
 refine ob1 0 fun _ _ (bJ : Sep _ _ _ _) bK => (obl rfl ?_)
 have Q : j < f.moves.length := bo
 obtain ⟨ab, aR⟩ := hdf0.mv Q
 rw [← zm default Q] at ab aR
 have bB := bJ.cells ab (hdf0.foot (ne_of_lt Q))
 exact zg (v := Iv ((f.moves.getD j default).need)) Tryd.isAgg3 (bK 4 dc) (bB.get (j := 2) rfl) dR
 exact ob1 0 fun _ _ _ bL => obl rfl (yq (k := .i64) (a := (f.moves.getD j default).need) (b := -1) (bL 5 dc) rfl dR)
 exact fun _ _ _ _ _ _ bM => obl rfl (zb (v := .bool (!decide (((f.moves.getD j default).need) = (-1)))) (bM 6 dc) dR)
 refine ob1 0 fun _ _ (bN : Sep _ _ _ _) bO => (zN rfl rfl (bO 7 dc) (fun z => ?_) (fun z => fun c d _ => ⟨trivial, d.trans (if_neg z).symm⟩))
 have am := z
 have am := zR am
 exact zl (k := 1) Tryd.isAgg33 Tryd.sizeOf33 rfl rfl (CellsAt.all (bN.blk (i := 1) rfl)) (fun c d _ => ⟨rfl, d.trans (if_pos z).symm⟩)
 refine fun _ _ _ _ _ _ bP => (zN rfl rfl (bP 7 dc) (fun A => ?_) (fun A => fun c d _ => ⟨trivial, d.trans (if_neg A).symm⟩))
 have an := A
 have an := zR an
 exact yz rfl (fun c d _ => ⟨rfl, d.trans (if_pos A).symm⟩)
 refine ob1 0 fun _ _ (bQ : Sep _ _ _ _) ao => (zN rfl rfl (ao 7 dc) (fun q => ?_) (fun q => fun c d _ => ⟨trivial, d.trans (if_neg q).symm⟩))
 have ap := q
 have ap := zR ap
 exact zg (v := df0) Tryd.isAgg77 (show _ = (Ix g 3 : Value) from (Eq.trans (ao 9 dc) (if_pos q))) (zh (bQ.blk (i := 0) rfl) rfl) (fun c d _ => ⟨rfl, d.trans (if_pos q).symm⟩)
 refine fun _ _ _ _ _ _ bR => (zN rfl rfl (bR 7 dc) (fun B => ?_) (fun B => fun c d _ => ⟨trivial, d.trans (if_neg B).symm⟩))
 have aq := B
 have aq := zR aq
 exact zb (v := Iw j) rfl (fun c d _ => ⟨rfl, d.trans (if_pos B).symm⟩)
 refine ob1 0 fun _ _ _ R => (zN rfl rfl (R 7 dc) (fun m => ?_) (fun m => fun c d _ => ⟨trivial, d.trans (if_neg m).symm⟩))
 have ar := m
 have ar := zR ar
 have bS : j < f.moves.length := bo
 exact zk (k := 4) (i := j) Tryd.underlying77 Tryd.sizeOf115 (show _ = (df0 : Value) from (Eq.trans (R 10 dc) (if_pos m))) hdf0.sl (show _ = (Iw j : Value) from (Eq.trans (R 11 dc) (if_pos m))) bS (fun c d _ => ⟨rfl, d.trans (if_pos m).symm⟩)
 refine fun _ _ _ _ _ _ au => (zN rfl rfl (au 7 dc) (fun s => ?_) (fun s => fun c d _ => ⟨trivial, d.trans (if_neg s).symm⟩))
 have av := s
 have av := zR av
 exact Zl (show _ = (Ix (sb df0) (so df0 + j * 4) : Value) from (Eq.trans (au 12 dc) (if_pos s))) (fun c d _ => ⟨rfl, d.trans (if_pos s).symm⟩)
 refine ob1 0 fun _ _ (bT : Sep _ _ _ _) aw => (zN rfl rfl (aw 7 dc) (fun u => ?_) (fun u => fun c d _ => ⟨trivial, d.trans (if_neg u).symm⟩))
 have ax := u
 have ax := zR ax
 have S : j < f.moves.length := bo
 obtain ⟨ac, aS⟩ := hdf0.mv S
 rw [← zm default S] at ac aS
 have bC := bT.cells ac (hdf0.foot (ne_of_lt S))
 exact zg (v := Iv ((f.moves.getD j default).need)) Tryd.isAgg3 (show _ = (Ix (sb df0) (so df0 + j * 4 + 2) : Value) from (Eq.trans (aw 13 dc) (if_pos u))) (bC.get (j := 2) rfl) (fun c d _ => ⟨rfl, d.trans (if_pos u).symm⟩)
 refine ob1 0 fun vals cN (T : Sep _ _ _ _) U => (zN rfl rfl (U 7 dc) (fun o => ?_) (fun o c d cU => ?_))
 have ay := o
 have ay := zR ay
 have X : j < f.moves.length := bo
 obtain ⟨ad, H⟩ := hdf0.mv X
 rw [← zm default X] at ad H
 have hcw236 := T.cells ad (hdf0.foot (ne_of_lt X))
 refine (zu (f := 73) (vals := [.agg (t.cells dt0).toArray, Iv ((f.moves.getD j default).need)]) (cap := []) rfl (yP ⟨(show _ = (.agg (t.cells dt0).toArray : Value) from (Eq.trans (U 8 dc) (if_pos o))), (show _ = (Iv ((f.moves.getD j default).need) : Value) from (Eq.trans (U 14 dc) (if_pos o))), trivial⟩) Tryd.call73 (Ql (t := t) (n := (f.moves.getD j default).need) hdt0 ot H.need T) ?_)
 rintro _ w237 ⟨rfl, bU⟩
 exact fun c d cU => ⟨(And.intro (d.trans (if_pos o).symm) bU), trivial⟩
 refine ⟨?_, trivial⟩
 show (c 15 = (if (!decide (((f.moves.getD j default).need) = (-1))) = true then (Iv ((yB t ((f.moves.getD j default).need))) : Value) else undef)) ∧ Sep G W ((Blk g (f.cells df0).toArray 79) :: (Blk b2 (t.cells dt0).toArray 33) :: Rs) cN
 exact ⟨(d.trans (if_neg o).symm), T⟩
 refine ob1 1 fun _ _ bV bW => ?_
 obtain ⟨az, hS403⟩ := bV
 refine zN rfl rfl (bW 7 dc) (fun x => ?_) (fun x => fun c d _ => ⟨trivial, d.trans (if_neg x).symm⟩)
 have aA := x
 have aA := zR aA
 exact yq (k := .i64) (a := (yB t ((f.moves.getD j default).need))) (b := 1) (show _ = (Iv ((yB t ((f.moves.getD j default).need))) : Value) from (Eq.trans az (if_pos x))) rfl (fun c d _ => ⟨rfl, d.trans (if_pos x).symm⟩)
 exact fun _ _ _ _ _ _ aB => obl rfl (zx (b := !decide (((f.moves.getD j default).need) = (-1))) (b' := !decide ((yB t ((f.moves.getD j default).need)) = 1)) (aB 7 dc) (fun hbp => (show _ = (.bool (!decide ((yB t ((f.moves.getD j default).need)) = 1)) : Value) from (Eq.trans (aB 16 dc) (if_pos hbp)))) dR)
 intro vals w415 bX bY
 obtain ⟨az, aC⟩ := bX
 have cO := bY 17 dc
 refine yf (kv := [(2, Ix b2 0), (3, Ix g 0), (8, Iw j), (81, Iw j), (82, Ix g 3), (83, df0), (84, Iw f.moves.length), (85, .bool true), (105, .bool ((!decide (((f.moves.getD j default).need) = (-1))) && (!decide ((yB t ((f.moves.getD j default).need)) = 1))))]) ⟨rfl, rfl, rfl, rfl, rfl, rfl, rfl, rfl, (by exact cO), trivial⟩ (fun ρw415 => (zf ?_))
 cases Y : (!decide (((f.moves.getD j default).need) = (-1))) && (!decide ((yB t ((f.moves.getD j default).need)) = 1))
 try simp only [zj] at Y
 refine zn rfl (zv (za kr (fun _ => (st (zb (v := Iw j) rfl ?_)))))
 have bZ : InR ((j + 1 : Nat) : Int) := bo
 refine st (zV (r := ((j + 1 : Nat) : Int)) (k := .i64) (a := ((j : Nat) : Int)) (b := 1) rfl rfl (by rw [show (((j : Nat) : Int) + 1 : Int) = ((j + 1 : Nat) : Int) from bo]; exact zM bZ) (st (ze (v := Iw (j + 1)) rfl (zf ?_))))
 exact ⟨_, by omega, j + 1, _, rfl, zq ⟨rfl, rfl, rfl, trivial⟩, by omega, (yW hm (by have E := Y; omega)), aC⟩
 try simp only [zj] at Y
 refine zo rfl (zd (za kr (fun _ => (st (ze (v := Iv 8) rfl (zf (zt (zO Tryd.results71 (show _ = (Iv 8 : Value) from rfl) ?_))))))))
 have ca := aC.s2_
 refine ⟨8, rfl, ?_, ?_, ca⟩
 decide
 intro E
 exact absurd E dc
 have O := tD O
 refine zo rfl (zv (zd (zw (zd (za kr (fun _ => (st (yz rfl (st (zg (v := df0) Tryd.isAgg77 rfl (zh (F.blk (i := 0) rfl) rfl) (st (zb (v := Iw k) rfl ?_))))))))))))
 have cb : k < f.moves.length := bo
 refine st (zk (k := 4) (i := k) Tryd.underlying77 Tryd.sizeOf115 rfl hdf0.sl rfl cb ?_)
 have Z : k < f.moves.length := bo
 obtain ⟨ae, aT⟩ := hdf0.mv Z
 rw [← zm default Z] at ae aT
 have bD := F.cells ae (hdf0.foot (ne_of_lt Z))
 refine st (zl (k := 4) Tryd.isAgg115 Tryd.sizeOf115 rfl rfl bD (st (zB Tryd.zeroValue115 ?_)))
 intro w429 y cc
 have aD := F.new cc
 refine stn (zy (v := .agg ((f.moves.getD k default).cells).toArray) (c' := ((f.moves.getD k default).cells).toArray) Tryd.sizeOf115 rfl rfl (aD.blk (i := 0) rfl) (ya ⟨rfl, rfl, rfl, rfl, trivial⟩) (Nat.le_of_ble_eq_true rfl) rfl ?_)
 intro cP cd
 have p := aD.pt0 cd
 refine zf (zd (zF kr (st (XV rfl (st (zg (v := Iv ((f.moves.getD k default).frm)) Tryd.isAgg3 rfl (zh (p.blk (i := 0) rfl) rfl) (st (zL (k := .i64) (a := (f.moves.getD k default).frm) (b := 0) rfl rfl (st (zb (v := .bool (decide (((f.moves.getD k default).frm) < 0))) rfl (stc (V := Ix y 1) rfl rfl (fun ce => ?_) ?_)))))))))))
 have aE := ce
 have aE := fD aE
 exact XY rfl ⟨rfl, rfl⟩
 refine stc (V := Iv ((f.moves.getD k default).to)) rfl rfl (fun aF => ?_) ?_
 have aG := aF
 have aG := fD aG
 exact zg (v := Iv ((f.moves.getD k default).to)) Tryd.isAgg3 (show _ = (Ix y 1 : Value) from (if_pos aF)) (zh (p.blk (i := 0) rfl) rfl) ⟨rfl, rfl⟩
 refine stc (V := .bool (decide (((f.moves.getD k default).to) < 0))) rfl rfl (fun aH => ?_) ?_
 have aI := aH
 have aI := fD aI
 exact zL (k := .i64) (a := (f.moves.getD k default).to) (b := 0) (show _ = (Iv ((f.moves.getD k default).to) : Value) from (if_pos aH)) rfl ⟨rfl, rfl⟩
 refine st (zG (b := decide (((f.moves.getD k default).frm) < 0)) (b' := decide (((f.moves.getD k default).to) < 0)) rfl (fun hbp => (show _ = (.bool (decide (((f.moves.getD k default).to) < 0)) : Value) from (if_pos hbp))) (st (zb (v := .bool ((decide (((f.moves.getD k default).frm) < 0)) || (decide (((f.moves.getD k default).to) < 0)))) rfl (stc (V := Ix y 2) rfl rfl (fun cf => ?_) ?_))))
 have cg := cf
 try simp only [zj] at cg
 exact Zl rfl ⟨rfl, rfl⟩
 refine stc (V := Iv ((f.moves.getD k default).need)) rfl rfl (fun aJ => ?_) ?_
 have ch := aJ
 try simp only [zj] at ch
 exact zg (v := Iv ((f.moves.getD k default).need)) Tryd.isAgg3 (show _ = (Ix y 2 : Value) from (if_pos aJ)) (zh (p.blk (i := 0) rfl) rfl) ⟨rfl, rfl⟩
 refine stc (V := .bool (decide (((f.moves.getD k default).need) = (-1)))) rfl rfl (fun aK => ?_) ?_
 have ci := aK
 try simp only [zj] at ci
 exact zP (k := .i64) (a := (f.moves.getD k default).need) (b := -1) (show _ = (Iv ((f.moves.getD k default).need) : Value) from (if_pos aK)) rfl ⟨rfl, rfl⟩
 refine stc (V := .bool (decide (((f.moves.getD k default).need) = (-1)))) rfl rfl (fun aL => ?_) ?_
 have cj := aL
 try simp only [zj] at cj
 exact zb (v := .bool (decide (((f.moves.getD k default).need) = (-1)))) (show _ = (.bool (decide (((f.moves.getD k default).need) = (-1))) : Value) from (if_pos aL)) ⟨rfl, rfl⟩
 refine yI (V := Ix y 3) rfl rfl (fun aM => ?_) ?_
 have ck := aM.1
 try simp only [zj] at ck
 have aN := aM.2
 have aN := tD aN
 exact Wl rfl ⟨rfl, rfl⟩
 refine yI (V := Iv ((f.moves.getD k default).least)) rfl rfl (fun C => ?_) ?_
 have cl := C.1
 try simp only [zj] at cl
 have aO := C.2
 have aO := tD aO
 exact zg (v := Iv ((f.moves.getD k default).least)) Tryd.isAgg3 (show _ = (Ix y 3 : Value) from (if_pos ⟨C.1, C.2⟩)) (zh (p.blk (i := 0) rfl) rfl) ⟨rfl, rfl⟩
 refine yI (V := .bool (!decide (((f.moves.getD k default).least) = 0))) rfl rfl (fun D => ?_) ?_
 have cm := D.1
 try simp only [zj] at cm
 have aP := D.2
 have aP := tD aP
 exact yq (k := .i64) (a := (f.moves.getD k default).least) (b := 0) (show _ = (Iv ((f.moves.getD k default).least) : Value) from (if_pos ⟨D.1, D.2⟩)) rfl ⟨rfl, rfl⟩
 refine stc (V := .bool ((decide (((f.moves.getD k default).need) = (-1))) && (!decide (((f.moves.getD k default).least) = 0)))) rfl rfl (fun aa => ?_) ?_
 have cn := aa
 try simp only [zj] at cn
 exact zx (b := decide (((f.moves.getD k default).need) = (-1))) (b' := !decide (((f.moves.getD k default).least) = 0)) (show _ = (.bool (decide (((f.moves.getD k default).need) = (-1))) : Value) from (if_pos aa)) (fun hbp => (show _ = (.bool (!decide (((f.moves.getD k default).least) = 0)) : Value) from (if_pos ⟨aa, hbp⟩))) ⟨rfl, rfl⟩
 refine st (zG (b := (decide (((f.moves.getD k default).frm) < 0)) || (decide (((f.moves.getD k default).to) < 0))) (b' := (decide (((f.moves.getD k default).need) = (-1))) && (!decide (((f.moves.getD k default).least) = 0))) rfl (fun hbp => (show _ = (.bool ((decide (((f.moves.getD k default).need) = (-1))) && (!decide (((f.moves.getD k default).least) = 0))) : Value) from (if_pos hbp))) (zf ?_))
 cases aQ : ((decide (((f.moves.getD k default).frm) < 0)) || (decide (((f.moves.getD k default).to) < 0))) || ((decide (((f.moves.getD k default).need) = (-1))) && (!decide (((f.moves.getD k default).least) = 0)))
 try simp only [zj] at aQ
 refine zn rfl (zv (za kr (fun _ => (st (zb (v := Iw k) rfl ?_)))))
 have co : InR ((k + 1 : Nat) : Int) := bo
 refine st (zV (r := ((k + 1 : Nat) : Int)) (k := .i64) (a := ((k : Nat) : Int)) (b := 1) rfl rfl (by rw [show (((k : Nat) : Int) + 1 : Int) = ((k + 1 : Nat) : Int) from bo]; exact zM co) (st (ze (v := Iw (k + 1)) rfl (zf ?_))))
 have cp : Sep G W ((Blk g (f.cells df0).toArray 79) :: (Blk b2 (t.cells dt0).toArray 33) :: Rs) cP := p.sel 3 [1, 2] (Nat.le_add_left _ _) rfl rfl
 exact ⟨_, by omega, k + 1, _, rfl, zq ⟨rfl, rfl, rfl, trivial⟩, by omega, cp⟩
 try simp only [zj] at aQ
 refine zo rfl (zd (za kr (fun _ => (st (ze (v := Iv 1) rfl (zf (zt (zO Tryd.results71 (show _ = (Iv 1 : Value) from rfl) ?_))))))))
 have cq := p.s3_
 refine ⟨1, rfl, ?_, ?_, cq⟩
 decide
 intro E
 exact absurd E dc
 try simp only [zj] at ai
 refine zo rfl (zd (za kr (fun _ => (st (ze (v := Iv 1) rfl (zf (zt (zO Tryd.results71 (show _ = (Iv 1 : Value) from rfl) ?_))))))))
 have cr := l.s2_
 refine ⟨1, rfl, ?_, ?_, cr⟩
 decide
 intro E
 exact absurd E dc
 try simp only [zj] at aZ
 refine zo rfl (zd (za kr (fun _ => (st (ze (v := Iv 2) rfl (zf (zt (zO Tryd.results71 (show _ = (Iv 2 : Value) from rfl) ?_))))))))
 have cs := l.s2_
 refine ⟨2, rfl, ?_, ?_, cs⟩
 decide
 intro E
 exact absurd E dc

theorem Kh : Elem Tryd.prog 77 115 4 32 := ⟨Tryd.underlying77, _, _, rfl, rfl, rfl, rfl, rfl⟩
theorem Km {G : Nat → Prop} {W w : World} {Rs : List HP} {d : Dcl} {dd0 : Value} (hdd0 : RdS W G dd0 d.types) {dd1 : Value} (hdd1 : RdS W G dd1 d.projs) (od : d.Ok) {ty : Int} (hty : InR ty) {fi : Int} (hfi : InR fi) (hS0 : Sep G W Rs w) : Ret Tryd.prog 72 [.agg (d.cells dd0 dd1).toArray, .int .i64 (ty), .int .i64 (fi)] w (fun r w' => ∃ (c1 : Int) (c2 : Int) (c3 : Bool) (dx : Value) (b : Bool), r = (.tuple #[.agg #[.int .i64 (c1), .int .i64 (c2), .bool c3, dx], .bool b] : Value) ∧ (dx.oneCell' = true) ∧ (b = true → (0 ≤ ty ∧ ty < d.types.length) ∧ 0 ≤ fi ∧ fi < (d.types.getD ty.toNat default).fields.length) ∧ Sep G W Rs w') := by
 have hdd0s : _ * 24 ≤ _ := hdd0.small
 have hdd1s : _ * 40 ≤ _ := hdd1.small
 refine zr (args := [.agg (d.cells dd0 dd1).toArray, Iv ty, Iv fi]) Tryd.func72 rfl rfl ?_
 refine zd (za kr (fun _ => (st (zT (v := .agg (d.cells dd0 dd1).toArray) rfl ?_))))
 intro w3 b2 aX
 have aY := hS0.new aX
 refine st (zB Tryd.zeroValue79 ?_)
 intro w7 M aZ
 have g := aY.new aZ
 refine st (ze (v := .bool false) rfl (zf (zd (zd (zF kr (st (zb (v := Iv ty) rfl (st (zL (k := .i64) (a := ty) (b := 0) rfl rfl (st (zb (v := .bool (decide (ty < 0))) rfl (stc (V := Iv ty) rfl rfl (fun ba => ?_) ?_))))))))))))
 have N := ba
 have N := fD N
 exact zb (v := Iv ty) rfl ⟨rfl, rfl⟩
 refine stc (V := Ix b2 0) rfl rfl (fun ar => ?_) ?_
 have O := ar
 have O := fD O
 exact yo rfl ⟨rfl, rfl⟩
 refine stc (V := dd0) rfl rfl (fun P => ?_) ?_
 have Q := P
 have Q := fD Q
 exact zg (v := dd0) Tryd.isAgg22 (show _ = (Ix b2 0 : Value) from (if_pos P)) (zh (g.blk (i := 1) rfl) rfl) ⟨rfl, rfl⟩
 refine stc (V := Iw d.types.length) rfl rfl (fun R => ?_) ?_
 have S := R
 have S := fD S
 exact zJ (n := d.types.length) Tryd.underlying22 (show _ = (dd0 : Value) from (if_pos R)) hdd0.sl ⟨rfl, rfl⟩
 refine stc (V := .bool (decide (((d.types.length : Nat) : Int) ≤ ty))) rfl rfl (fun t => ?_) ?_
 have T := t
 have T := fD T
 exact yY (k := .i64) (a := ty) (b := ((d.types.length : Nat) : Int)) (show _ = (Iv ty : Value) from (if_pos t)) (show _ = (Iw d.types.length : Value) from (if_pos t)) ⟨rfl, rfl⟩
 refine st (zG (b := decide (ty < 0)) (b' := decide (((d.types.length : Nat) : Int) ≤ ty)) rfl (fun hbp => (show _ = (.bool (decide (((d.types.length : Nat) : Int) ≤ ty)) : Value) from (if_pos hbp))) (st (zb (v := .bool ((decide (ty < 0)) || (decide (((d.types.length : Nat) : Int) ≤ ty)))) rfl (stc (V := Iv fi) rfl rfl (fun au => ?_) ?_))))
 have av := au
 try simp only [zj] at av
 exact zb (v := Iv fi) rfl ⟨rfl, rfl⟩
 refine stc (V := .bool (decide (fi < 0))) rfl rfl (fun U => ?_) ?_
 have aw := U
 try simp only [zj] at aw
 exact zL (k := .i64) (a := fi) (b := 0) (show _ = (Iv fi : Value) from (if_pos U)) rfl ⟨rfl, rfl⟩
 refine st (zG (b := (decide (ty < 0)) || (decide (((d.types.length : Nat) : Int) ≤ ty))) (b' := decide (fi < 0)) rfl (fun hbp => (show _ = (.bool (decide (fi < 0)) : Value) from (if_pos hbp))) (st (zb (v := .bool (((decide (ty < 0)) || (decide (((d.types.length : Nat) : Int) ≤ ty))) || (decide (fi < 0)))) rfl (stc (V := Iv fi) rfl rfl (fun ax => ?_) ?_))))
 have ay := ax
 try simp only [zj] at ay
 exact zb (v := Iv fi) rfl ⟨rfl, rfl⟩
 refine stc (V := Ix b2 0) rfl rfl (fun az => ?_) ?_
 have aA := az
 try simp only [zj] at aA
 exact yo rfl ⟨rfl, rfl⟩
 refine stc (V := dd0) rfl rfl (fun X => ?_) ?_
 have aB := X
 try simp only [zj] at aB
 exact zg (v := dd0) Tryd.isAgg22 (show _ = (Ix b2 0 : Value) from (if_pos X)) (zh (g.blk (i := 1) rfl) rfl) ⟨rfl, rfl⟩
 refine stc (V := Iv ty) rfl rfl (fun aC => ?_) ?_
 have aD := aC
 try simp only [zj] at aD
 exact zb (v := Iv ty) rfl ⟨rfl, rfl⟩
 refine stc (V := Ix (sb dd0) (so dd0 + ty.toNat * 1)) rfl rfl (fun u => ?_) ?_
 have aE := u
 try simp only [zj] at aE
 have hi33 : ty.toNat < d.types.length := bo
 exact zz (k := 1) (i := ty) Tryd.underlying22 Tryd.sizeOf33 (show _ = (dd0 : Value) from (if_pos u)) hdd0.sl (show _ = (Iv ty : Value) from (if_pos u)) ⟨by omega, by omega⟩ ⟨rfl, rfl⟩
 refine stc (V := Ix (sb dd0) (so dd0 + ty.toNat * 1)) rfl rfl (fun Y => ?_) ?_
 have aF := Y
 try simp only [zj] at aF
 exact yA (show _ = (Ix (sb dd0) (so dd0 + ty.toNat * 1) : Value) from (if_pos Y)) ⟨rfl, rfl⟩
 refine stc (V := (zi W (sb dd0) (so dd0 + ty.toNat * 1 + 0))) rfl rfl (fun Z => ?_) ?_
 have aG := Z
 try simp only [zj] at aG
 have x : ty.toNat < d.types.length := bo
 obtain ⟨F, o, aa⟩ := hdd0.typ x
 rw [← zm default x] at F o aa
 have hsm40 : ((d.types.getD ty.toNat default).fields).length * 48 ≤ 140737488355328 := o.small
 have aj := g.cells F (hdd0.foot (ne_of_lt x))
 exact zg (v := (zi W (sb dd0) (so dd0 + ty.toNat * 1 + 0))) Tryd.isAgg31 (show _ = (Ix (sb dd0) (so dd0 + ty.toNat * 1) : Value) from (if_pos Z)) (aj.get (j := 0) rfl) ⟨rfl, rfl⟩
 refine stc (V := Iw (((d.types.getD ty.toNat default).fields).length)) rfl rfl (fun ab => ?_) ?_
 have aH := ab
 try simp only [zj] at aH
 have y : ty.toNat < d.types.length := bo
 obtain ⟨H, l, ac⟩ := hdd0.typ y
 rw [← zm default y] at H l ac
 have hsm46 : ((d.types.getD ty.toNat default).fields).length * 48 ≤ 140737488355328 := l.small
 have hcw47 := g.cells H (hdd0.foot (ne_of_lt y))
 exact zJ (n := ((d.types.getD ty.toNat default).fields).length) Tryd.underlying31 (show _ = ((zi W (sb dd0) (so dd0 + ty.toNat * 1 + 0)) : Value) from (if_pos ab)) l.sl ⟨rfl, rfl⟩
 refine stc (V := .bool (decide (((((d.types.getD ty.toNat default).fields).length : Nat) : Int) ≤ fi))) rfl rfl (fun z => ?_) ?_
 have aI := z
 try simp only [zj] at aI
 exact yY (k := .i64) (a := fi) (b := ((((d.types.getD ty.toNat default).fields).length : Nat) : Int)) (show _ = (Iv fi : Value) from (if_pos z)) (show _ = (Iw (((d.types.getD ty.toNat default).fields).length) : Value) from (if_pos z)) ⟨rfl, rfl⟩
 refine st (zG (b := ((decide (ty < 0)) || (decide (((d.types.length : Nat) : Int) ≤ ty))) || (decide (fi < 0))) (b' := decide (((((d.types.getD ty.toNat default).fields).length : Nat) : Int) ≤ fi)) rfl (fun hbp => (show _ = (.bool (decide (((((d.types.getD ty.toNat default).fields).length : Nat) : Int) ≤ fi)) : Value) from (if_pos hbp))) (zf ?_))
 cases ad : (((decide (ty < 0)) || (decide (((d.types.length : Nat) : Int) ≤ ty))) || (decide (fi < 0))) || (decide (((((d.types.getD ty.toNat default).fields).length : Nat) : Int) ≤ fi))
 try simp only [zj] at ad
 refine zn rfl (zv (zd (za kr (fun _ => (st (yo rfl (st (zg (v := dd0) Tryd.isAgg22 rfl (zh (g.blk (i := 1) rfl) rfl) (st (zb (v := Iv ty) rfl ?_))))))))))
 have hi51 : ty.toNat < d.types.length := bo
 refine st (zz (k := 1) (i := ty) Tryd.underlying22 Tryd.sizeOf33 rfl hdd0.sl rfl ⟨by omega, by omega⟩ (st (yA rfl ?_)))
 have A : ty.toNat < d.types.length := bo
 obtain ⟨I, f, ae⟩ := hdd0.typ A
 rw [← zm default A] at I f ae
 have hsm54 : ((d.types.getD ty.toNat default).fields).length * 48 ≤ 140737488355328 := f.small
 have ak := g.cells I (hdd0.foot (ne_of_lt A))
 refine st (zg (v := (zi W (sb dd0) (so dd0 + ty.toNat * 1 + 0))) Tryd.isAgg31 rfl (ak.get (j := 0) rfl) (st (zb (v := Iv fi) rfl ?_)))
 have hi56 : fi.toNat < ((d.types.getD ty.toNat default).fields).length := bo
 refine st (zz (k := 4) (i := fi) Tryd.underlying31 Tryd.sizeOf79 rfl f.sl rfl ⟨by omega, by omega⟩ ?_)
 have B : fi.toNat < ((d.types.getD ty.toNat default).fields).length := bo
 obtain ⟨J, e, m⟩ := f.fld B
 rw [← zm default B] at J e m
 have hsm59 : ((((d.types.getD ty.toNat default).fields).getD fi.toNat default).moves).length * 32 ≤ 140737488355328 := e.small
 have al := g.cells J (f.foot (ne_of_lt B))
 refine st (zl (k := 4) Tryd.isAgg79 Tryd.sizeOf79 rfl rfl al (st (zB Tryd.zeroValue79 ?_)))
 intro w63 af aJ
 have ag := g.new aJ
 refine stn (zy (v := .agg ((((d.types.getD ty.toNat default).fields).getD fi.toNat default).cells (zi W (sb (zi W (sb dd0) (so dd0 + ty.toNat * 1 + 0))) (so (zi W (sb dd0) (so dd0 + ty.toNat * 1 + 0)) + fi.toNat * 4 + 3))).toArray) (c' := ((((d.types.getD ty.toNat default).fields).getD fi.toNat default).cells (zi W (sb (zi W (sb dd0) (so dd0 + ty.toNat * 1 + 0))) (so (zi W (sb dd0) (so dd0 + ty.toNat * 1 + 0)) + fi.toNat * 4 + 3))).toArray) Tryd.sizeOf79 rfl rfl (ag.blk (i := 0) rfl) (ya ⟨rfl, rfl, rfl, e.sl.one, trivial⟩) (Nat.le_of_ble_eq_true rfl) rfl ?_)
 intro bb aK
 have aL := ag.pt0 aK
 refine zf (zd (za kr (fun _ => (st (ze (v := (Iz)) rfl (zf (zd (zd (za kr (fun _ => (st (ze (v := Iv 0) rfl (zf (zw ?_))))))))))))))
 have aM : Sep G W ((RowE (α := Mv) own 115 (Iz) ([] : List Mv)) :: (Blk af ((((d.types.getD ty.toNat default).fields).getD fi.toNat default).cells (zi W (sb (zi W (sb dd0) (so dd0 + ty.toNat * 1 + 0))) (so (zi W (sb dd0) (so dd0 + ty.toNat * 1 + 0)) + fi.toNat * 4 + 3))).toArray 79) :: (Blk M #[Iv 0, Iv 0, .bool false, (Iz)] 79) :: (Blk b2 (d.cells dd0 dd1).toArray 25) :: Rs) bb := aL.rowNil own 115
 refine yd (fun mq σ wq => ∃ (k : Nat) (vm : Value) (ρ : Env), mq = ((d.types.getD ty.toNat default).fields.getD fi.toNat default).moves.length - k ∧ σ = yh ρ [(3, Ix b2 0), (6, Ix M 0), (8, Ix af 0), (10, Iw k), (9, vm)] ∧ (k ≤ ((d.types.getD ty.toNat default).fields.getD fi.toNat default).moves.length) ∧ Sep G W ((RowE (α := Mv) own 115 vm (((d.types.getD ty.toNat default).fields.getD fi.toNat default).moves.take k)) :: (Blk af ((((d.types.getD ty.toNat default).fields).getD fi.toNat default).cells (zi W (sb (zi W (sb dd0) (so dd0 + ty.toNat * 1 + 0))) (so (zi W (sb dd0) (so dd0 + ty.toNat * 1 + 0)) + fi.toNat * 4 + 3))).toArray 79) :: (Blk M #[Iv 0, Iv 0, .bool false, (Iz)] 79) :: (Blk b2 (d.cells dd0 dd1).toArray 25) :: Rs) wq) ⟨0, (Iz), _, rfl, zq ⟨rfl, rfl, rfl, rfl, rfl, trivial⟩, Nat.zero_le _, aM⟩ ?_
 rintro m70 σ71 w69 ⟨k, vm, ρl1, rfl, rfl, hkk, h⟩
 have p := h.row (i := 0) rfl
 have hr73s : _ * 32 ≤ _ := p.2
 refine zd (zd (za kr (fun _ => (st (zb (v := Iw k) rfl (st (yz rfl (st (zg (v := (zi W (sb (zi W (sb dd0) (so dd0 + ty.toNat * 1 + 0))) (so (zi W (sb dd0) (so dd0 + ty.toNat * 1 + 0)) + fi.toNat * 4 + 3))) Tryd.isAgg77 rfl (zh (h.blk (i := 1) rfl) rfl) (st (zJ (n := ((((d.types.getD ty.toNat default).fields).getD fi.toNat default).moves).length) Tryd.underlying77 rfl e.sl (st (zL (k := .i64) (a := ((k : Nat) : Int)) (b := ((((((d.types.getD ty.toNat default).fields).getD fi.toNat default).moves).length : Nat) : Int)) rfl rfl (zf ?_))))))))))))))
 cases q : decide (((k : Nat) : Int) < ((((((d.types.getD ty.toNat default).fields).getD fi.toNat default).moves).length : Nat) : Int))
 have q := fD q
 refine zn rfl (yc (zU (zd (za kr (fun _ => (st (zb (v := vm) rfl (st (yz rfl (stn (yv (v := vm) (c := [Iv ((((d.types.getD ty.toNat default).fields).getD fi.toNat default).kind), Iv ((((d.types.getD ty.toNat default).fields).getD fi.toNat default).policy), .bool ((((d.types.getD ty.toNat default).fields).getD fi.toNat default).floor), (zi W (sb (zi W (sb dd0) (so dd0 + ty.toNat * 1 + 0))) (so (zi W (sb dd0) (so dd0 + ty.toNat * 1 + 0)) + fi.toNat * 4 + 3))]) (c' := [Iv ((((d.types.getD ty.toNat default).fields).getD fi.toNat default).kind), Iv ((((d.types.getD ty.toNat default).fields).getD fi.toNat default).policy), .bool ((((d.types.getD ty.toNat default).fields).getD fi.toNat default).floor), vm]) Tryd.sizeOf77 rfl rfl (h.blk (i := 1) rfl) p.1.one rfl rfl ?_)))))))))))
 intro w75 aN
 have ok77 : Fld.Ok (⟨(((d.types.getD ty.toNat default).fields).getD fi.toNat default).kind, (((d.types.getD ty.toNat default).fields).getD fi.toNat default).policy, (((d.types.getD ty.toNat default).fields).getD fi.toNat default).floor, ((d.types.getD ty.toNat default).fields.getD fi.toNat default).moves.take k⟩ : Fld) := ⟨(show InR ((((d.types.getD ty.toNat default).fields).getD fi.toNat default).kind) from m.kind), (show InR ((((d.types.getD ty.toNat default).fields).getD fi.toNat default).policy) from m.policy)⟩
 have C := h.pt1 aN
 refine zf (zd (za kr (fun _ => (st (zl (k := 4) Tryd.isAgg79 Tryd.sizeOf79 rfl rfl (CellsAt.all (C.blk (i := 1) rfl)) (stn (zy (v := .agg ((⟨(((d.types.getD ty.toNat default).fields).getD fi.toNat default).kind, (((d.types.getD ty.toNat default).fields).getD fi.toNat default).policy, (((d.types.getD ty.toNat default).fields).getD fi.toNat default).floor, ((d.types.getD ty.toNat default).fields.getD fi.toNat default).moves.take k⟩ : Fld).cells vm).toArray) (c' := ((⟨(((d.types.getD ty.toNat default).fields).getD fi.toNat default).kind, (((d.types.getD ty.toNat default).fields).getD fi.toNat default).policy, (((d.types.getD ty.toNat default).fields).getD fi.toNat default).floor, ((d.types.getD ty.toNat default).fields.getD fi.toNat default).moves.take k⟩ : Fld).cells vm).toArray) Tryd.sizeOf79 rfl rfl (C.blk (i := 2) rfl) (ya ⟨rfl, rfl, rfl, p.1.one, trivial⟩) (Nat.le_of_ble_eq_true rfl) rfl ?_)))))))
 intro w79 aO
 have ah := C.pt2 aO
 refine st (ze (v := .bool true) rfl (zf (zt (Zt (b := M) Tryd.results72 Tryd.isAgg79 Tryd.sizeOf79 rfl rfl (CellsAt.all (ah.blk (i := 2) rfl)) (show _ = (.bool true : Value) from rfl) ?_))))
 have aP := ah.s4_
 refine ⟨(((d.types.getD ty.toNat default).fields).getD fi.toNat default).kind, (((d.types.getD ty.toNat default).fields).getD fi.toNat default).policy, (((d.types.getD ty.toNat default).fields).getD fi.toNat default).floor, vm, true, rfl, ?_, ?_, aP⟩
 exact p.1.one
 intro _; omega
 have q := tD q
 refine zo rfl (zv (zd (zw (za kr (fun _ => (st (zb (v := vm) rfl (st (yz rfl (st (zg (v := (zi W (sb (zi W (sb dd0) (so dd0 + ty.toNat * 1 + 0))) (so (zi W (sb dd0) (so dd0 + ty.toNat * 1 + 0)) + fi.toNat * 4 + 3))) Tryd.isAgg77 rfl (zh (h.blk (i := 1) rfl) rfl) (st (zb (v := Iw k) rfl ?_)))))))))))))
 have aQ : k < ((((d.types.getD ty.toNat default).fields).getD fi.toNat default).moves).length := bo
 refine st (zk (k := 4) (i := k) Tryd.underlying77 Tryd.sizeOf115 rfl e.sl rfl aQ ?_)
 have D : k < ((((d.types.getD ty.toNat default).fields).getD fi.toNat default).moves).length := bo
 obtain ⟨K, s⟩ := e.mv D
 rw [← zm default D] at K s
 have am := h.cells K (e.foot (ne_of_lt D))
 refine st (zl (k := 4) Tryd.isAgg115 Tryd.sizeOf115 rfl rfl am (st (zD (k := 4) (parts' := [(0, .agg ((((((d.types.getD ty.toNat default).fields).getD fi.toNat default).moves).getD k default).cells).toArray)]) (c := ((((((d.types.getD ty.toNat default).fields).getD fi.toNat default).moves).getD k default).cells).toArray) Tryd.underlying77 Tryd.sizeOf115 Tryd.zeroValue115 dc rfl kr ?_)))
 intro w89 b88 aR
 have ai := h.new aR
 have an := ai.blk (i := 0) rfl
 have aS := ai.s5_bcde
 have aT := aS.emp1
 refine st (yp (src := own) (bytes := 32) (x1 := (((((d.types.getD ty.toNat default).fields).getD fi.toNat default).moves).getD k default)) aT Kh rfl rfl an (fun _ _ _ => (show _ from ⟨rfl, s⟩)) (by first | omega | (simp only [List.length_append, List.length_cons, List.length_nil, List.length_take, List.length_drop]; omega)) rfl ?_)
 intro aq w91 E
 have aU := E.row (i := 0) rfl
 have hr97s : _ * 32 ≤ _ := aU.2
 refine st (ze (v := aq) rfl (zf (za kr (fun _ => (st (zb (v := Iw k) rfl ?_))))))
 have aV : InR ((k + 1 : Nat) : Int) := bo
 refine st (zV (r := ((k + 1 : Nat) : Int)) (k := .i64) (a := ((k : Nat) : Int)) (b := 1) rfl rfl (by rw [show (((k : Nat) : Int) + 1 : Int) = ((k + 1 : Nat) : Int) from bo]; exact zM aV) (st (ze (v := Iw (k + 1)) rfl (zf ?_))))
 have aW : (((d.types.getD ty.toNat default).fields.getD fi.toNat default).moves.take (k + 1)) = (((d.types.getD ty.toNat default).fields.getD fi.toNat default).moves.take k) ++ [(((((d.types.getD ty.toNat default).fields).getD fi.toNat default).moves).getD k default)] := (List.take_getD om)
 rw [← aW] at E
 exact ⟨_, by omega, k + 1, aq, _, rfl, zq ⟨rfl, rfl, rfl, rfl, rfl, trivial⟩, by omega, E⟩
 try simp only [zj] at ad
 refine zo rfl (zd (za kr (fun _ => ?_)))
 have ok100 : Fld.Ok (⟨0, 0, false, []⟩ : Fld) := ⟨(show InR (0) from dc), (show InR (0) from dc)⟩
 refine st (zQ (parts' := []) (v := .agg ((⟨0, 0, false, []⟩ : Fld).cells (Iz)).toArray) rfl (by simp [Instr.build, Instr.fill, Ev.cells, go_sem, Mv.cells, Fld.cells, Typ.cells, Prj.cells, Dcl.cells, Cel.cells, AskR.cells, Ask.cells]) (stn (zy (v := .agg ((⟨0, 0, false, []⟩ : Fld).cells (Iz)).toArray) (c' := ((⟨0, 0, false, []⟩ : Fld).cells (Iz)).toArray) Tryd.sizeOf79 rfl rfl (g.blk (i := 0) rfl) (ya ⟨rfl, rfl, rfl, rfl, trivial⟩) (Nat.le_of_ble_eq_true rfl) rfl ?_)))
 intro w101 ao
 have L := g.pt0 ao
 refine st (ze (v := .bool false) rfl (zf (zt (Zt (b := M) Tryd.results72 Tryd.isAgg79 Tryd.sizeOf79 rfl rfl (CellsAt.all (L.blk (i := 0) rfl)) (show _ = (.bool false : Value) from rfl) ?_))))
 have ap := L.s2_
 refine ⟨0, 0, false, (Iz), false, rfl, ?_, ?_, ap⟩
 rfl
 intro h9; cases h9

end Go.Proofs.YtlblilbmpdejgaaDoor
/- Steps of the proofs of this seat: part C8. -/
set_option maxRecDepth 8000
namespace Go.Proofs.YtlblilbmpdejgaaDoor
open Go.Proofs Go.RowKit

theorem VR {d : Option Tmp} {ty : TypeId} {pos : String} {af : Array Edge} {g : Option (Nat × Bool)} {σ : Env} {w : World} {K : Value → World → Prop} {x : Operand} {b o : Nat} (hx : ev σ x = .pointer (some ⟨b, o, none⟩)) (h : K (.pointer (some ⟨b, o + 0, none⟩)) w) : opV Tryd.prog ⟨d, .fieldAddr 107 x 0, ty, pos, af, g⟩ σ w K := zA Tryd.underlying107 rfl rfl (fun w => ⟨0, Tryd.sizeOf3 w⟩) hx h
theorem Kb {d : Option Tmp} {ty : TypeId} {pos : String} {af : Array Edge} {g : Option (Nat × Bool)} {σ : Env} {w : World} {K : Value → World → Prop} {x : Operand} {b o : Nat} (hx : ev σ x = .pointer (some ⟨b, o, none⟩)) (h : K (.pointer (some ⟨b, o + 1, none⟩)) w) : opV Tryd.prog ⟨d, .fieldAddr 107 x 1, ty, pos, af, g⟩ σ w K := zA Tryd.underlying107 rfl rfl (fun w => ⟨0, Tryd.sizeOf3 w⟩) hx h
theorem YJ {d : Option Tmp} {ty : TypeId} {pos : String} {af : Array Edge} {g : Option (Nat × Bool)} {σ : Env} {w : World} {K : Value → World → Prop} {x : Operand} {b o : Nat} (hx : ev σ x = .pointer (some ⟨b, o, none⟩)) (h : K (.pointer (some ⟨b, o + 2, none⟩)) w) : opV Tryd.prog ⟨d, .fieldAddr 107 x 2, ty, pos, af, g⟩ σ w K := zA Tryd.underlying107 rfl rfl (fun w => ⟨0, Tryd.sizeOf3 w⟩) hx h
theorem VW {d : Option Tmp} {ty : TypeId} {pos : String} {af : Array Edge} {g : Option (Nat × Bool)} {σ : Env} {w : World} {K : Value → World → Prop} {x : Operand} {b o : Nat} (hx : ev σ x = .pointer (some ⟨b, o, none⟩)) (h : K (.pointer (some ⟨b, o + 3, none⟩)) w) : opV Tryd.prog ⟨d, .fieldAddr 107 x 3, ty, pos, af, g⟩ σ w K := zA Tryd.underlying107 rfl rfl (fun w => ⟨0, Tryd.sizeOf3 w⟩) hx h
theorem VI {d : Option Tmp} {ty : TypeId} {pos : String} {af : Array Edge} {g : Option (Nat × Bool)} {σ : Env} {w : World} {K : Value → World → Prop} {x : Operand} {b o : Nat} (hx : ev σ x = .pointer (some ⟨b, o, none⟩)) (h : K (.pointer (some ⟨b, o + 4, none⟩)) w) : opV Tryd.prog ⟨d, .fieldAddr 107 x 4, ty, pos, af, g⟩ σ w K := zA Tryd.underlying107 rfl rfl (fun w => ⟨0, Tryd.sizeOf3 w⟩) hx h
theorem Ks {G : Nat → Prop} {W w : World} {Rs : List HP} {d : Dcl} {dd0 : Value} (hdd0 : RdS W G dd0 d.types) {dd1 : Value} (hdd1 : RdS W G dd1 d.projs) (od : d.Ok) (hS0 : Sep G W Rs w) : Ret Tryd.prog 46 [.agg (d.cells dd0 dd1).toArray] w (fun r w' => ∃ (e : Int), r = (.int .i64 (e) : Value) ∧ (InR e) ∧ (e = 0 → DclOk d) ∧ Sep G W Rs w') := by
 have hdd0s : _ * 24 ≤ _ := hdd0.small
 have hdd1s : _ * 40 ≤ _ := hdd1.small
 refine zr (args := [.agg (d.cells dd0 dd1).toArray]) Tryd.func46 rfl rfl ?_
 refine zd (za kr (fun _ => (st (zT (v := .agg (d.cells dd0 dd1).toArray) rfl ?_))))
 intro w3 b2 dB
 have dk := hS0.new dB
 refine st (ze (v := Iv 0) rfl (zf (zd (zd (za kr (fun _ => (st (zl (k := 2) Tryd.isAgg25 Tryd.sizeOf25 rfl rfl (CellsAt.all (dk.blk (i := 0) rfl)) (st (zu (f := 70) (vals := [.agg (d.cells dd0 dd1).toArray]) (cap := []) rfl rfl Tryd.call70 (KE (d := d) hdd0 hdd1 od dk) ?_))))))))))
 rintro _ w7 ⟨b5, rfl, dC, dl⟩
 refine zf ?_
 cases dD : b5
 have hfew := dC dD
 refine zn rfl (zv (zd (zd (za kr (fun _ => (st (ze (v := Iv 0) rfl (zf (zw (yd (fun mq σ Z => ∃ (k : Nat) (ρ : Env), mq = d.types.length - k ∧ σ = yh ρ [(1, Ix b2 0), (3, Iw k)] ∧ (k ≤ d.types.length) ∧ (∀ i, i < k → ∀ j, j < (d.types.getD i default).fields.length → Ww (d.types.getD i default) ((d.types.getD i default).fields.getD j default)) ∧ Sep G W ((Blk b2 (d.cells dd0 dd1).toArray 25) :: Rs) Z) ⟨0, _, rfl, zq ⟨rfl, rfl, trivial⟩, Nat.zero_le _, (fun i h => absurd h (Nat.not_lt_zero i)), dl⟩ ?_))))))))))
 rintro m11 σ12 w10 ⟨k, ρl1, rfl, rfl, hkk, hm, aH⟩
 refine zd (zd (za kr (fun _ => (st (zb (v := Iw k) rfl (st (yo rfl (st (zg (v := dd0) Tryd.isAgg22 rfl (zh (aH.blk (i := 0) rfl) rfl) (st (zJ (n := d.types.length) Tryd.underlying22 rfl hdd0.sl (st (zL (k := .i64) (a := ((k : Nat) : Int)) (b := ((d.types.length : Nat) : Int)) rfl rfl (zf ?_))))))))))))))
 cases ao : decide (((k : Nat) : Int) < ((d.types.length : Nat) : Int))
 have ao := fD ao
 refine zn rfl (yc (zU (zd (zd (za kr (fun _ => (st (ze (v := Iv 0) rfl (zf (zw (yd (fun mq σ Z => ∃ (z : Nat) (ρ : Env), mq = d.projs.length - z ∧ σ = yh ρ [(1, Ix b2 0), (6, Iw z)] ∧ (z ≤ d.projs.length) ∧ Sep G W ((Blk b2 (d.cells dd0 dd1).toArray 25) :: Rs) Z) ⟨0, _, rfl, zq ⟨rfl, rfl, trivial⟩, Nat.zero_le _, aH⟩ ?_)))))))))))
 rintro m16 σ17 w15 ⟨z, ρl2, rfl, rfl, hkz, ah⟩
 refine zd (zd (za kr (fun _ => (st (zb (v := Iw z) rfl (st (xS rfl (st (zg (v := dd1) Tryd.isAgg23 rfl (zh (ah.blk (i := 0) rfl) rfl) (st (zJ (n := d.projs.length) Tryd.underlying23 rfl hdd1.sl (st (zL (k := .i64) (a := ((z : Nat) : Int)) (b := ((d.projs.length : Nat) : Int)) rfl rfl (zf ?_))))))))))))))
 cases ap : decide (((z : Nat) : Int) < ((d.projs.length : Nat) : Int))
 have ap := fD ap
 refine zn rfl (yc (zU (zd (za kr (fun _ => (st (ze (v := Iv 0) rfl (zf (zt (zO Tryd.results46 (show _ = (Iv 0 : Value) from rfl) ?_))))))))))
 have dp := ah.s1_
 refine ⟨0, rfl, ?_, ?_, dp⟩
 first | decide | assumption
 intro h9
 exact KD hfew (fun i hi => hm i om)
 have ap := tD ap
 refine zo rfl (zv (zd (zw (zd (za kr (fun _ => (st (xS rfl (st (zg (v := dd1) Tryd.isAgg23 rfl (zh (ah.blk (i := 0) rfl) rfl) (st (zb (v := Iw z) rfl ?_))))))))))))
 have dq : z < d.projs.length := bo
 refine st (zk (k := 5) (i := z) Tryd.underlying23 Tryd.sizeOf107 rfl hdd1.sl rfl dq ?_)
 have aI : z < d.projs.length := bo
 obtain ⟨aK, K⟩ := hdd1.prj aI
 rw [← zm default aI] at aK K
 have bQ := ah.cells aK (hdd1.foot (ne_of_lt aI))
 refine st (zl (k := 5) Tryd.isAgg107 Tryd.sizeOf107 rfl rfl bQ (st (zB Tryd.zeroValue107 ?_)))
 intro w27 o dr
 have bG := ah.new dr
 refine stn (zy (v := .agg ((d.projs.getD z default).cells).toArray) (c' := ((d.projs.getD z default).cells).toArray) Tryd.sizeOf107 rfl rfl (bG.blk (i := 0) rfl) (ya ⟨rfl, rfl, rfl, rfl, rfl, trivial⟩) (Nat.le_of_ble_eq_true rfl) rfl ?_)
 intro w29 ds
 have ar := bG.pt0 ds
 refine zf (zd (za kr (fun _ => (st (zl (k := 2) Tryd.isAgg25 Tryd.sizeOf25 rfl rfl (CellsAt.all (ar.blk (i := 1) rfl)) (st (VR rfl (st (zg (v := Iv ((d.projs.getD z default).ptyp)) Tryd.isAgg3 rfl (zh (ar.blk (i := 0) rfl) rfl) (st (Kb rfl (st (zg (v := Iv ((d.projs.getD z default).pfield)) Tryd.isAgg3 rfl (zh (ar.blk (i := 0) rfl) rfl) (st (zu (f := 72) (vals := [.agg (d.cells dd0 dd1).toArray, Iv ((d.projs.getD z default).ptyp), Iv ((d.projs.getD z default).pfield)]) (cap := []) rfl rfl Tryd.call72 (Km (d := d) (ty := (d.projs.getD z default).ptyp) (fi := (d.projs.getD z default).pfield) hdd0 hdd1 od K.ptyp K.pfield ar) ?_)))))))))))))))
 rintro _ w39 ⟨p, q, s, u, x, rfl, hdx37, bH, dt⟩
 refine st (zb (v := .tuple #[.agg #[Iv p, Iv q, .bool s, u], .bool x]) rfl (st (zE (vs := [.agg #[Iv p, Iv q, .bool s, u], .bool x]) (i := 0) (v := .agg #[Iv p, Iv q, .bool s, u]) rfl rfl (st (zE (vs := [.agg #[Iv p, Iv q, .bool s, u], .bool x]) (i := 1) (v := .bool x) rfl rfl (st (zB Tryd.zeroValue79 ?_)))))))
 intro w43 bI du
 have bJ := dt.new du
 refine stn (zy (v := .agg #[Iv p, Iv q, .bool s, u]) (c' := #[Iv p, Iv q, .bool s, u]) Tryd.sizeOf79 rfl rfl (bJ.blk (i := 0) rfl) (ya ⟨rfl, rfl, rfl, (by assumption), trivial⟩) (Nat.le_of_ble_eq_true rfl) rfl ?_)
 intro w45 dv
 have bK := bJ.pt0 dv
 refine st (ze (v := .bool x) rfl (zf (zd (zd (za kr (fun _ => (st (zb (v := .bool x) rfl (st (yt (a := x) rfl (zf ?_)))))))))))
 cases aJ : !x
 try simp only [zj] at aJ
 have hpt := bH (by have h9 := aJ; simpa using h9)
 refine zn rfl (zv (zd (zd ?_)))
 refine WD4 ((fun TT aC => WF [fun vals Z => Sep G W (aC :: TT) Z, fun vals Z => (vals 12 = (if (decide (((d.projs.getD z default).pgroup) = 3)) = true then (Iv ((yB (d.types.getD (((d.projs.getD z default).ptyp).toNat) default) ((d.projs.getD z default).pby))) : Value) else undef)) ∧ Sep G W (aC :: TT) Z]) ((Blk o ((d.projs.getD z default).cells).toArray 107) :: (Blk b2 (d.cells dd0 dd1).toArray 25) :: Rs) (Blk bI #[Iv p, Iv q, .bool s, u] 79)) (AF [Vl 0 (Ix o 2), Vl 1 (Iv ((d.projs.getD z default).pgroup)), Vl 2 (.bool (decide (((d.projs.getD z default).pgroup) = 3))), Vl 3 (.bool (decide (((d.projs.getD z default).pgroup) = 3))), Vl 4 (if (decide (((d.projs.getD z default).pgroup) = 3)) = true then Ix b2 0 else undef), Vl 5 (if (decide (((d.projs.getD z default).pgroup) = 3)) = true then dd0 else undef), Vl 6 (if (decide (((d.projs.getD z default).pgroup) = 3)) = true then Ix o 0 else undef), Vl 7 (if (decide (((d.projs.getD z default).pgroup) = 3)) = true then Iv ((d.projs.getD z default).ptyp) else undef), Vl 8 (if (decide (((d.projs.getD z default).pgroup) = 3)) = true then Ix (sb dd0) (so dd0 + (((d.projs.getD z default).ptyp).toNat) * 1) else undef), Vl 9 (if (decide (((d.projs.getD z default).pgroup) = 3)) = true then .agg ((d.types.getD (((d.projs.getD z default).ptyp).toNat) default).cells (zi W (sb dd0) (so dd0 + (((d.projs.getD z default).ptyp).toNat) * 1 + 0))).toArray else undef), Vl 10 (if (decide (((d.projs.getD z default).pgroup) = 3)) = true then Ix o 3 else undef), Vl 11 (if (decide (((d.projs.getD z default).pgroup) = 3)) = true then Iv ((d.projs.getD z default).pby) else undef), fun _ => True, Vl 13 (if (decide (((d.projs.getD z default).pgroup) = 3)) = true then .bool (!decide ((yB (d.types.getD (((d.projs.getD z default).ptyp).toNat) default) ((d.projs.getD z default).pby)) = 2)) else undef), Vl 14 (.bool ((decide (((d.projs.getD z default).pgroup) = 3)) && (!decide ((yB (d.types.getD (((d.projs.getD z default).ptyp).toNat) default) ((d.projs.getD z default).pby)) = 2)))), Vl 15 (.bool ((decide (((d.projs.getD z default).pgroup) = 3)) && (!decide ((yB (d.types.getD (((d.projs.getD z default).ptyp).toNat) default) ((d.projs.getD z default).pby)) = 2)))), Vl 16 (if ((decide (((d.projs.getD z default).pgroup) = 3)) && (!decide ((yB (d.types.getD (((d.projs.getD z default).ptyp).toNat) default) ((d.projs.getD z default).pby)) = 2))) = false then Ix o 2 else undef), Vl 17 (if ((decide (((d.projs.getD z default).pgroup) = 3)) && (!decide ((yB (d.types.getD (((d.projs.getD z default).ptyp).toNat) default) ((d.projs.getD z default).pby)) = 2))) = false then Iv ((d.projs.getD z default).pgroup) else undef), Vl 18 (if ((decide (((d.projs.getD z default).pgroup) = 3)) && (!decide ((yB (d.types.getD (((d.projs.getD z default).ptyp).toNat) default) ((d.projs.getD z default).pby)) = 2))) = false then .bool (!decide (((d.projs.getD z default).pgroup) = 3)) else undef), Vl 19 (if ((decide (((d.projs.getD z default).pgroup) = 3)) && (!decide ((yB (d.types.getD (((d.projs.getD z default).ptyp).toNat) default) ((d.projs.getD z default).pby)) = 2))) = false then .bool (!decide (((d.projs.getD z default).pgroup) = 3)) else undef), Vl 20 (if (((decide (((d.projs.getD z default).pgroup) = 3)) && (!decide ((yB (d.types.getD (((d.projs.getD z default).ptyp).toNat) default) ((d.projs.getD z default).pby)) = 2))) = false) ∧ (!decide (((d.projs.getD z default).pgroup) = 3)) = true then Ix o 3 else undef), Vl 21 (if (((decide (((d.projs.getD z default).pgroup) = 3)) && (!decide ((yB (d.types.getD (((d.projs.getD z default).ptyp).toNat) default) ((d.projs.getD z default).pby)) = 2))) = false) ∧ (!decide (((d.projs.getD z default).pgroup) = 3)) = true then Iv ((d.projs.getD z default).pby) else undef), Vl 22 (if (((decide (((d.projs.getD z default).pgroup) = 3)) && (!decide ((yB (d.types.getD (((d.projs.getD z default).ptyp).toNat) default) ((d.projs.getD z default).pby)) = 2))) = false) ∧ (!decide (((d.projs.getD z default).pgroup) = 3)) = true then .bool (!decide (((d.projs.getD z default).pby) = 0)) else undef), Vl 23 (if ((decide (((d.projs.getD z default).pgroup) = 3)) && (!decide ((yB (d.types.getD (((d.projs.getD z default).ptyp).toNat) default) ((d.projs.getD z default).pby)) = 2))) = false then .bool ((!decide (((d.projs.getD z default).pgroup) = 3)) && (!decide (((d.projs.getD z default).pby) = 0))) else undef), Vl 24 (.bool (((decide (((d.projs.getD z default).pgroup) = 3)) && (!decide ((yB (d.types.getD (((d.projs.getD z default).ptyp).toNat) default) ((d.projs.getD z default).pby)) = 2))) || ((!decide (((d.projs.getD z default).pgroup) = 3)) && (!decide (((d.projs.getD z default).pby) = 0)))))]) [[], [0], [0, 1], [0, 1, 2], (rg 4), (rg 5), (rg 4), [0, 1, 2, 3, 6], (rg 8), (rg 9), (rg 4), [0, 1, 2, 3, 10], (rg 12), (rg 13), (rg 14), (rg 15), (rg 16), (rg 17), (rg 18), (rg 19), (rg 20), (rg 21), (rg 22), (rg 23), (rg 24)] [12] [(0, 0), (0, 0), (0, 0), (0, 0), (0, 0), (0, 0), (0, 0), (0, 0), (0, 0), (0, 0), (0, 0), (0, 0), (0, 0), (1, 1), (1, 1), (1, 1), (1, 1), (1, 1), (1, 1), (1, 1), (1, 1), (1, 1), (1, 1), (1, 1), (1, 1)] bK ⟨?_, ?_, ?_, ?_, ?_, ?_, ?_, ?_, ?_, ?_, ?_, ?_, ?_, ?_, ?_, ?_, ?_, ?_, ?_, ?_, ?_, ?_, ?_, ?_, ?_, trivial⟩ ?_
 exact fun _ _ _ _ _ _ _ => obl rfl (YJ rfl dR)
 exact ob1 0 fun _ _ (bR : Sep _ _ _ _) bS => obl rfl (zg (v := Iv ((d.projs.getD z default).pgroup)) Tryd.isAgg3 (bS 0 dc) (zh (bR.blk (i := 1) rfl) rfl) dR)
 exact ob1 0 fun _ _ _ bT => obl rfl (zP (k := .i64) (a := (d.projs.getD z default).pgroup) (b := 3) (bT 1 dc) rfl dR)
 exact fun _ _ _ _ _ _ bU => obl rfl (zb (v := .bool (decide (((d.projs.getD z default).pgroup) = 3))) (bU 2 dc) dR)
 refine fun _ _ _ _ _ _ bV => (zN rfl rfl (bV 3 dc) (fun aa => ?_) (fun aa => fun c g _ => ⟨trivial, g.trans (if_neg aa).symm⟩))
 have aL := aa
 have aL := tD aL
 exact yo rfl (fun c g _ => ⟨rfl, g.trans (if_pos aa).symm⟩)
 refine ob1 0 fun _ _ (bW : Sep _ _ _ _) aM => (zN rfl rfl (aM 3 dc) (fun L => ?_) (fun L => fun c g _ => ⟨trivial, g.trans (if_neg L).symm⟩))
 have aN := L
 have aN := tD aN
 exact zg (v := dd0) Tryd.isAgg22 (show _ = (Ix b2 0 : Value) from (Eq.trans (aM 4 dc) (if_pos L))) (zh (bW.blk (i := 2) rfl) rfl) (fun c g _ => ⟨rfl, g.trans (if_pos L).symm⟩)
 refine fun _ _ _ _ _ _ bX => (zN rfl rfl (bX 3 dc) (fun ab => ?_) (fun ab => fun c g _ => ⟨trivial, g.trans (if_neg ab).symm⟩))
 have aO := ab
 have aO := tD aO
 exact VR rfl (fun c g _ => ⟨rfl, g.trans (if_pos ab).symm⟩)
 refine ob1 0 fun _ _ (bY : Sep _ _ _ _) aP => (zN rfl rfl (aP 3 dc) (fun M => ?_) (fun M => fun c g _ => ⟨trivial, g.trans (if_neg M).symm⟩))
 have aQ := M
 have aQ := tD aQ
 exact zg (v := Iv ((d.projs.getD z default).ptyp)) Tryd.isAgg3 (show _ = (Ix o 0 : Value) from (Eq.trans (aP 6 dc) (if_pos M))) (zh (bY.blk (i := 1) rfl) rfl) (fun c g _ => ⟨rfl, g.trans (if_pos M).symm⟩)
 refine ob1 0 fun _ _ _ au => (zN rfl rfl (au 3 dc) (fun C => ?_) (fun C => fun c g _ => ⟨trivial, g.trans (if_neg C).symm⟩))
 have aR := C
 have aR := tD aR
 have hi385 : ((d.projs.getD z default).ptyp).toNat < d.types.length := bo
 exact zz (k := 1) (i := (d.projs.getD z default).ptyp) Tryd.underlying22 Tryd.sizeOf33 (show _ = (dd0 : Value) from (Eq.trans (au 5 dc) (if_pos C))) hdd0.sl (show _ = (Iv ((d.projs.getD z default).ptyp) : Value) from (Eq.trans (au 7 dc) (if_pos C))) ⟨by omega, by omega⟩ (fun c g _ => ⟨rfl, g.trans (if_pos C).symm⟩)
 refine ob1 0 fun _ _ (bZ : Sep _ _ _ _) aS => (zN rfl rfl (aS 3 dc) (fun N => ?_) (fun N => fun c g _ => ⟨trivial, g.trans (if_neg N).symm⟩))
 have aT := N
 have aT := tD aT
 have av : ((d.projs.getD z default).ptyp).toNat < d.types.length := bo
 obtain ⟨aD, ai, bE⟩ := hdd0.typ av
 rw [← zm default av] at aD ai bE
 have hsm399 : ((d.types.getD (((d.projs.getD z default).ptyp).toNat) default).fields).length * 48 ≤ 140737488355328 := ai.small
 have bL := bZ.cells aD (hdd0.foot (ne_of_lt av))
 exact zl (k := 1) Tryd.isAgg33 Tryd.sizeOf33 rfl (show _ = (Ix (sb dd0) (so dd0 + (((d.projs.getD z default).ptyp).toNat) * 1) : Value) from (Eq.trans (aS 8 dc) (if_pos N))) bL (fun c g _ => ⟨rfl, g.trans (if_pos N).symm⟩)
 refine fun _ _ _ _ _ _ ca => (zN rfl rfl (ca 3 dc) (fun ac => ?_) (fun ac => fun c g _ => ⟨trivial, g.trans (if_neg ac).symm⟩))
 have aU := ac
 have aU := tD aU
 exact VW rfl (fun c g _ => ⟨rfl, g.trans (if_pos ac).symm⟩)
 refine ob1 0 fun _ _ (cb : Sep _ _ _ _) aV => (zN rfl rfl (aV 3 dc) (fun O => ?_) (fun O => fun c g _ => ⟨trivial, g.trans (if_neg O).symm⟩))
 have aW := O
 have aW := tD aW
 exact zg (v := Iv ((d.projs.getD z default).pby)) Tryd.isAgg3 (show _ = (Ix o 3 : Value) from (Eq.trans (aV 10 dc) (if_pos O))) (zh (cb.blk (i := 1) rfl) rfl) (fun c g _ => ⟨rfl, g.trans (if_pos O).symm⟩)
 refine ob1 0 fun vals dw (aw : Sep _ _ _ _) ax => (zN rfl rfl (ax 3 dc) (fun D => ?_) (fun D c g aX => ?_))
 have aY := D
 have aY := tD aY
 have ay : ((d.projs.getD z default).ptyp).toNat < d.types.length := bo
 obtain ⟨aE, I, al⟩ := hdd0.typ ay
 rw [← zm default ay] at aE I al
 have hsm180 : ((d.types.getD (((d.projs.getD z default).ptyp).toNat) default).fields).length * 48 ≤ 140737488355328 := I.small
 have hcw181 := aw.cells aE (hdd0.foot (ne_of_lt ay))
 refine (zu (f := 73) (vals := [.agg ((d.types.getD (((d.projs.getD z default).ptyp).toNat) default).cells (zi W (sb dd0) (so dd0 + (((d.projs.getD z default).ptyp).toNat) * 1 + 0))).toArray, Iv ((d.projs.getD z default).pby)]) (cap := []) rfl (yP ⟨(show _ = (.agg ((d.types.getD (((d.projs.getD z default).ptyp).toNat) default).cells (zi W (sb dd0) (so dd0 + (((d.projs.getD z default).ptyp).toNat) * 1 + 0))).toArray : Value) from (Eq.trans (ax 9 dc) (if_pos D))), (show _ = (Iv ((d.projs.getD z default).pby) : Value) from (Eq.trans (ax 11 dc) (if_pos D))), trivial⟩) Tryd.call73 (Ql (t := (d.types.getD (((d.projs.getD z default).ptyp).toNat) default)) (n := (d.projs.getD z default).pby) I al K.pby aw) ?_)
 rintro _ w182 ⟨rfl, cc⟩
 exact fun c g aX => ⟨(And.intro (g.trans (if_pos D).symm) cc), trivial⟩
 refine ⟨?_, trivial⟩
 show (c 12 = (if (decide (((d.projs.getD z default).pgroup) = 3)) = true then (Iv ((yB (d.types.getD (((d.projs.getD z default).ptyp).toNat) default) ((d.projs.getD z default).pby))) : Value) else undef)) ∧ Sep G W ((Blk bI #[Iv p, Iv q, .bool s, u] 79) :: (Blk o ((d.projs.getD z default).cells).toArray 107) :: (Blk b2 (d.cells dd0 dd1).toArray 25) :: Rs) dw
 exact ⟨(g.trans (if_neg D).symm), aw⟩
 refine ob1 1 fun _ _ cd ce => ?_
 obtain ⟨E, hS427⟩ := cd
 refine zN rfl rfl (ce 3 dc) (fun P => ?_) (fun P => fun c g _ => ⟨trivial, g.trans (if_neg P).symm⟩)
 have aZ := P
 have aZ := tD aZ
 exact yq (k := .i64) (a := (yB (d.types.getD (((d.projs.getD z default).ptyp).toNat) default) ((d.projs.getD z default).pby))) (b := 2) (show _ = (Iv ((yB (d.types.getD (((d.projs.getD z default).ptyp).toNat) default) ((d.projs.getD z default).pby))) : Value) from (Eq.trans E (if_pos P))) rfl (fun c g _ => ⟨rfl, g.trans (if_pos P).symm⟩)
 exact fun _ _ _ _ _ _ ba => obl rfl (zx (b := decide (((d.projs.getD z default).pgroup) = 3)) (b' := !decide ((yB (d.types.getD (((d.projs.getD z default).ptyp).toNat) default) ((d.projs.getD z default).pby)) = 2)) (ba 3 dc) (fun hbp => (show _ = (.bool (!decide ((yB (d.types.getD (((d.projs.getD z default).ptyp).toNat) default) ((d.projs.getD z default).pby)) = 2)) : Value) from (Eq.trans (ba 13 dc) (if_pos hbp)))) dR)
 exact fun _ _ _ _ _ _ cf => obl rfl (zb (v := .bool ((decide (((d.projs.getD z default).pgroup) = 3)) && (!decide ((yB (d.types.getD (((d.projs.getD z default).ptyp).toNat) default) ((d.projs.getD z default).pby)) = 2)))) (cf 14 dc) dR)
 refine fun _ _ _ _ _ _ cg => (zN rfl rfl (cg 15 dc) (fun ad => ?_) (fun ad => fun c g _ => ⟨trivial, g.trans (if_neg ad).symm⟩))
 have ch := ad
 try simp only [zj] at ch
 exact YJ rfl (fun c g _ => ⟨rfl, g.trans (if_pos ad).symm⟩)
 refine ob1 1 fun _ _ ci bb => ?_
 obtain ⟨E, cj⟩ := ci
 refine zN rfl rfl (bb 15 dc) (fun Q => ?_) (fun Q => fun c g _ => ⟨trivial, g.trans (if_neg Q).symm⟩)
 have ck := Q
 try simp only [zj] at ck
 exact zg (v := Iv ((d.projs.getD z default).pgroup)) Tryd.isAgg3 (show _ = (Ix o 2 : Value) from (Eq.trans (bb 16 dc) (if_pos Q))) (zh (cj.blk (i := 1) rfl) rfl) (fun c g _ => ⟨rfl, g.trans (if_pos Q).symm⟩)
 refine ob1 1 fun _ _ cl bc => ?_
 obtain ⟨E, hS472⟩ := cl
 refine zN rfl rfl (bc 15 dc) (fun R => ?_) (fun R => fun c g _ => ⟨trivial, g.trans (if_neg R).symm⟩)
 have cm := R
 try simp only [zj] at cm
 exact yq (k := .i64) (a := (d.projs.getD z default).pgroup) (b := 3) (show _ = (Iv ((d.projs.getD z default).pgroup) : Value) from (Eq.trans (bc 17 dc) (if_pos R))) rfl (fun c g _ => ⟨rfl, g.trans (if_pos R).symm⟩)
 refine fun _ _ _ _ _ _ bd => (zN rfl rfl (bd 15 dc) (fun S => ?_) (fun S => fun c g _ => ⟨trivial, g.trans (if_neg S).symm⟩))
 have cn := S
 try simp only [zj] at cn
 exact zb (v := .bool (!decide (((d.projs.getD z default).pgroup) = 3))) (show _ = (.bool (!decide (((d.projs.getD z default).pgroup) = 3)) : Value) from (Eq.trans (bd 18 dc) (if_pos S))) (fun c g _ => ⟨rfl, g.trans (if_pos S).symm⟩)
 refine fun _ _ _ _ _ _ co => (xg rfl rfl (co 19 dc) (fun T => ?_) (fun T => fun c g _ => ⟨trivial, g.trans (if_neg T).symm⟩))
 have cp := T.1
 try simp only [zj] at cp
 have be := T.2
 have be := zR be
 exact VW rfl (fun c g _ => ⟨rfl, g.trans (if_pos T).symm⟩)
 refine ob1 1 fun _ _ cq bf => ?_
 obtain ⟨E, cr⟩ := cq
 refine xg rfl rfl (bf 19 dc) (fun y => ?_) (fun y => fun c g _ => ⟨trivial, g.trans (if_neg y).symm⟩)
 have cs := y.1
 try simp only [zj] at cs
 have bg := y.2
 have bg := zR bg
 exact zg (v := Iv ((d.projs.getD z default).pby)) Tryd.isAgg3 (show _ = (Ix o 3 : Value) from (Eq.trans (bf 20 dc) (if_pos ⟨y.1, y.2⟩))) (zh (cr.blk (i := 1) rfl) rfl) (fun c g _ => ⟨rfl, g.trans (if_pos y).symm⟩)
 refine ob1 1 fun _ _ ct bh => ?_
 obtain ⟨E, hS515⟩ := ct
 refine xg rfl rfl (bh 19 dc) (fun A => ?_) (fun A => fun c g _ => ⟨trivial, g.trans (if_neg A).symm⟩)
 have cu := A.1
 try simp only [zj] at cu
 have bi := A.2
 have bi := zR bi
 exact yq (k := .i64) (a := (d.projs.getD z default).pby) (b := 0) (show _ = (Iv ((d.projs.getD z default).pby) : Value) from (Eq.trans (bh 21 dc) (if_pos ⟨A.1, A.2⟩))) rfl (fun c g _ => ⟨rfl, g.trans (if_pos A).symm⟩)
 refine fun _ _ _ _ _ _ az => (zN rfl rfl (az 15 dc) (fun F => ?_) (fun F => fun c g _ => ⟨trivial, g.trans (if_neg F).symm⟩))
 have cv := F
 try simp only [zj] at cv
 exact zx (b := !decide (((d.projs.getD z default).pgroup) = 3)) (b' := !decide (((d.projs.getD z default).pby) = 0)) (show _ = (.bool (!decide (((d.projs.getD z default).pgroup) = 3)) : Value) from (Eq.trans (az 19 dc) (if_pos F))) (fun hbp => (show _ = (.bool (!decide (((d.projs.getD z default).pby) = 0)) : Value) from (Eq.trans (az 22 dc) (if_pos ⟨F, hbp⟩)))) (fun c g _ => ⟨rfl, g.trans (if_pos F).symm⟩)
 exact fun _ _ _ _ _ _ bj => obl rfl (zG (b := (decide (((d.projs.getD z default).pgroup) = 3)) && (!decide ((yB (d.types.getD (((d.projs.getD z default).ptyp).toNat) default) ((d.projs.getD z default).pby)) = 2))) (b' := (!decide (((d.projs.getD z default).pgroup) = 3)) && (!decide (((d.projs.getD z default).pby) = 0))) (bj 15 dc) (fun hbp => (show _ = (.bool ((!decide (((d.projs.getD z default).pgroup) = 3)) && (!decide (((d.projs.getD z default).pby) = 0))) : Value) from (Eq.trans (bj 23 dc) (if_pos hbp)))) dR)
 intro vals dx cw cx
 obtain ⟨E, B⟩ := cw
 have dy := cx 24 dc
 refine yf (kv := [(1, Ix b2 0), (6, Iw z), (48, Iw z), (49, Ix b2 1), (50, dd1), (51, Iw d.projs.length), (52, .bool true), (55, Ix b2 1), (56, dd1), (57, Iw z), (58, Ix (sb dd1) (so dd1 + z * 5)), (59, .agg ((d.projs.getD z default).cells).toArray), (7, Ix o 0), (61, .agg (d.cells dd0 dd1).toArray), (62, Ix o 0), (63, Iv ((d.projs.getD z default).ptyp)), (64, Ix o 1), (65, Iv ((d.projs.getD z default).pfield)), (66, .tuple #[.agg #[Iv p, Iv q, .bool s, u], .bool x]), (60, .tuple #[.agg #[Iv p, Iv q, .bool s, u], .bool x]), (67, .agg #[Iv p, Iv q, .bool s, u]), (68, .bool x), (8, Ix bI 0), (9, .bool x), (69, .bool x), (70, .bool false), (95, .bool (((decide (((d.projs.getD z default).pgroup) = 3)) && (!decide ((yB (d.types.getD (((d.projs.getD z default).ptyp).toNat) default) ((d.projs.getD z default).pby)) = 2))) || ((!decide (((d.projs.getD z default).pgroup) = 3)) && (!decide (((d.projs.getD z default).pby) = 0)))))]) ⟨rfl, rfl, rfl, rfl, rfl, rfl, rfl, rfl, rfl, rfl, rfl, rfl, rfl, rfl, rfl, rfl, rfl, rfl, rfl, rfl, rfl, rfl, rfl, rfl, rfl, rfl, (by exact dy), trivial⟩ (fun ρw540 => ?_)
 refine zf ?_
 cases bk : ((decide (((d.projs.getD z default).pgroup) = 3)) && (!decide ((yB (d.types.getD (((d.projs.getD z default).ptyp).toNat) default) ((d.projs.getD z default).pby)) = 2))) || ((!decide (((d.projs.getD z default).pgroup) = 3)) && (!decide (((d.projs.getD z default).pby) = 0)))
 try simp only [zj] at bk
 refine zn rfl (zv (zd (zF kr (st (YJ rfl (st (zg (v := Iv ((d.projs.getD z default).pgroup)) Tryd.isAgg3 rfl (zh (B.blk (i := 1) rfl) rfl) (st (zL (k := .i64) (a := (d.projs.getD z default).pgroup) (b := 1) rfl rfl (st (zb (v := .bool (decide (((d.projs.getD z default).pgroup) < 1))) rfl (stc (V := Ix o 2) rfl rfl (fun cy => ?_) ?_))))))))))))
 have bl := cy
 have bl := fD bl
 exact YJ rfl ⟨rfl, rfl⟩
 refine stc (V := Iv ((d.projs.getD z default).pgroup)) rfl rfl (fun bm => ?_) ?_
 have bn := bm
 have bn := fD bn
 exact zg (v := Iv ((d.projs.getD z default).pgroup)) Tryd.isAgg3 (show _ = (Ix o 2 : Value) from (if_pos bm)) (zh (B.blk (i := 1) rfl) rfl) ⟨rfl, rfl⟩
 refine stc (V := .bool (decide (3 < ((d.projs.getD z default).pgroup)))) rfl rfl (fun bp => ?_) ?_
 have bq := bp
 have bq := fD bq
 exact yT (k := .i64) (a := (d.projs.getD z default).pgroup) (b := 3) (show _ = (Iv ((d.projs.getD z default).pgroup) : Value) from (if_pos bp)) rfl ⟨rfl, rfl⟩
 refine st (zG (b := decide (((d.projs.getD z default).pgroup) < 1)) (b' := decide (3 < ((d.projs.getD z default).pgroup))) rfl (fun hbp => (show _ = (.bool (decide (3 < ((d.projs.getD z default).pgroup))) : Value) from (if_pos hbp))) (st (zb (v := .bool ((decide (((d.projs.getD z default).pgroup) < 1)) || (decide (3 < ((d.projs.getD z default).pgroup))))) rfl (stc (V := Ix o 4) rfl rfl (fun cz => ?_) ?_))))
 have cA := cz
 try simp only [zj] at cA
 exact VI rfl ⟨rfl, rfl⟩
 refine stc (V := Iv ((d.projs.getD z default).pmake)) rfl rfl (fun br => ?_) ?_
 have cB := br
 try simp only [zj] at cB
 exact zg (v := Iv ((d.projs.getD z default).pmake)) Tryd.isAgg3 (show _ = (Ix o 4 : Value) from (if_pos br)) (zh (B.blk (i := 1) rfl) rfl) ⟨rfl, rfl⟩
 refine stc (V := .bool (decide (((d.projs.getD z default).pmake) < 1))) rfl rfl (fun bs => ?_) ?_
 have cC := bs
 try simp only [zj] at cC
 exact zL (k := .i64) (a := (d.projs.getD z default).pmake) (b := 1) (show _ = (Iv ((d.projs.getD z default).pmake) : Value) from (if_pos bs)) rfl ⟨rfl, rfl⟩
 refine st (zG (b := (decide (((d.projs.getD z default).pgroup) < 1)) || (decide (3 < ((d.projs.getD z default).pgroup)))) (b' := decide (((d.projs.getD z default).pmake) < 1)) rfl (fun hbp => (show _ = (.bool (decide (((d.projs.getD z default).pmake) < 1)) : Value) from (if_pos hbp))) (st (zb (v := .bool (((decide (((d.projs.getD z default).pgroup) < 1)) || (decide (3 < ((d.projs.getD z default).pgroup)))) || (decide (((d.projs.getD z default).pmake) < 1)))) rfl (stc (V := Ix o 4) rfl rfl (fun cD => ?_) ?_))))
 have cE := cD
 try simp only [zj] at cE
 exact VI rfl ⟨rfl, rfl⟩
 refine stc (V := Iv ((d.projs.getD z default).pmake)) rfl rfl (fun bt => ?_) ?_
 have cF := bt
 try simp only [zj] at cF
 exact zg (v := Iv ((d.projs.getD z default).pmake)) Tryd.isAgg3 (show _ = (Ix o 4 : Value) from (if_pos bt)) (zh (B.blk (i := 1) rfl) rfl) ⟨rfl, rfl⟩
 refine stc (V := .bool (decide (5 < ((d.projs.getD z default).pmake)))) rfl rfl (fun bu => ?_) ?_
 have cG := bu
 try simp only [zj] at cG
 exact yT (k := .i64) (a := (d.projs.getD z default).pmake) (b := 5) (show _ = (Iv ((d.projs.getD z default).pmake) : Value) from (if_pos bu)) rfl ⟨rfl, rfl⟩
 refine st (zG (b := ((decide (((d.projs.getD z default).pgroup) < 1)) || (decide (3 < ((d.projs.getD z default).pgroup)))) || (decide (((d.projs.getD z default).pmake) < 1))) (b' := decide (5 < ((d.projs.getD z default).pmake))) rfl (fun hbp => (show _ = (.bool (decide (5 < ((d.projs.getD z default).pmake))) : Value) from (if_pos hbp))) (zf ?_))
 cases bv : (((decide (((d.projs.getD z default).pgroup) < 1)) || (decide (3 < ((d.projs.getD z default).pgroup)))) || (decide (((d.projs.getD z default).pmake) < 1))) || (decide (5 < ((d.projs.getD z default).pmake)))
 try simp only [zj] at bv
 refine zn rfl (zv (za kr (fun _ => (st (zb (v := Iw z) rfl ?_)))))
 have cH : InR ((z + 1 : Nat) : Int) := bo
 refine st (zV (r := ((z + 1 : Nat) : Int)) (k := .i64) (a := ((z : Nat) : Int)) (b := 1) rfl rfl (by rw [show (((z : Nat) : Int) + 1 : Int) = ((z + 1 : Nat) : Int) from bo]; exact zM cH) (st (ze (v := Iw (z + 1)) rfl (zf ?_))))
 have cI : Sep G W ((Blk b2 (d.cells dd0 dd1).toArray 25) :: Rs) dx := B.sel 3 [2] (Nat.le_add_left _ _) rfl rfl
 exact ⟨_, by omega, z + 1, _, rfl, zq ⟨rfl, rfl, trivial⟩, by omega, cI⟩
 try simp only [zj] at bv
 refine zo rfl (zd (za kr (fun _ => (st (ze (v := Iv 2) rfl (zf (zt (zO Tryd.results46 (show _ = (Iv 2 : Value) from rfl) ?_))))))))
 have cJ := B.s3_
 refine ⟨2, rfl, ?_, ?_, cJ⟩
 first | decide | assumption
 intro h9
 exfalso; omega
 try simp only [zj] at bk
 refine zo rfl (zd (za kr (fun _ => (st (ze (v := Iv 8) rfl (zf (zt (zO Tryd.results46 (show _ = (Iv 8 : Value) from rfl) ?_))))))))
 have cK := B.s3_
 refine ⟨8, rfl, ?_, ?_, cK⟩
 first | decide | assumption
 intro h9
 exfalso; omega
 try simp only [zj] at aJ
 refine zo rfl (zd (za kr (fun _ => (st (ze (v := Iv 8) rfl (zf (zt (zO Tryd.results46 (show _ = (Iv 8 : Value) from rfl) ?_))))))))
 have cL := bK.s3_
 refine ⟨8, rfl, ?_, ?_, cL⟩
 first | decide | assumption
 intro h9
 exfalso; omega
 have ao := tD ao
 refine zo rfl (zv (zd (zw (zd (za kr (fun _ => (st (ze (v := Iv 0) rfl (zf (zw (yd (fun mq σ Z => ∃ (j : Nat) (ρ : Env), mq = (d.types.getD k default).fields.length - j ∧ σ = yh ρ [(1, Ix b2 0), (3, Iw k), (4, Iw j)] ∧ (j ≤ (d.types.getD k default).fields.length) ∧ (∀ i, i < j → Ww (d.types.getD k default) ((d.types.getD k default).fields.getD i default)) ∧ Sep G W ((Blk b2 (d.cells dd0 dd1).toArray 25) :: Rs) Z) ⟨0, _, rfl, zq ⟨rfl, rfl, rfl, trivial⟩, Nat.zero_le _, (fun i h => absurd h (Nat.not_lt_zero i)), aH⟩ ?_)))))))))))
 rintro m571 σ572 w570 ⟨j, ρl3, rfl, rfl, hkj, dm, ae⟩
 refine zd (zd (za kr (fun _ => (st (zb (v := Iw j) rfl (st (yo rfl (st (zg (v := dd0) Tryd.isAgg22 rfl (zh (ae.blk (i := 0) rfl) rfl) (st (zb (v := Iw k) rfl ?_)))))))))))
 have cM : k < d.types.length := bo
 refine st (zk (k := 1) (i := k) Tryd.underlying22 Tryd.sizeOf33 rfl hdd0.sl rfl cM (st (yA rfl ?_)))
 have U : k < d.types.length := bo
 obtain ⟨X, m, am⟩ := hdd0.typ U
 rw [← zm default U] at X m am
 have hsm577 : ((d.types.getD k default).fields).length * 48 ≤ 140737488355328 := m.small
 have bM := ae.cells X (hdd0.foot (ne_of_lt U))
 refine st (zg (v := (zi W (sb dd0) (so dd0 + k * 1 + 0))) Tryd.isAgg31 rfl (bM.get (j := 0) rfl) (st (zJ (n := ((d.types.getD k default).fields).length) Tryd.underlying31 rfl m.sl (st (zL (k := .i64) (a := ((j : Nat) : Int)) (b := ((((d.types.getD k default).fields).length : Nat) : Int)) rfl rfl (zf ?_))))))
 cases af : decide (((j : Nat) : Int) < ((((d.types.getD k default).fields).length : Nat) : Int))
 have af := fD af
 refine zn rfl (yc (zU (za kr (fun _ => (st (zb (v := Iw k) rfl ?_))))))
 have cN : InR ((k + 1 : Nat) : Int) := bo
 refine st (zV (r := ((k + 1 : Nat) : Int)) (k := .i64) (a := ((k : Nat) : Int)) (b := 1) rfl rfl (by rw [show (((k : Nat) : Int) + 1 : Int) = ((k + 1 : Nat) : Int) from bo]; exact zM cN) (st (ze (v := Iw (k + 1)) rfl (zf ?_))))
 exact ⟨_, by omega, k + 1, _, rfl, zq ⟨rfl, rfl, trivial⟩, by omega, (yW hm (fun j9 h9 => dm j9 om)), ae⟩
 have af := tD af
 refine zo rfl (zv (zd (zw (zd ?_))))
 refine WD4 ((fun aC => WF [fun vals Z => Sep G W (aC :: Rs) Z, fun vals Z => ∃ (l : Int), (vals 14 = (Iv l : Value)) ∧ (InR l) ∧ (l = 0 → Ww (d.types.getD k default) (((d.types.getD k default).fields).getD j default)) ∧ Sep G W (aC :: Rs) Z]) (Blk b2 (d.cells dd0 dd1).toArray 25)) (AF [Vl 0 (Ix b2 0), Vl 1 (dd0), Vl 2 (Iw k), Vl 3 (Ix (sb dd0) (so dd0 + k * 1)), Vl 4 (.agg ((d.types.getD k default).cells (zi W (sb dd0) (so dd0 + k * 1 + 0))).toArray), Vl 5 (Ix b2 0), Vl 6 (dd0), Vl 7 (Iw k), Vl 8 (Ix (sb dd0) (so dd0 + k * 1)), Vl 9 (Ix (sb dd0) (so dd0 + k * 1)), Vl 10 ((zi W (sb dd0) (so dd0 + k * 1 + 0))), Vl 11 (Iw j), Vl 12 (Ix (sb (zi W (sb dd0) (so dd0 + k * 1 + 0))) (so (zi W (sb dd0) (so dd0 + k * 1 + 0)) + j * 4)), Vl 13 (.agg ((((d.types.getD k default).fields).getD j default).cells (zi W (sb (zi W (sb dd0) (so dd0 + k * 1 + 0))) (so (zi W (sb dd0) (so dd0 + k * 1 + 0)) + j * 4 + 3))).toArray), fun _ => True, fun vals => ∀ (l : Int), vals 14 = (Iv l : Value) → vals 15 = (Iv l : Value)]) [[], [0], [], [0, 1, 2], (rg 4), [], [5], [], [5, 6, 7], [5, 6, 7, 8], [5, 6, 7, 8, 9], [], [5, 6, 7, 8, 9, 10, 11], [5, 6, 7, 8, 9, 10, 11, 12], (rg 14), (rg 15)] [14] [(0, 0), (0, 0), (0, 0), (0, 0), (0, 0), (0, 0), (0, 0), (0, 0), (0, 0), (0, 0), (0, 0), (0, 0), (0, 0), (0, 0), (0, 0), (1, 1)] ae ⟨?_, ?_, ?_, ?_, ?_, ?_, ?_, ?_, ?_, ?_, ?_, ?_, ?_, ?_, ?_, ?_, trivial⟩ ?_ (hlocA := yZ ⟨dA, dA, dA, dA, dA, dA, dA, dA, dA, dA, dA, dA, dA, dA, dT, fun vals c g h => fun l bw => (g 15 (.inl rfl)).trans (h l ((g 14 (.inr dc)).symm.trans bw)), trivial⟩)
 exact fun _ _ _ _ _ _ _ => obl rfl (yo rfl dR)
 exact ob1 0 fun _ _ (cO : Sep _ _ _ _) cP => obl rfl (zg (v := dd0) Tryd.isAgg22 (cP 0 dc) (zh (cO.blk (i := 0) rfl) rfl) dR)
 exact fun _ _ _ _ _ _ _ => obl rfl (zb (v := Iw k) rfl dR)
 refine ob1 0 fun _ _ _ bx => (obl rfl ?_)
 have cQ : k < d.types.length := bo
 exact zk (k := 1) (i := k) Tryd.underlying22 Tryd.sizeOf33 (bx 1 dc) hdd0.sl (bx 2 dc) cQ dR
 refine ob1 0 fun _ _ (cR : Sep _ _ _ _) cS => (obl rfl ?_)
 have bN := cR.cells X (hdd0.foot (ne_of_lt U))
 exact zl (k := 1) Tryd.isAgg33 Tryd.sizeOf33 rfl (cS 3 dc) bN dR
 exact fun _ _ _ _ _ _ _ => obl rfl (yo rfl dR)
 exact ob1 0 fun _ _ (cT : Sep _ _ _ _) cU => obl rfl (zg (v := dd0) Tryd.isAgg22 (cU 5 dc) (zh (cT.blk (i := 0) rfl) rfl) dR)
 exact fun _ _ _ _ _ _ _ => obl rfl (zb (v := Iw k) rfl dR)
 refine ob1 0 fun _ _ _ bz => (obl rfl ?_)
 have cV : k < d.types.length := bo
 exact zk (k := 1) (i := k) Tryd.underlying22 Tryd.sizeOf33 (bz 6 dc) hdd0.sl (bz 7 dc) cV dR
 exact fun _ _ _ _ _ _ cW => obl rfl (yA (cW 8 dc) dR)
 refine ob1 0 fun _ _ (cX : Sep _ _ _ _) cY => (obl rfl ?_)
 have bO := cX.cells X (hdd0.foot (ne_of_lt U))
 exact zg (v := (zi W (sb dd0) (so dd0 + k * 1 + 0))) Tryd.isAgg31 (cY 9 dc) (bO.get (j := 0) rfl) dR
 exact fun _ _ _ _ _ _ _ => obl rfl (zb (v := Iw j) rfl dR)
 refine ob1 0 fun _ _ _ bA => (obl rfl ?_)
 have cZ : j < ((d.types.getD k default).fields).length := bo
 exact zk (k := 4) (i := j) Tryd.underlying31 Tryd.sizeOf79 (bA 10 dc) m.sl (bA 11 dc) cZ dR
 refine ob1 0 fun _ _ (da : Sep _ _ _ _) db => (obl rfl ?_)
 have aA : j < ((d.types.getD k default).fields).length := bo
 obtain ⟨aF, aj, bF⟩ := m.fld aA
 rw [← zm default aA] at aF aj bF
 have hsm835 : ((((d.types.getD k default).fields).getD j default).moves).length * 32 ≤ 140737488355328 := aj.small
 have bP := da.cells aF (m.foot (ne_of_lt aA))
 exact zl (k := 4) Tryd.isAgg79 Tryd.sizeOf79 rfl (db 12 dc) bP dR
 refine ob1 0 fun vals _ (bB : Sep _ _ _ _) bC => (obl rfl ?_)
 have aB : j < ((d.types.getD k default).fields).length := bo
 obtain ⟨aG, J, an⟩ := m.fld aB
 rw [← zm default aB] at aG J an
 have hsm707 : ((((d.types.getD k default).fields).getD j default).moves).length * 32 ≤ 140737488355328 := J.small
 have hcw708 := bB.cells aG (m.foot (ne_of_lt aB))
 refine (zu (f := 71) (vals := [.agg ((d.types.getD k default).cells (zi W (sb dd0) (so dd0 + k * 1 + 0))).toArray, .agg ((((d.types.getD k default).fields).getD j default).cells (zi W (sb (zi W (sb dd0) (so dd0 + k * 1 + 0))) (so (zi W (sb dd0) (so dd0 + k * 1 + 0)) + j * 4 + 3))).toArray]) (cap := []) rfl (yP ⟨(bC 4 dc), (bC 13 dc), trivial⟩) Tryd.call71 (D_one (t := (d.types.getD k default)) (f := (((d.types.getD k default).fields).getD j default)) m am J an bB) ?_)
 rintro _ w712 ⟨l, rfl, ak, H, dd⟩
 exact fun c g aX => ⟨(Exists.intro l (And.intro g (And.intro ak (And.intro H dd)))), trivial⟩
 refine ob1 1 fun _ _ de _ => ?_
 obtain ⟨l, ag, ak, H, hS843⟩ := de
 refine obl rfl (ze (v := Iv l) ag (fun c g aX => ⟨rfl, ?_⟩))
 intro e709q bw
 rw [aX 14 (by decide)] at bw; cases ag.symm.trans bw
 exact g
 intro vals w844 df dg
 obtain ⟨l, ag, ak, H, bD⟩ := df
 have dz : vals 15 = (Iv l : Value) := dg 15 dc l ag
 refine yf (kv := [(1, Ix b2 0), (3, Iw k), (4, Iw j), (19, Iw j), (20, Ix b2 0), (21, dd0), (22, Iw k), (23, Ix (sb dd0) (so dd0 + k * 1)), (24, Ix (sb dd0) (so dd0 + k * 1)), (25, (zi W (sb dd0) (so dd0 + k * 1 + 0))), (26, Iw (((d.types.getD k default).fields).length)), (27, .bool true), (5, Iv l)]) ⟨rfl, rfl, rfl, rfl, rfl, rfl, rfl, rfl, rfl, rfl, rfl, rfl, (by exact dz), trivial⟩ (fun ρw844 => (zf (zd (za kr (fun _ => (st (zb (v := Iv l) rfl (st (yq (k := .i64) (a := l) (b := 0) rfl rfl (zf ?_))))))))))
 cases Y : !decide (l = 0)
 have Y := zC Y
 refine zn rfl (zv (za kr (fun _ => (st (zb (v := Iw j) rfl ?_)))))
 have dh : InR ((j + 1 : Nat) : Int) := bo
 refine st (zV (r := ((j + 1 : Nat) : Int)) (k := .i64) (a := ((j : Nat) : Int)) (b := 1) rfl rfl (by rw [show (((j : Nat) : Int) + 1 : Int) = ((j + 1 : Nat) : Int) from bo]; exact zM dh) (st (ze (v := Iw (j + 1)) rfl (zf ?_))))
 exact ⟨_, by omega, j + 1, _, rfl, zq ⟨rfl, rfl, rfl, trivial⟩, by omega, (yW dm (H (by have h9 := Y; omega))), bD⟩
 have Y := zR Y
 refine zo rfl (zd (za kr (fun _ => (st (zb (v := Iv l) rfl (st (ze (v := Iv l) rfl (zf (zt (zO Tryd.results46 (show _ = (Iv l : Value) from rfl) ?_))))))))))
 have di := bD.s1_
 refine ⟨l, rfl, ?_, ?_, di⟩
 first | decide | assumption
 intro h9
 exfalso; omega
 refine zo rfl (zd (za kr (fun _ => (st (ze (v := Iv 3) rfl (zf (zt (zO Tryd.results46 (show _ = (Iv 3 : Value) from rfl) ?_))))))))
 have dj := dl.s1_
 refine ⟨3, rfl, ?_, ?_, dj⟩
 first | decide | assumption
 intro h9
 exfalso; omega

end Go.Proofs.YtlblilbmpdejgaaDoor
/- Steps of the proofs of this seat: part C9. -/
set_option maxRecDepth 8000
namespace Go.Proofs.YtlblilbmpdejgaaDoor
open Go.Proofs Go.RowKit

theorem Jf {G : Nat → Prop} {W w : World} {Rs : List HP} {x : Int} (hx : InR x) {n : Nat} (hn : 1 ≤ n ∧ n ≤ 281474976710656) (hS0 : Sep G W Rs w) : Ret Tryd.prog 13 [.int .i64 (x), .int .i64 ((n : Nat) : Int)] w (fun r w' => ∃ (q : Nat), r = (.int .i64 ((q : Nat) : Int) : Value) ∧ (q < n) ∧ Sep G W Rs w') := by
 refine zr (args := [Iv x, Iw n]) Tryd.func13 rfl rfl ?_
 refine zd (za kr (fun _ => (st (ze (v := Iv 0) rfl (zf (zd (zd (za kr (fun _ => (st (zb (v := Iw n) rfl (st (zL (k := .i64) (a := ((n : Nat) : Int)) (b := 1) rfl rfl (zf ?_))))))))))))))
 cases d : decide (((n : Nat) : Int) < 1)
 have d := fD d
 refine zn rfl (zv (zd (za kr (fun _ => (st (zb (v := Iv x) rfl (st (zb (v := Iw n) rfl ?_))))))))
 have f : (0 : Int) < ((n : Nat) : Int) := by omega
 have h := Int.tmod_lt_of_pos x f; have i := Int.lt_tmod_of_pos x f
 obtain ⟨c, g⟩ : ∃ z, Int.tmod x ((n : Nat) : Int) = z := ⟨_, rfl⟩; rw [g] at h i
 refine st (KV (r := c) rfl rfl f g (st (ze (v := Iv c) rfl (zf (zd (zd (za kr (fun _ => (st (zb (v := Iv c) rfl (st (zL (k := .i64) (a := c) (b := 0) rfl rfl (zf ?_)))))))))))))
 cases e : decide (c < 0)
 have e := fD e
 refine zn rfl (zv (zd (za kr (fun _ => (st (zb (v := Iv c) rfl (st (ze (v := Iv c) rfl (zf (zt (zO Tryd.results13 (show _ = (Iv c : Value) from rfl) ?_)))))))))))
 refine ⟨(c).toNat, ?_, ?_, hS0⟩
 rw [Int.toNat_of_nonneg (by omega)]
 omega
 have e := tD e
 refine zo rfl (za kr (fun _ => (st (zb (v := Iv c) rfl (st (zb (v := Iw n) rfl ?_))))))
 have j : InR (c + ((n : Nat) : Int)) := by omega
 refine st (zV (r := c + ((n : Nat) : Int)) (k := .i64) (a := c) (b := ((n : Nat) : Int)) rfl rfl (zM j) (st (ze (v := Iv (c + ((n : Nat) : Int))) rfl (zf (zd (za kr (fun _ => (st (zb (v := Iv (c + ((n : Nat) : Int))) rfl (st (ze (v := Iv (c + ((n : Nat) : Int))) rfl (zf (zt (zO Tryd.results13 (show _ = (Iv (c + ((n : Nat) : Int)) : Value) from rfl) ?_))))))))))))))
 refine ⟨(c + ((n : Nat) : Int)).toNat, ?_, ?_, hS0⟩
 rw [Int.toNat_of_nonneg (by omega)]
 omega
 have d := tD d
 refine zo rfl (zd (za kr (fun _ => (st (ze (v := Iv 0) rfl (zf (zt (zO Tryd.results13 (show _ = (Iv 0 : Value) from rfl) ?_))))))))
 refine ⟨0, ?_, ?_, hS0⟩
 exfalso; omega
 omega

end Go.Proofs.YtlblilbmpdejgaaDoor
