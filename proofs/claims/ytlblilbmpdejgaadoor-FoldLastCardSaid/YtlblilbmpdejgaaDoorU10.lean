import Derived.Test.YtlblilbmpdejgaaDoorU9
import Derived.Test.YtlblilbmpdejgaaDoorU2
set_option linter.unusedSimpArgs false
set_option linter.unusedVariables false
set_option linter.unusedSectionVars false
set_option linter.deprecated false
/- Steps of the proofs of this seat: part F7. -/
set_option maxRecDepth 8000
set_option maxHeartbeats 4000000
namespace Go.Proofs.YtlblilbmpdejgaaDoor
open Go.Proofs Go.RowKit

def zW (p : Int) : Dcl := ⟨[(⟨[(⟨2, p, false, []⟩ : Fld)]⟩ : Typ)], []⟩
def evA : Ev := ⟨0, 1, 1, [0, 0], 0, 0, 0, 2, 1, 0⟩
def evB : Ev := ⟨1, 1, 2, [0, 0], 0, 0, 0, 2, 2, 0⟩
def evC : Ev := ⟨1, 2, 3, [0, 1], 0, 0, 0, 2, 3, 0⟩
def kx : List Ent := yM (zW 2) [evA, evB, evC]
def ky : List Ent := yM (zW 3) [evB, evA, evC]
theorem WL (p : Int) : DclOk (zW p) := by
  have one : ∀ {P : Nat → Prop}, P 0 → ∀ i, i < 1 → P i := fun {P} h i hi => (show i = 0 by omega) ▸ h
  refine ⟨Nat.le_refl 1, (by show 1 ≤ 8; decide), one (P := fun i => TypOk ((zW p).types.getD i default)) ?_⟩
  refine ⟨Nat.le_refl 1, (by show 1 ≤ 8; decide), ?_, ?_, ?_, ?_⟩
  · intro i hi; obtain rfl : i = 0 := by have : i < 1 := hi; omega
    exact ⟨(by decide : (1 : Int) ≤ 2), (by decide : (2 : Int) ≤ 4)⟩
  · intro i hi h; obtain rfl : i = 0 := by have : i < 1 := hi; omega
    cases h
  · intro i hi; obtain rfl : i = 0 := by have : i < 1 := hi; omega
    exact ⟨fun h => absurd h (by show ¬ (2 : Int) = 4; decide), Nat.zero_le _⟩
  · intro i hi j hj; obtain rfl : i = 0 := by have : i < 1 := hi; omega
    exact absurd hj (Nat.not_lt_zero j)
theorem VG {G : Nat → Prop} {W w : World} {Rs : List HP} {o : Int} (ho : InR o) {sq : Int} (hsq : InR sq) {lm : Int} (hlm : InR lm) {ar : Int} (har : InR ar) {vdp : Value} {dp : List Int} (hdp : RdS W G vdp dp) (hS0 : Sep G W Rs w) : Ret Tryd.prog 43 [.int .i64 (o), .int .i64 (sq), .int .i64 (lm), .int .i64 (ar), vdp] w (fun r w' => r = (.agg ((⟨o, sq, lm, dp, 0, 0, 0, 2, ar, 0⟩ : Ev).cells vdp).toArray : Value) ∧ ((⟨o, sq, lm, dp, 0, 0, 0, 2, ar, 0⟩ : Ev).Ok) ∧ Sep G W Rs w') := by
 have hdps : _ * 8 ≤ _ := hdp.small
 refine zr (args := [.int .i64 (o), .int .i64 (sq), .int .i64 (lm), .int .i64 (ar), vdp]) Tryd.func43 rfl rfl ?_
 refine zd ?_
 refine za (by kernel_rfl) (fun _ => ?_)
 refine st (zE Tryd.zeroValue59 ?_)
 intro w3 b2 hn1
 have hS4 := hS0.new hn1
 refine zf ?_
 refine zd ?_
 refine za (by kernel_rfl) (fun _ => ?_)
 refine st (zb (v := .int .i64 (o)) rfl ?_)
 refine st (zb (v := .int .i64 (sq)) rfl ?_)
 refine st (zS (parts' := [(0, .int .i64 (o)), (1, .int .i64 (sq))]) (v := .agg #[.int .i64 (o), .int .i64 (sq)]) rfl (by simp [Instr.build, Instr.fill, Ev.cells, go_sem, Mv.cells, Fld.cells, Typ.cells, Prj.cells, Dcl.cells, Cel.cells, AskR.cells, Ask.cells, CelS.cells, Ev.cells, Ent.cells, Sta.cells]) ?_)
 refine st (zb (v := .int .i64 (lm)) rfl ?_)
 refine st (zb (v := vdp) rfl ?_)
 refine st (zb (v := .int .i64 (ar)) rfl ?_)
 have ok5 : Ev.Ok (⟨o, sq, lm, dp, 0, 0, 0, 2, ar, 0⟩ : Ev) := ⟨(show InR (o) from ho), (show InR (sq) from hsq), (show InR (lm) from hlm), (show InR (0) from (by decide)), (show InR (0) from (by decide)), (show InR (0) from (by decide)), (show InR (2) from (by decide)), (show InR (ar) from har), (show InR (0) from (by decide))⟩
 refine st (zS (parts' := [(0, .agg #[.int .i64 (o), .int .i64 (sq)]), (1, .int .i64 (lm)), (2, vdp), (6, .int .i64 (2)), (7, .int .i64 (ar))]) (v := .agg ((⟨o, sq, lm, dp, 0, 0, 0, 2, ar, 0⟩ : Ev).cells vdp).toArray) rfl (by obtain ⟨_, _, hv6, _⟩ := hdp.sl; rw [show vdp = Value.slice _ _ _ from hv6]; simp [Instr.build, Instr.fill, Ev.cells, go_sem, Mv.cells, Fld.cells, Typ.cells, Prj.cells, Dcl.cells, Cel.cells, AskR.cells, Ask.cells, CelS.cells, Ev.cells, Ent.cells, Sta.cells]) ?_)
 refine stn (zy (v := .agg ((⟨o, sq, lm, dp, 0, 0, 0, 2, ar, 0⟩ : Ev).cells vdp).toArray) (c' := ((⟨o, sq, lm, dp, 0, 0, 0, 2, ar, 0⟩ : Ev).cells vdp).toArray) Tryd.sizeOf59 rfl rfl (hS4.blk (i := 0) rfl) (yj ⟨rfl, rfl, rfl, hdp.sl.one, rfl, rfl, rfl, rfl, rfl, rfl, trivial⟩) (Nat.le_of_ble_eq_true rfl) rfl ?_)
 intro w7 hp8
 have hS9 := hS4.pt0 hp8
 refine zf ?_
 refine zu ?_
 refine XJ (b := b2) Tryd.results43 Tryd.isAgg59 Tryd.sizeOf59 rfl rfl (CellsAt.all (hS9.blk (i := 0) rfl)) ?_
 have hS10 : Sep G W Rs w7 := hS9.sel 1 [] (Nat.le_add_left _ _) rfl rfl
 refine ⟨rfl, ?_, hS10⟩
 exact ok5

theorem ZV {G : Nat → Prop} {W w : World} {Rs : List HP} {p : Int} (hp : InR p) (hS0 : Sep G W Rs w) : Ret Tryd.prog 44 [.int .i64 (p)] w (fun r w' => ∃ (bt : Nat) (bf : Nat), r = (.agg #[(.slice (some ⟨bt, 0, none⟩) 1 1), .slice none 0 0] : Value) ∧ Sep G W ((Blk bt #[(.slice (some ⟨bf, 0, none⟩) 1 1)] 33) :: (Blk bf #[.int .i64 (2), .int .i64 (p), .bool false, .slice none 0 0] 79) :: Rs) w') := by
 refine zr (args := [.int .i64 (p)]) Tryd.func44 rfl rfl ?_
 refine zd ?_
 refine za (by kernel_rfl) (fun _ => ?_)
 refine st (zE Tryd.zeroValue25 ?_)
 intro w3 b2 hn1
 have hS4 := hS0.new hn1
 refine zf ?_
 refine zd ?_
 refine za (by kernel_rfl) (fun _ => ?_)
 refine st (zb (v := .int .i64 (p)) rfl ?_)
 refine st (zS (parts' := [(0, .int .i64 (2)), (1, .int .i64 (p))]) (v := .agg #[.int .i64 (2), .int .i64 (p), .bool false, (.slice none 0 0)]) rfl (by simp [Instr.build, Instr.fill, Ev.cells, go_sem, Mv.cells, Fld.cells, Typ.cells, Prj.cells, Dcl.cells, Cel.cells, AskR.cells, Ask.cells, CelS.cells, Ev.cells, Ent.cells, Sta.cells]) ?_)
 refine st (zB (k := 4) (parts' := [(0, .agg #[.int .i64 (2), .int .i64 (p), .bool false, (.slice none 0 0)])]) (c := #[.int .i64 (2), .int .i64 (p), .bool false, (.slice none 0 0)]) Tryd.underlying31 Tryd.sizeOf79 Tryd.zeroValue79 (by decide) rfl (by kernel_rfl) ?_)
 intro w7 b6 hn5
 have hS8 := hS4.new hn5
 refine st (zS (parts' := [(0, (.slice (some ⟨b6, 0, none⟩) 1 1))]) (v := .agg #[(.slice (some ⟨b6, 0, none⟩) 1 1)]) rfl (by simp [Instr.build, Instr.fill, Ev.cells, go_sem, Mv.cells, Fld.cells, Typ.cells, Prj.cells, Dcl.cells, Cel.cells, AskR.cells, Ask.cells, CelS.cells, Ev.cells, Ent.cells, Sta.cells]) ?_)
 refine st (zB (k := 1) (parts' := [(0, .agg #[(.slice (some ⟨b6, 0, none⟩) 1 1)])]) (c := #[(.slice (some ⟨b6, 0, none⟩) 1 1)]) Tryd.underlying22 Tryd.sizeOf33 Tryd.zeroValue33 (by decide) rfl (by kernel_rfl) ?_)
 intro w11 b10 hn9
 have hS12 := hS8.new hn9
 refine st (zS (parts' := [(0, (.slice (some ⟨b10, 0, none⟩) 1 1))]) (v := .agg #[(.slice (some ⟨b10, 0, none⟩) 1 1), (.slice none 0 0)]) rfl (by simp [Instr.build, Instr.fill, Ev.cells, go_sem, Mv.cells, Fld.cells, Typ.cells, Prj.cells, Dcl.cells, Cel.cells, AskR.cells, Ask.cells, CelS.cells, Ev.cells, Ent.cells, Sta.cells]) ?_)
 refine stn (zy (v := .agg #[(.slice (some ⟨b10, 0, none⟩) 1 1), (.slice none 0 0)]) (c' := #[(.slice (some ⟨b10, 0, none⟩) 1 1), (.slice none 0 0)]) Tryd.sizeOf25 rfl rfl (hS12.blk (i := 2) rfl) (yj ⟨rfl, rfl, trivial⟩) (Nat.le_of_ble_eq_true rfl) rfl ?_)
 intro w13 hp14
 have hS15 := hS12.pt2 hp14
 refine zf ?_
 refine zu ?_
 refine XJ (b := b2) Tryd.results44 Tryd.isAgg25 Tryd.sizeOf25 rfl rfl (CellsAt.all (hS15.blk (i := 2) rfl)) ?_
 have hS16 : Sep G W ((Blk b10 #[(.slice (some ⟨b6, 0, none⟩) 1 1)] 33) :: (Blk b6 #[.int .i64 (2), .int .i64 (p), .bool false, (.slice none 0 0)] 79) :: Rs) w13 := hS15.sel 3 [0, 1] (Nat.le_add_left _ _) rfl rfl
 refine ⟨b10, b6, rfl, hS16⟩

theorem ZE {d : Option Tmp} {ty : TypeId} {pos : String} {af : Array Edge} {g : Option (Nat × Bool)} {σ : Env} {w : World} {K : Value → World → Prop} {x : Operand} {b o : Nat} (hx : ev σ x = .pointer (some ⟨b, o, none⟩)) (h : K (.pointer (some ⟨b, o + 10, none⟩)) w) : opV Tryd.prog ⟨d, .fieldAddr 62 x 1, ty, pos, af, g⟩ σ w K := zt Tryd.underlying62 rfl rfl (fun w => ⟨0, Tryd.sizeOf4 w⟩) hx h
theorem Ym {d : Option Tmp} {ty : TypeId} {pos : String} {af : Array Edge} {g : Option (Nat × Bool)} {σ : Env} {w : World} {K : Value → World → Prop} {x : Operand} {b o : Nat} (hx : ev σ x = .pointer (some ⟨b, o, none⟩)) (h : K (.pointer (some ⟨b, o + 11, none⟩)) w) : opV Tryd.prog ⟨d, .fieldAddr 62 x 2, ty, pos, af, g⟩ σ w K := zt Tryd.underlying62 rfl rfl (fun w => ⟨1, Tryd.sizeOf57 w⟩) hx h
set_option maxHeartbeats 8000000 in
set_option maxRecDepth 20000 in
theorem YQ {G : Nat → Prop} {W w : World} {Rs : List HP} (hKN : RdS W G (.slice (some ⟨0, 0, none⟩) 6 6) kindsL) (hS0 : Sep G W Rs w) : Ret Tryd.prog 21 [] w (fun r w' => r = (.bool true : Value) ∧ Sep G W Rs w') := by
 have hKNs : _ * 8 ≤ _ := hKN.small
 refine zr (args := []) Tryd.func21 rfl rfl ?_
 refine zd ?_
 refine za (by kernel_rfl) (fun _ => ?_)
 refine st (ze (v := .bool false) rfl ?_)
 refine zf ?_
 refine zd ?_
 refine za (by kernel_rfl) (fun _ => ?_)
 refine st (zB (k := 1) (parts' := [(0, .int .i64 (0)), (1, .int .i64 (0))]) (c := #[.int .i64 (0), .int .i64 (0)]) Tryd.underlying40 Tryd.sizeOf3 Tryd.zeroValue3 (by decide) rfl (by kernel_rfl) ?_)
 intro w3 b2 hn1
 have hS4 := hS0.new hn1
 have hS5 : Sep G W ((RwI (.slice (some ⟨b2, 0, none⟩) 2 2) [0, 0]) :: Rs) w3 := Sep.blkRow (src := own) (l := [0, 0]) (css := [[.int .i64 (0)], [.int .i64 (0)]]) hS4 rfl ⟨fun _ _ => ⟨rfl, (by decide)⟩, fun _ _ => ⟨rfl, (by decide)⟩, trivial⟩ (by first | decide | (simp only [List.length_cons, List.length_nil]; decide))
 have hr6 := hS5.row (i := 0) rfl
 have hr6s : _ * 8 ≤ _ := hr6.2
 obtain ⟨G7, hA9, hB10, hS11, hk12⟩ := hS5.lend
 have hrd13 := RowE.rd hA9
 have hrd13s : _ * 8 ≤ _ := hrd13.small
 refine st (zv (f := 43) (vals := [.int .i64 (0), .int .i64 (1), .int .i64 (1), .int .i64 (1), (.slice (some ⟨b2, 0, none⟩) 2 2)]) (cap := []) rfl rfl Tryd.call43 (VG (o := 0) (sq := 1) (lm := 1) (ar := 1) (dp := [0, 0]) (vdp := (.slice (some ⟨b2, 0, none⟩) 2 2)) (by decide) (by decide) (by decide) (by decide) hrd13 hS11) ?_)
 rintro _ w15 ⟨rfl, hok14, hS16⟩
 have hS17 := hk12 _ _ hS16
 refine st (zE Tryd.zeroValue59 ?_)
 intro w20 b19 hn18
 have hS21 := hS17.new hn18
 refine stn (zy (v := .agg ((⟨0, 1, 1, [0, 0], 0, 0, 0, 2, 1, 0⟩ : Ev).cells (.slice (some ⟨b2, 0, none⟩) 2 2)).toArray) (c' := ((⟨0, 1, 1, [0, 0], 0, 0, 0, 2, 1, 0⟩ : Ev).cells (.slice (some ⟨b2, 0, none⟩) 2 2)).toArray) Tryd.sizeOf59 rfl rfl (hS21.blk (i := 0) rfl) (yj ⟨rfl, rfl, rfl, hr6.1.one, rfl, rfl, rfl, rfl, rfl, rfl, trivial⟩) (Nat.le_of_ble_eq_true rfl) rfl ?_)
 intro w22 hp23
 have hS24 := hS21.pt0 hp23
 refine zf ?_
 refine zd ?_
 refine za (by kernel_rfl) (fun _ => ?_)
 refine st (zB (k := 1) (parts' := [(0, .int .i64 (0)), (1, .int .i64 (0))]) (c := #[.int .i64 (0), .int .i64 (0)]) Tryd.underlying40 Tryd.sizeOf3 Tryd.zeroValue3 (by decide) rfl (by kernel_rfl) ?_)
 intro w27 b26 hn25
 have hS28 := hS24.new hn25
 have hS29 : Sep G W ((RwI (.slice (some ⟨b26, 0, none⟩) 2 2) [0, 0]) :: (Blk b19 ((⟨0, 1, 1, [0, 0], 0, 0, 0, 2, 1, 0⟩ : Ev).cells (.slice (some ⟨b2, 0, none⟩) 2 2)).toArray 59) :: (RwI (.slice (some ⟨b2, 0, none⟩) 2 2) [0, 0]) :: Rs) w27 := Sep.blkRow (src := own) (l := [0, 0]) (css := [[.int .i64 (0)], [.int .i64 (0)]]) hS28 rfl ⟨fun _ _ => ⟨rfl, (by decide)⟩, fun _ _ => ⟨rfl, (by decide)⟩, trivial⟩ (by first | decide | (simp only [List.length_cons, List.length_nil]; decide))
 have hr30 := hS29.row (i := 0) rfl
 have hr30s : _ * 8 ≤ _ := hr30.2
 obtain ⟨G31, hA33, hB34, hS35, hk36⟩ := hS29.lend
 have hrd37 := RowE.rd hA33
 have hrd37s : _ * 8 ≤ _ := hrd37.small
 refine st (zv (f := 43) (vals := [.int .i64 (1), .int .i64 (1), .int .i64 (2), .int .i64 (2), (.slice (some ⟨b26, 0, none⟩) 2 2)]) (cap := []) rfl rfl Tryd.call43 (VG (o := 1) (sq := 1) (lm := 2) (ar := 2) (dp := [0, 0]) (vdp := (.slice (some ⟨b26, 0, none⟩) 2 2)) (by decide) (by decide) (by decide) (by decide) hrd37 hS35) ?_)
 rintro _ w39 ⟨rfl, hok38, hS40⟩
 have hS41 := hk36 _ _ hS40
 refine st (zE Tryd.zeroValue59 ?_)
 intro w44 b43 hn42
 have hS45 := hS41.new hn42
 refine stn (zy (v := .agg ((⟨1, 1, 2, [0, 0], 0, 0, 0, 2, 2, 0⟩ : Ev).cells (.slice (some ⟨b26, 0, none⟩) 2 2)).toArray) (c' := ((⟨1, 1, 2, [0, 0], 0, 0, 0, 2, 2, 0⟩ : Ev).cells (.slice (some ⟨b26, 0, none⟩) 2 2)).toArray) Tryd.sizeOf59 rfl rfl (hS45.blk (i := 0) rfl) (yj ⟨rfl, rfl, rfl, hr30.1.one, rfl, rfl, rfl, rfl, rfl, rfl, trivial⟩) (Nat.le_of_ble_eq_true rfl) rfl ?_)
 intro w46 hp47
 have hS48 := hS45.pt0 hp47
 refine zf ?_
 refine zd ?_
 refine za (by kernel_rfl) (fun _ => ?_)
 refine st (zB (k := 1) (parts' := [(0, .int .i64 (0)), (1, .int .i64 (1))]) (c := #[.int .i64 (0), .int .i64 (1)]) Tryd.underlying40 Tryd.sizeOf3 Tryd.zeroValue3 (by decide) rfl (by kernel_rfl) ?_)
 intro w51 b50 hn49
 have hS52 := hS48.new hn49
 have hS53 : Sep G W ((RwI (.slice (some ⟨b50, 0, none⟩) 2 2) [0, 1]) :: (Blk b43 ((⟨1, 1, 2, [0, 0], 0, 0, 0, 2, 2, 0⟩ : Ev).cells (.slice (some ⟨b26, 0, none⟩) 2 2)).toArray 59) :: (RwI (.slice (some ⟨b26, 0, none⟩) 2 2) [0, 0]) :: (Blk b19 ((⟨0, 1, 1, [0, 0], 0, 0, 0, 2, 1, 0⟩ : Ev).cells (.slice (some ⟨b2, 0, none⟩) 2 2)).toArray 59) :: (RwI (.slice (some ⟨b2, 0, none⟩) 2 2) [0, 0]) :: Rs) w51 := Sep.blkRow (src := own) (l := [0, 1]) (css := [[.int .i64 (0)], [.int .i64 (1)]]) hS52 rfl ⟨fun _ _ => ⟨rfl, (by decide)⟩, fun _ _ => ⟨rfl, (by decide)⟩, trivial⟩ (by first | decide | (simp only [List.length_cons, List.length_nil]; decide))
 have hr54 := hS53.row (i := 0) rfl
 have hr54s : _ * 8 ≤ _ := hr54.2
 obtain ⟨G55, hA57, hB58, hS59, hk60⟩ := hS53.lend
 have hrd61 := RowE.rd hA57
 have hrd61s : _ * 8 ≤ _ := hrd61.small
 refine st (zv (f := 43) (vals := [.int .i64 (1), .int .i64 (2), .int .i64 (3), .int .i64 (3), (.slice (some ⟨b50, 0, none⟩) 2 2)]) (cap := []) rfl rfl Tryd.call43 (VG (o := 1) (sq := 2) (lm := 3) (ar := 3) (dp := [0, 1]) (vdp := (.slice (some ⟨b50, 0, none⟩) 2 2)) (by decide) (by decide) (by decide) (by decide) hrd61 hS59) ?_)
 rintro _ w63 ⟨rfl, hok62, hS64⟩
 have hS65 := hk60 _ _ hS64
 refine st (zE Tryd.zeroValue59 ?_)
 intro w68 b67 hn66
 have hS69 := hS65.new hn66
 refine stn (zy (v := .agg ((⟨1, 2, 3, [0, 1], 0, 0, 0, 2, 3, 0⟩ : Ev).cells (.slice (some ⟨b50, 0, none⟩) 2 2)).toArray) (c' := ((⟨1, 2, 3, [0, 1], 0, 0, 0, 2, 3, 0⟩ : Ev).cells (.slice (some ⟨b50, 0, none⟩) 2 2)).toArray) Tryd.sizeOf59 rfl rfl (hS69.blk (i := 0) rfl) (yj ⟨rfl, rfl, rfl, hr54.1.one, rfl, rfl, rfl, rfl, rfl, rfl, trivial⟩) (Nat.le_of_ble_eq_true rfl) rfl ?_)
 intro w70 hp71
 have hS72 := hS69.pt0 hp71
 refine zf ?_
 refine zd ?_
 have hev73 : evA.Ok := hok14
 have hS74 : Sep G W ((Blk b67 ((⟨1, 2, 3, [0, 1], 0, 0, 0, 2, 3, 0⟩ : Ev).cells (.slice (some ⟨b50, 0, none⟩) 2 2)).toArray 59) :: (RwI (.slice (some ⟨b50, 0, none⟩) 2 2) [0, 1]) :: (Blk b43 ((⟨1, 1, 2, [0, 0], 0, 0, 0, 2, 2, 0⟩ : Ev).cells (.slice (some ⟨b26, 0, none⟩) 2 2)).toArray 59) :: (RwI (.slice (some ⟨b26, 0, none⟩) 2 2) [0, 0]) :: (Blk b19 (evA.cells (.slice (some ⟨b2, 0, none⟩) 2 2)).toArray 59) :: (RwI (.slice (some ⟨b2, 0, none⟩) 2 2) [0, 0]) :: Rs) w70 := hS72
 have hev75 : evB.Ok := hok38
 have hS76 : Sep G W ((Blk b67 ((⟨1, 2, 3, [0, 1], 0, 0, 0, 2, 3, 0⟩ : Ev).cells (.slice (some ⟨b50, 0, none⟩) 2 2)).toArray 59) :: (RwI (.slice (some ⟨b50, 0, none⟩) 2 2) [0, 1]) :: (Blk b43 (evB.cells (.slice (some ⟨b26, 0, none⟩) 2 2)).toArray 59) :: (RwI (.slice (some ⟨b26, 0, none⟩) 2 2) [0, 0]) :: (Blk b19 (evA.cells (.slice (some ⟨b2, 0, none⟩) 2 2)).toArray 59) :: (RwI (.slice (some ⟨b2, 0, none⟩) 2 2) [0, 0]) :: Rs) w70 := hS74
 have hev77 : evC.Ok := hok62
 have hS78 : Sep G W ((Blk b67 (evC.cells (.slice (some ⟨b50, 0, none⟩) 2 2)).toArray 59) :: (RwI (.slice (some ⟨b50, 0, none⟩) 2 2) [0, 1]) :: (Blk b43 (evB.cells (.slice (some ⟨b26, 0, none⟩) 2 2)).toArray 59) :: (RwI (.slice (some ⟨b26, 0, none⟩) 2 2) [0, 0]) :: (Blk b19 (evA.cells (.slice (some ⟨b2, 0, none⟩) 2 2)).toArray 59) :: (RwI (.slice (some ⟨b2, 0, none⟩) 2 2) [0, 0]) :: Rs) w70 := hS76
 have hS79 := hS78.mv1
 obtain ⟨G80, hA82, hB83, hS84, hk85⟩ := hS79.lend
 have hrd86 := RowE.rd hA82
 have hrd86s : _ * 8 ≤ _ := hrd86.small
 have hS87 := hS84.mv2
 obtain ⟨G88, hA90, hB91, hS92, hk93⟩ := hS87.lend
 have hrd94 := RowE.rd hA90
 have hrd94s : _ * 8 ≤ _ := hrd94.small
 have hS95 := hS92.mv3
 obtain ⟨G96, hA98, hB99, hS100, hk101⟩ := hS95.lend
 have hrd102 := RowE.rd hA98
 have hrd102s : _ * 8 ≤ _ := hrd102.small
 refine Yj ((fun TT pp0 => WF [fun vals wq => Sep G96 w70 (pp0 :: TT) wq, fun vals wq => ∃ (bt109 : Nat) (bf110 : Nat), (vals 0 = (.agg #[(.slice (some ⟨bt109, 0, none⟩) 1 1), .slice none 0 0] : Value)) ∧ Sep G96 w70 ((Blk bt109 #[(.slice (some ⟨bf110, 0, none⟩) 1 1)] 33) :: (Blk bf110 #[.int .i64 (2), .int .i64 (2), .bool false, .slice none 0 0] 79) :: pp0 :: TT) wq, fun vals wq => ∃ (b142 : Nat), (vals 4 = ((.slice (some ⟨b142, 0, none⟩) 3 3) : Value)) ∧ Sep G96 w70 ((Blk b142 (evA.cells (.slice (some ⟨b2, 0, none⟩) 2 2) ++ evB.cells (.slice (some ⟨b26, 0, none⟩) 2 2) ++ evC.cells (.slice (some ⟨b50, 0, none⟩) 2 2)).toArray 59) :: pp0 :: TT) wq, fun vals wq => ∃ (bt109 : Nat) (bf110 : Nat) (b142 : Nat), (vals 0 = (.agg #[(.slice (some ⟨bt109, 0, none⟩) 1 1), .slice none 0 0] : Value)) ∧ (vals 4 = ((.slice (some ⟨b142, 0, none⟩) 3 3) : Value)) ∧ Sep G96 w70 ((Blk b142 (evA.cells (.slice (some ⟨b2, 0, none⟩) 2 2) ++ evB.cells (.slice (some ⟨b26, 0, none⟩) 2 2) ++ evC.cells (.slice (some ⟨b50, 0, none⟩) 2 2)).toArray 59) :: (Blk bt109 #[(.slice (some ⟨bf110, 0, none⟩) 1 1)] 33) :: (Blk bf110 #[.int .i64 (2), .int .i64 (2), .bool false, .slice none 0 0] 79) :: pp0 :: TT) wq, fun _ _ => True, fun _ _ => True, fun _ _ => True, fun vals wq => ∃ (bt109 : Nat) (bf110 : Nat) (b142 : Nat) (b189 : Nat), (vals 0 = (.agg #[(.slice (some ⟨bt109, 0, none⟩) 1 1), .slice none 0 0] : Value)) ∧ (vals 4 = ((.slice (some ⟨b142, 0, none⟩) 3 3) : Value)) ∧ (vals 5 = (.pointer (some ⟨b189, 0, none⟩) : Value)) ∧ Sep G96 w70 ((RowE (α := Fld) (shr G96 w70) 79 (.slice (some ⟨bf110, 0, none⟩) 1 1) [(⟨2, 2, false, []⟩ : Fld)]) :: (ViewO b189 (zW 2) kx kx) :: pp0 :: TT) wq]) ((Blk b43 (evB.cells (.slice (some ⟨b26, 0, none⟩) 2 2)).toArray 59) :: (Blk b19 (evA.cells (.slice (some ⟨b2, 0, none⟩) 2 2)).toArray 59) :: Rs) (Blk b67 (evC.cells (.slice (some ⟨b50, 0, none⟩) 2 2)).toArray 59)) (AF [fun _ => True, Vl 1 (.agg (evA.cells (.slice (some ⟨b2, 0, none⟩) 2 2)).toArray), Vl 2 (.agg (evB.cells (.slice (some ⟨b26, 0, none⟩) 2 2)).toArray), Vl 3 (.agg (evC.cells (.slice (some ⟨b50, 0, none⟩) 2 2)).toArray), fun _ => True, fun _ => True, fun vals => ∀ (b189 : Nat), vals 5 = (.pointer (some ⟨b189, 0, none⟩) : Value) → vals 6 = (.pointer (some ⟨b189, 0, none⟩) : Value)]) [[], [], [], [], [1, 2, 3], [0, 1, 2, 3, 4], [0, 1, 2, 3, 4, 5]] [0, 4, 5] [[0, 2], [0, 1], [0, 1], [0, 1], [0, 1], [3], [7]] (by kernel_rfl) (by kernel_rfl) (by kernel_rfl) rfl (by kernel_rfl) (by kernel_rfl) (by decide) (fun _ h1 h2 h3 h4 _ => hS100.same h1 h2 h3 h4) ?_ (yg ⟨dT, dA, dA, dA, dT, dT, fun vals vals' hv h => fun b189 hq0 => (hv 6 (.inl rfl)).trans (h b189 ((hv 5 (.inr (by decide))).symm.trans hq0)), trivial⟩) ⟨?_, ?_, ?_, ?_, ?_, ?_, ?_, trivial⟩ ?_
 ·intro k vals vals' w hv h
  have e : ∀ j ∈ ([0, 4, 5] : List Nat), vals' j = vals j := hv
  match k, h with
  | 0, h => exact h
  | 1, h => exact (by simpa only [WF, List.getElem?_cons_zero, List.getElem?_cons_succ, e 0 (by decide)] using h)
  | 2, h => exact (by simpa only [WF, List.getElem?_cons_zero, List.getElem?_cons_succ, e 4 (by decide)] using h)
  | 3, h => exact (by simpa only [WF, List.getElem?_cons_zero, List.getElem?_cons_succ, e 0 (by decide), e 4 (by decide)] using h)
  | 4, h => exact h
  | 5, h => exact h
  | 6, h => exact h
  | 7, h => exact (by simpa only [WF, List.getElem?_cons_zero, List.getElem?_cons_succ, e 0 (by decide), e 4 (by decide), e 5 (by decide)] using h)
  | _ + 8, _ => trivial
 ·intro k203 vals w204 hk207 hW206 hA205
  have hk2072 : k203 ∈ [0, 2] := hk207
  simp only [List.mem_cons, List.not_mem_nil, or_false] at hk2072
  rcases hk2072 with rfl | rfl
  ·skip
   have hS208 : Sep _ _ _ _ := hW206
   refine obl rfl ?_
   refine (zv (f := 44) (vals := [.int .i64 (2)]) (cap := []) rfl rfl Tryd.call44 (ZV (p := 2) (by decide) hS208) ?_)
   rintro _ w211 ⟨bt109, bf110, rfl, hS212⟩
   intro vals' hv hv'
   refine ⟨?_, trivial⟩
   show ∃ (bt109 : Nat) (bf110 : Nat), (vals' 0 = (.agg #[(.slice (some ⟨bt109, 0, none⟩) 1 1), .slice none 0 0] : Value)) ∧ Sep G96 w70 ((Blk bt109 #[(.slice (some ⟨bf110, 0, none⟩) 1 1)] 33) :: (Blk bf110 #[.int .i64 (2), .int .i64 (2), .bool false, .slice none 0 0] 79) :: (Blk b67 (evC.cells (.slice (some ⟨b50, 0, none⟩) 2 2)).toArray 59) :: (Blk b43 (evB.cells (.slice (some ⟨b26, 0, none⟩) 2 2)).toArray 59) :: (Blk b19 (evA.cells (.slice (some ⟨b2, 0, none⟩) 2 2)).toArray 59) :: Rs) w211
   exact ⟨bt109, bf110, hv, hS212⟩
  ·skip
   obtain ⟨b142, he145, hS213⟩ := hW206
   refine obl rfl ?_
   refine (zv (f := 44) (vals := [.int .i64 (2)]) (cap := []) rfl rfl Tryd.call44 (ZV (p := 2) (by decide) hS213) ?_)
   rintro _ w216 ⟨bt109, bf110, rfl, hS217⟩
   have hS218 := hS217.mv2
   intro vals' hv hv'
   refine ⟨?_, trivial⟩
   show ∃ (bt109 : Nat) (bf110 : Nat) (b142 : Nat), (vals' 0 = (.agg #[(.slice (some ⟨bt109, 0, none⟩) 1 1), .slice none 0 0] : Value)) ∧ (vals' 4 = ((.slice (some ⟨b142, 0, none⟩) 3 3) : Value)) ∧ Sep G96 w70 ((Blk b142 (evA.cells (.slice (some ⟨b2, 0, none⟩) 2 2) ++ evB.cells (.slice (some ⟨b26, 0, none⟩) 2 2) ++ evC.cells (.slice (some ⟨b50, 0, none⟩) 2 2)).toArray 59) :: (Blk bt109 #[(.slice (some ⟨bf110, 0, none⟩) 1 1)] 33) :: (Blk bf110 #[.int .i64 (2), .int .i64 (2), .bool false, .slice none 0 0] 79) :: (Blk b67 (evC.cells (.slice (some ⟨b50, 0, none⟩) 2 2)).toArray 59) :: (Blk b43 (evB.cells (.slice (some ⟨b26, 0, none⟩) 2 2)).toArray 59) :: (Blk b19 (evA.cells (.slice (some ⟨b2, 0, none⟩) 2 2)).toArray 59) :: Rs) w216
   exact ⟨bt109, bf110, b142, hv, (by rw [hv' 4 (by decide)]; exact he145), hS218⟩
 ·intro k219 vals w220 hk223 hW222 hA221
  have hk2232 : k219 ∈ [0, 1] := hk223
  simp only [List.mem_cons, List.not_mem_nil, or_false] at hk2232
  rcases hk2232 with rfl | rfl
  ·skip
   have hS224 : Sep _ _ _ _ := hW222
   refine obl rfl ?_
   exact zl (k := 10) Tryd.isAgg59 Tryd.sizeOf59 rfl rfl (CellsAt.all (hS224.blk (i := 2) rfl)) (fun vals' hv _ => ⟨rfl, hv⟩)
  ·skip
   obtain ⟨bt109, bf110, he113, hS225⟩ := hW222
   refine obl rfl ?_
   exact zl (k := 10) Tryd.isAgg59 Tryd.sizeOf59 rfl rfl (CellsAt.all (hS225.blk (i := 4) rfl)) (fun vals' hv _ => ⟨rfl, hv⟩)
 ·intro k226 vals w227 hk230 hW229 hA228
  have hk2302 : k226 ∈ [0, 1] := hk230
  simp only [List.mem_cons, List.not_mem_nil, or_false] at hk2302
  rcases hk2302 with rfl | rfl
  ·skip
   have hS231 : Sep _ _ _ _ := hW229
   refine obl rfl ?_
   exact zl (k := 10) Tryd.isAgg59 Tryd.sizeOf59 rfl rfl (CellsAt.all (hS231.blk (i := 1) rfl)) (fun vals' hv _ => ⟨rfl, hv⟩)
  ·skip
   obtain ⟨bt109, bf110, he113, hS232⟩ := hW229
   refine obl rfl ?_
   exact zl (k := 10) Tryd.isAgg59 Tryd.sizeOf59 rfl rfl (CellsAt.all (hS232.blk (i := 3) rfl)) (fun vals' hv _ => ⟨rfl, hv⟩)
 ·intro k233 vals w234 hk237 hW236 hA235
  have hk2372 : k233 ∈ [0, 1] := hk237
  simp only [List.mem_cons, List.not_mem_nil, or_false] at hk2372
  rcases hk2372 with rfl | rfl
  ·skip
   have hS238 : Sep _ _ _ _ := hW236
   refine obl rfl ?_
   exact zl (k := 10) Tryd.isAgg59 Tryd.sizeOf59 rfl rfl (CellsAt.all (hS238.blk (i := 0) rfl)) (fun vals' hv _ => ⟨rfl, hv⟩)
  ·skip
   obtain ⟨bt109, bf110, he113, hS239⟩ := hW236
   refine obl rfl ?_
   exact zl (k := 10) Tryd.isAgg59 Tryd.sizeOf59 rfl rfl (CellsAt.all (hS239.blk (i := 2) rfl)) (fun vals' hv _ => ⟨rfl, hv⟩)
 ·intro k240 vals w241 hk244 hW243 hA242
  have hk2442 : k240 ∈ [0, 1] := hk244
  simp only [List.mem_cons, List.not_mem_nil, or_false] at hk2442
  rcases hk2442 with rfl | rfl
  ·skip
   have hS245 : Sep _ _ _ _ := hW243
   refine obl rfl ?_
   have e246 := hA242 1 (by decide)
   have e247 := hA242 2 (by decide)
   have e248 := hA242 3 (by decide)
   refine (zB (k := 10) (parts' := [(0, .agg (evA.cells (.slice (some ⟨b2, 0, none⟩) 2 2)).toArray), (1, .agg (evB.cells (.slice (some ⟨b26, 0, none⟩) 2 2)).toArray), (2, .agg (evC.cells (.slice (some ⟨b50, 0, none⟩) 2 2)).toArray)]) (c := (evA.cells (.slice (some ⟨b2, 0, none⟩) 2 2) ++ evB.cells (.slice (some ⟨b26, 0, none⟩) 2 2) ++ evC.cells (.slice (some ⟨b50, 0, none⟩) 2 2)).toArray) Tryd.underlying47 Tryd.sizeOf59 Tryd.zeroValue59 (by decide) (xE ⟨rfl, e246, rfl, e247, rfl, e248, trivial⟩) (by kernel_rfl) ?_)
   intro w251 b142 hn249
   have hS252 := hS245.new hn249
   intro vals' hv hv'
   refine ⟨?_, trivial⟩
   show ∃ (b142 : Nat), (vals' 4 = ((.slice (some ⟨b142, 0, none⟩) 3 3) : Value)) ∧ Sep G96 w70 ((Blk b142 (evA.cells (.slice (some ⟨b2, 0, none⟩) 2 2) ++ evB.cells (.slice (some ⟨b26, 0, none⟩) 2 2) ++ evC.cells (.slice (some ⟨b50, 0, none⟩) 2 2)).toArray 59) :: (Blk b67 (evC.cells (.slice (some ⟨b50, 0, none⟩) 2 2)).toArray 59) :: (Blk b43 (evB.cells (.slice (some ⟨b26, 0, none⟩) 2 2)).toArray 59) :: (Blk b19 (evA.cells (.slice (some ⟨b2, 0, none⟩) 2 2)).toArray 59) :: Rs) w251
   exact ⟨b142, hv, hS252⟩
  ·skip
   obtain ⟨bt109, bf110, he113, hS253⟩ := hW243
   refine obl rfl ?_
   have e254 := hA242 1 (by decide)
   have e255 := hA242 2 (by decide)
   have e256 := hA242 3 (by decide)
   refine (zB (k := 10) (parts' := [(0, .agg (evA.cells (.slice (some ⟨b2, 0, none⟩) 2 2)).toArray), (1, .agg (evB.cells (.slice (some ⟨b26, 0, none⟩) 2 2)).toArray), (2, .agg (evC.cells (.slice (some ⟨b50, 0, none⟩) 2 2)).toArray)]) (c := (evA.cells (.slice (some ⟨b2, 0, none⟩) 2 2) ++ evB.cells (.slice (some ⟨b26, 0, none⟩) 2 2) ++ evC.cells (.slice (some ⟨b50, 0, none⟩) 2 2)).toArray) Tryd.underlying47 Tryd.sizeOf59 Tryd.zeroValue59 (by decide) (xE ⟨rfl, e254, rfl, e255, rfl, e256, trivial⟩) (by kernel_rfl) ?_)
   intro w259 b142 hn257
   have hS260 := hS253.new hn257
   intro vals' hv hv'
   refine ⟨?_, trivial⟩
   show ∃ (bt109 : Nat) (bf110 : Nat) (b142 : Nat), (vals' 0 = (.agg #[(.slice (some ⟨bt109, 0, none⟩) 1 1), .slice none 0 0] : Value)) ∧ (vals' 4 = ((.slice (some ⟨b142, 0, none⟩) 3 3) : Value)) ∧ Sep G96 w70 ((Blk b142 (evA.cells (.slice (some ⟨b2, 0, none⟩) 2 2) ++ evB.cells (.slice (some ⟨b26, 0, none⟩) 2 2) ++ evC.cells (.slice (some ⟨b50, 0, none⟩) 2 2)).toArray 59) :: (Blk bt109 #[(.slice (some ⟨bf110, 0, none⟩) 1 1)] 33) :: (Blk bf110 #[.int .i64 (2), .int .i64 (2), .bool false, .slice none 0 0] 79) :: (Blk b67 (evC.cells (.slice (some ⟨b50, 0, none⟩) 2 2)).toArray 59) :: (Blk b43 (evB.cells (.slice (some ⟨b26, 0, none⟩) 2 2)).toArray 59) :: (Blk b19 (evA.cells (.slice (some ⟨b2, 0, none⟩) 2 2)).toArray 59) :: Rs) w259
   exact ⟨bt109, bf110, b142, (by rw [hv' 0 (by decide)]; exact he113), hv, hS260⟩
 ·intro k261 vals w262 hk265 hW264 hA263
  have hk2652 : k261 ∈ [3] := hk265
  simp only [List.mem_cons, List.not_mem_nil, or_false] at hk2652
  subst hk2652
  obtain ⟨bt109, bf110, b142, he113, he145, hS266⟩ := hW264
  refine obl rfl ?_
  have hS267 := hS266.mv2
  have hS268 : Sep G96 w70 ((RowE (α := Fld) (shr G96 w70) 79 (.slice (some ⟨bf110, 0, none⟩) 1 1) [(⟨2, 2, false, []⟩ : Fld)]) :: (Blk b142 (evA.cells (.slice (some ⟨b2, 0, none⟩) 2 2) ++ evB.cells (.slice (some ⟨b26, 0, none⟩) 2 2) ++ evC.cells (.slice (some ⟨b50, 0, none⟩) 2 2)).toArray 59) :: (Blk bt109 #[(.slice (some ⟨bf110, 0, none⟩) 1 1)] 33) :: (Blk b67 (evC.cells (.slice (some ⟨b50, 0, none⟩) 2 2)).toArray 59) :: (Blk b43 (evB.cells (.slice (some ⟨b26, 0, none⟩) 2 2)).toArray 59) :: (Blk b19 (evA.cells (.slice (some ⟨b2, 0, none⟩) 2 2)).toArray 59) :: Rs) w262 := Sep.blkRow (src := (shr G96 w70)) (l := [(⟨2, 2, false, []⟩ : Fld)]) (css := [(⟨2, 2, false, []⟩ : Fld).cells (.slice none 0 0)]) hS267 rfl ⟨fun _ _ => ⟨_, rfl, (RdS.nil _ _), (show Fld.Ok (⟨2, 2, false, []⟩ : Fld) from ⟨by decide, by decide⟩)⟩, trivial⟩ (by first | decide | (simp only [List.length_cons, List.length_nil]; decide))
  have hr269 := hS268.row (i := 0) rfl
  have hr269s : _ * 48 ≤ _ := hr269.2
  obtain ⟨G270, hA272, hB273, hS274, hk275⟩ := hS268.lend
  have hrd276 := RowE.rdB hA272 hB273
  have hrd276s : _ * 48 ≤ _ := hrd276.small
  have hS277 := hS274.mv1
  have hS278 : Sep G270 w262 ((RowE (α := Typ) (shr G270 w262) 33 (.slice (some ⟨bt109, 0, none⟩) 1 1) [(⟨[(⟨2, 2, false, []⟩ : Fld)]⟩ : Typ)]) :: (Blk b142 (evA.cells (.slice (some ⟨b2, 0, none⟩) 2 2) ++ evB.cells (.slice (some ⟨b26, 0, none⟩) 2 2) ++ evC.cells (.slice (some ⟨b50, 0, none⟩) 2 2)).toArray 59) :: (Blk b67 (evC.cells (.slice (some ⟨b50, 0, none⟩) 2 2)).toArray 59) :: (Blk b43 (evB.cells (.slice (some ⟨b26, 0, none⟩) 2 2)).toArray 59) :: (Blk b19 (evA.cells (.slice (some ⟨b2, 0, none⟩) 2 2)).toArray 59) :: Rs) w262 := Sep.blkRow (src := (shr G270 w262)) (l := [(⟨[(⟨2, 2, false, []⟩ : Fld)]⟩ : Typ)]) (css := [(⟨[(⟨2, 2, false, []⟩ : Fld)]⟩ : Typ).cells (.slice (some ⟨bf110, 0, none⟩) 1 1)]) hS277 rfl ⟨fun _ _ => ⟨_, rfl, hrd276, (show Typ.Ok (⟨[(⟨2, 2, false, []⟩ : Fld)]⟩ : Typ) from ⟨⟩)⟩, trivial⟩ (by first | decide | (simp only [List.length_cons, List.length_nil]; decide))
  have hr279 := hS278.row (i := 0) rfl
  have hr279s : _ * 24 ≤ _ := hr279.2
  obtain ⟨G280, hA282, hB283, hS284, hk285⟩ := hS278.lend
  have hrd286 := RowE.rdB hA282 hB283
  have hrd286s : _ * 24 ≤ _ := hrd286.small
  have hS287 : Sep G280 w262 ((RowE (α := Ev) (shr G280 w262) 59 (.slice (some ⟨b142, 0, none⟩) 3 3) [evA, evB, evC]) :: (Blk b67 (evC.cells (.slice (some ⟨b50, 0, none⟩) 2 2)).toArray 59) :: (Blk b43 (evB.cells (.slice (some ⟨b26, 0, none⟩) 2 2)).toArray 59) :: (Blk b19 (evA.cells (.slice (some ⟨b2, 0, none⟩) 2 2)).toArray 59) :: Rs) w262 := Sep.blkRow (src := (shr G280 w262)) (l := [evA, evB, evC]) (css := [evA.cells (.slice (some ⟨b2, 0, none⟩) 2 2), evB.cells (.slice (some ⟨b26, 0, none⟩) 2 2), evC.cells (.slice (some ⟨b50, 0, none⟩) 2 2)]) hS284 rfl ⟨fun _ _ => ⟨_, rfl, (RdS.base (RdS.base hrd102 hB273) hB283), hev73⟩, fun _ _ => ⟨_, rfl, (RdS.base (RdS.base (RdS.base hrd94 hB99) hB273) hB283), hev75⟩, fun _ _ => ⟨_, rfl, (RdS.base (RdS.base (RdS.base (RdS.base hrd86 hB91) hB99) hB273) hB283), hev77⟩, trivial⟩ (by first | decide | (simp only [List.length_cons, List.length_nil]; decide))
  have hr288 := hS287.row (i := 0) rfl
  have hr288s : _ * 96 ≤ _ := hr288.2
  obtain ⟨G289, hA291, hB292, hS293, hk294⟩ := hS287.lend
  have hrd295 := RowE.rdB hA291 hB292
  have hrd295s : _ * 96 ≤ _ := hrd295.small
  refine (zv (f := 38) (vals := [.agg ((zW 2).cells (.slice (some ⟨bt109, 0, none⟩) 1 1) (.slice none 0 0)).toArray, (.slice (some ⟨b142, 0, none⟩) 3 3)]) (cap := []) rfl (xj ⟨he113, he145, trivial⟩) Tryd.call38 (WN (d := (zW 2)) (l := [evA, evB, evC]) (vl := (.slice (some ⟨b142, 0, none⟩) 3 3)) (RdS.base hrd286 hB292) (RdS.nil _ _) (show Dcl.Ok (zW 2) from ⟨⟩) hrd295 (RdS.base (RdS.base (RdS.base (RdS.base (RdS.base (RdS.base hKN hB83) hB91) hB99) hB273) hB283) hB292) hS293 ((WL _)) ((by decide))) ?_)
  rintro _ w297 ⟨b189, rfl, hS298⟩
  have hS299 := hk294 _ _ hS298
  have hS300 := hk285 _ _ hS299
  have hS301 := hk275 _ _ hS300
  have hS302 : Sep G96 w70 ((RowE (α := Fld) (shr G96 w70) 79 (.slice (some ⟨bf110, 0, none⟩) 1 1) [(⟨2, 2, false, []⟩ : Fld)]) :: (ViewO b189 (zW 2) kx kx) :: (Blk b67 (evC.cells (.slice (some ⟨b50, 0, none⟩) 2 2)).toArray 59) :: (Blk b43 (evB.cells (.slice (some ⟨b26, 0, none⟩) 2 2)).toArray 59) :: (Blk b19 (evA.cells (.slice (some ⟨b2, 0, none⟩) 2 2)).toArray 59) :: Rs) w297 := hS301.sel 7 [0, 3, 4, 5, 6] (Nat.le_add_left _ _) rfl rfl
  intro vals' hv hv'
  refine ⟨?_, trivial⟩
  show ∃ (bt109 : Nat) (bf110 : Nat) (b142 : Nat) (b189 : Nat), (vals' 0 = (.agg #[(.slice (some ⟨bt109, 0, none⟩) 1 1), .slice none 0 0] : Value)) ∧ (vals' 4 = ((.slice (some ⟨b142, 0, none⟩) 3 3) : Value)) ∧ (vals' 5 = (.pointer (some ⟨b189, 0, none⟩) : Value)) ∧ Sep G96 w70 ((RowE (α := Fld) (shr G96 w70) 79 (.slice (some ⟨bf110, 0, none⟩) 1 1) [(⟨2, 2, false, []⟩ : Fld)]) :: (ViewO b189 (zW 2) kx kx) :: (Blk b67 (evC.cells (.slice (some ⟨b50, 0, none⟩) 2 2)).toArray 59) :: (Blk b43 (evB.cells (.slice (some ⟨b26, 0, none⟩) 2 2)).toArray 59) :: (Blk b19 (evA.cells (.slice (some ⟨b2, 0, none⟩) 2 2)).toArray 59) :: Rs) w297
  exact ⟨bt109, bf110, b142, b189, (by rw [hv' 0 (by decide)]; exact he113), (by rw [hv' 4 (by decide)]; exact he145), hv, hS302⟩
 ·intro k303 vals w304 hk307 hW306 hA305
  have hk3072 : k303 ∈ [7] := hk307
  simp only [List.mem_cons, List.not_mem_nil, or_false] at hk3072
  subst hk3072
  obtain ⟨bt109, bf110, b142, b189, he113, he145, he196, hS308⟩ := hW306
  refine obl rfl ?_
  refine ze (v := .pointer (some ⟨b189, 0, none⟩)) he196 (fun vals' hv hv' => ⟨rfl, ?_⟩)
  intro b189q hq0
  rw [hv' 5 (by decide)] at hq0; cases he196.symm.trans hq0
  exact hv
 intro vals w309 hW310 hA311
 obtain ⟨bt109, bf110, b142, b189, he113, he145, he196, hS312⟩ := hW310
 have e313 : vals 6 = (.pointer (some ⟨b189, 0, none⟩) : Value) := hA311 6 (by decide) b189 he196
 refine yh (kv := [(0, .bool false), (12, (.slice (some ⟨b2, 0, none⟩) 2 2)), (13, .agg ((⟨0, 1, 1, [0, 0], 0, 0, 0, 2, 1, 0⟩ : Ev).cells (.slice (some ⟨b2, 0, none⟩) 2 2)).toArray), (1, .pointer (some ⟨b19, 0, none⟩)), (14, (.slice (some ⟨b26, 0, none⟩) 2 2)), (15, .agg ((⟨1, 1, 2, [0, 0], 0, 0, 0, 2, 2, 0⟩ : Ev).cells (.slice (some ⟨b26, 0, none⟩) 2 2)).toArray), (2, .pointer (some ⟨b43, 0, none⟩)), (16, (.slice (some ⟨b50, 0, none⟩) 2 2)), (17, .agg ((⟨1, 2, 3, [0, 1], 0, 0, 0, 2, 3, 0⟩ : Ev).cells (.slice (some ⟨b50, 0, none⟩) 2 2)).toArray), (3, .pointer (some ⟨b67, 0, none⟩)), (4, .pointer (some ⟨b189, 0, none⟩))]) ⟨rfl, rfl, rfl, rfl, rfl, rfl, rfl, rfl, rfl, rfl, (by exact e313), trivial⟩ (fun ρw309 => ?_)
 refine zf ?_
 refine zd ?_
 have hS314 : Sep G96 w70 ((ViewO b189 (zW 2) kx kx) :: (Blk b67 (evC.cells (.slice (some ⟨b50, 0, none⟩) 2 2)).toArray 59) :: (Blk b43 (evB.cells (.slice (some ⟨b26, 0, none⟩) 2 2)).toArray 59) :: (Blk b19 (evA.cells (.slice (some ⟨b2, 0, none⟩) 2 2)).toArray 59) :: Rs) w309 := hS312.sel 5 [1, 2, 3, 4] (Nat.le_add_left _ _) rfl rfl
 have hS315 : Sep G96 w70 ((Blk b67 (evC.cells (.slice (some ⟨b50, 0, none⟩) 2 2)).toArray 59) :: (Blk b43 (evB.cells (.slice (some ⟨b26, 0, none⟩) 2 2)).toArray 59) :: (Blk b19 (evA.cells (.slice (some ⟨b2, 0, none⟩) 2 2)).toArray 59) :: (ViewO b189 (zW 2) kx kx) :: Rs) w309 := hS314.sel 4 [1, 2, 3, 0] (Nat.le_add_left _ _) rfl rfl
 generalize hR317 : ((ViewO b189 (zW 2) kx kx) :: Rs) = R316 at hS315
 refine Yj ((fun TT pp0 => WF [fun vals wq => Sep G96 w70 (pp0 :: TT) wq, fun vals wq => ∃ (bt324 : Nat) (bf325 : Nat), (vals 0 = (.agg #[(.slice (some ⟨bt324, 0, none⟩) 1 1), .slice none 0 0] : Value)) ∧ Sep G96 w70 ((Blk bt324 #[(.slice (some ⟨bf325, 0, none⟩) 1 1)] 33) :: (Blk bf325 #[.int .i64 (2), .int .i64 (3), .bool false, .slice none 0 0] 79) :: pp0 :: TT) wq, fun vals wq => ∃ (b357 : Nat), (vals 4 = ((.slice (some ⟨b357, 0, none⟩) 3 3) : Value)) ∧ Sep G96 w70 ((Blk b357 (evB.cells (.slice (some ⟨b26, 0, none⟩) 2 2) ++ evA.cells (.slice (some ⟨b2, 0, none⟩) 2 2) ++ evC.cells (.slice (some ⟨b50, 0, none⟩) 2 2)).toArray 59) :: pp0 :: TT) wq, fun vals wq => ∃ (bt324 : Nat) (bf325 : Nat) (b357 : Nat), (vals 0 = (.agg #[(.slice (some ⟨bt324, 0, none⟩) 1 1), .slice none 0 0] : Value)) ∧ (vals 4 = ((.slice (some ⟨b357, 0, none⟩) 3 3) : Value)) ∧ Sep G96 w70 ((Blk b357 (evB.cells (.slice (some ⟨b26, 0, none⟩) 2 2) ++ evA.cells (.slice (some ⟨b2, 0, none⟩) 2 2) ++ evC.cells (.slice (some ⟨b50, 0, none⟩) 2 2)).toArray 59) :: (Blk bt324 #[(.slice (some ⟨bf325, 0, none⟩) 1 1)] 33) :: (Blk bf325 #[.int .i64 (2), .int .i64 (3), .bool false, .slice none 0 0] 79) :: pp0 :: TT) wq, fun _ _ => True, fun _ _ => True, fun _ _ => True, fun vals wq => ∃ (bt324 : Nat) (bf325 : Nat) (b357 : Nat) (b404 : Nat), (vals 0 = (.agg #[(.slice (some ⟨bt324, 0, none⟩) 1 1), .slice none 0 0] : Value)) ∧ (vals 4 = ((.slice (some ⟨b357, 0, none⟩) 3 3) : Value)) ∧ (vals 5 = (.pointer (some ⟨b404, 0, none⟩) : Value)) ∧ Sep G96 w70 ((RowE (α := Fld) (shr G96 w70) 79 (.slice (some ⟨bf325, 0, none⟩) 1 1) [(⟨2, 3, false, []⟩ : Fld)]) :: (ViewO b404 (zW 3) ky ky) :: pp0 :: TT) wq]) ((Blk b43 (evB.cells (.slice (some ⟨b26, 0, none⟩) 2 2)).toArray 59) :: (Blk b19 (evA.cells (.slice (some ⟨b2, 0, none⟩) 2 2)).toArray 59) :: R316) (Blk b67 (evC.cells (.slice (some ⟨b50, 0, none⟩) 2 2)).toArray 59)) (AF [fun _ => True, Vl 1 (.agg (evB.cells (.slice (some ⟨b26, 0, none⟩) 2 2)).toArray), Vl 2 (.agg (evA.cells (.slice (some ⟨b2, 0, none⟩) 2 2)).toArray), Vl 3 (.agg (evC.cells (.slice (some ⟨b50, 0, none⟩) 2 2)).toArray), fun _ => True, fun _ => True, fun vals => ∀ (b404 : Nat), vals 5 = (.pointer (some ⟨b404, 0, none⟩) : Value) → vals 6 = (.pointer (some ⟨b404, 0, none⟩) : Value)]) [[], [], [], [], [1, 2, 3], [0, 1, 2, 3, 4], [0, 1, 2, 3, 4, 5]] [0, 4, 5] [[0, 2], [0, 1], [0, 1], [0, 1], [0, 1], [3], [7]] (by kernel_rfl) (by kernel_rfl) (by kernel_rfl) rfl (by kernel_rfl) (by kernel_rfl) (by decide) (fun _ h1 h2 h3 h4 _ => hS315.same h1 h2 h3 h4) ?_ (yg ⟨dT, dA, dA, dA, dT, dT, fun vals vals' hv h => fun b404 hq0 => (hv 6 (.inl rfl)).trans (h b404 ((hv 5 (.inr (by decide))).symm.trans hq0)), trivial⟩) ⟨?_, ?_, ?_, ?_, ?_, ?_, ?_, trivial⟩ ?_
 ·intro k vals vals' w hv h
  have e : ∀ j ∈ ([0, 4, 5] : List Nat), vals' j = vals j := hv
  match k, h with
  | 0, h => exact h
  | 1, h => exact (by simpa only [WF, List.getElem?_cons_zero, List.getElem?_cons_succ, e 0 (by decide)] using h)
  | 2, h => exact (by simpa only [WF, List.getElem?_cons_zero, List.getElem?_cons_succ, e 4 (by decide)] using h)
  | 3, h => exact (by simpa only [WF, List.getElem?_cons_zero, List.getElem?_cons_succ, e 0 (by decide), e 4 (by decide)] using h)
  | 4, h => exact h
  | 5, h => exact h
  | 6, h => exact h
  | 7, h => exact (by simpa only [WF, List.getElem?_cons_zero, List.getElem?_cons_succ, e 0 (by decide), e 4 (by decide), e 5 (by decide)] using h)
  | _ + 8, _ => trivial
 ·intro k418 vals w419 hk422 hW421 hA420
  have hk4222 : k418 ∈ [0, 2] := hk422
  simp only [List.mem_cons, List.not_mem_nil, or_false] at hk4222
  rcases hk4222 with rfl | rfl
  ·skip
   have hS423 : Sep _ _ _ _ := hW421
   refine obl rfl ?_
   refine (zv (f := 44) (vals := [.int .i64 (3)]) (cap := []) rfl rfl Tryd.call44 (ZV (p := 3) (by decide) hS423) ?_)
   rintro _ w426 ⟨bt324, bf325, rfl, hS427⟩
   intro vals' hv hv'
   refine ⟨?_, trivial⟩
   show ∃ (bt324 : Nat) (bf325 : Nat), (vals' 0 = (.agg #[(.slice (some ⟨bt324, 0, none⟩) 1 1), .slice none 0 0] : Value)) ∧ Sep G96 w70 ((Blk bt324 #[(.slice (some ⟨bf325, 0, none⟩) 1 1)] 33) :: (Blk bf325 #[.int .i64 (2), .int .i64 (3), .bool false, .slice none 0 0] 79) :: (Blk b67 (evC.cells (.slice (some ⟨b50, 0, none⟩) 2 2)).toArray 59) :: (Blk b43 (evB.cells (.slice (some ⟨b26, 0, none⟩) 2 2)).toArray 59) :: (Blk b19 (evA.cells (.slice (some ⟨b2, 0, none⟩) 2 2)).toArray 59) :: R316) w426
   exact ⟨bt324, bf325, hv, hS427⟩
  ·skip
   obtain ⟨b357, he360, hS428⟩ := hW421
   refine obl rfl ?_
   refine (zv (f := 44) (vals := [.int .i64 (3)]) (cap := []) rfl rfl Tryd.call44 (ZV (p := 3) (by decide) hS428) ?_)
   rintro _ w431 ⟨bt324, bf325, rfl, hS432⟩
   have hS433 := hS432.mv2
   intro vals' hv hv'
   refine ⟨?_, trivial⟩
   show ∃ (bt324 : Nat) (bf325 : Nat) (b357 : Nat), (vals' 0 = (.agg #[(.slice (some ⟨bt324, 0, none⟩) 1 1), .slice none 0 0] : Value)) ∧ (vals' 4 = ((.slice (some ⟨b357, 0, none⟩) 3 3) : Value)) ∧ Sep G96 w70 ((Blk b357 (evB.cells (.slice (some ⟨b26, 0, none⟩) 2 2) ++ evA.cells (.slice (some ⟨b2, 0, none⟩) 2 2) ++ evC.cells (.slice (some ⟨b50, 0, none⟩) 2 2)).toArray 59) :: (Blk bt324 #[(.slice (some ⟨bf325, 0, none⟩) 1 1)] 33) :: (Blk bf325 #[.int .i64 (2), .int .i64 (3), .bool false, .slice none 0 0] 79) :: (Blk b67 (evC.cells (.slice (some ⟨b50, 0, none⟩) 2 2)).toArray 59) :: (Blk b43 (evB.cells (.slice (some ⟨b26, 0, none⟩) 2 2)).toArray 59) :: (Blk b19 (evA.cells (.slice (some ⟨b2, 0, none⟩) 2 2)).toArray 59) :: R316) w431
   exact ⟨bt324, bf325, b357, hv, (by rw [hv' 4 (by decide)]; exact he360), hS433⟩
 ·intro k434 vals w435 hk438 hW437 hA436
  have hk4382 : k434 ∈ [0, 1] := hk438
  simp only [List.mem_cons, List.not_mem_nil, or_false] at hk4382
  rcases hk4382 with rfl | rfl
  ·skip
   have hS439 : Sep _ _ _ _ := hW437
   refine obl rfl ?_
   exact zl (k := 10) Tryd.isAgg59 Tryd.sizeOf59 rfl rfl (CellsAt.all (hS439.blk (i := 1) rfl)) (fun vals' hv _ => ⟨rfl, hv⟩)
  ·skip
   obtain ⟨bt324, bf325, he328, hS440⟩ := hW437
   refine obl rfl ?_
   exact zl (k := 10) Tryd.isAgg59 Tryd.sizeOf59 rfl rfl (CellsAt.all (hS440.blk (i := 3) rfl)) (fun vals' hv _ => ⟨rfl, hv⟩)
 ·intro k441 vals w442 hk445 hW444 hA443
  have hk4452 : k441 ∈ [0, 1] := hk445
  simp only [List.mem_cons, List.not_mem_nil, or_false] at hk4452
  rcases hk4452 with rfl | rfl
  ·skip
   have hS446 : Sep _ _ _ _ := hW444
   refine obl rfl ?_
   exact zl (k := 10) Tryd.isAgg59 Tryd.sizeOf59 rfl rfl (CellsAt.all (hS446.blk (i := 2) rfl)) (fun vals' hv _ => ⟨rfl, hv⟩)
  ·skip
   obtain ⟨bt324, bf325, he328, hS447⟩ := hW444
   refine obl rfl ?_
   exact zl (k := 10) Tryd.isAgg59 Tryd.sizeOf59 rfl rfl (CellsAt.all (hS447.blk (i := 4) rfl)) (fun vals' hv _ => ⟨rfl, hv⟩)
 ·intro k448 vals w449 hk452 hW451 hA450
  have hk4522 : k448 ∈ [0, 1] := hk452
  simp only [List.mem_cons, List.not_mem_nil, or_false] at hk4522
  rcases hk4522 with rfl | rfl
  ·skip
   have hS453 : Sep _ _ _ _ := hW451
   refine obl rfl ?_
   exact zl (k := 10) Tryd.isAgg59 Tryd.sizeOf59 rfl rfl (CellsAt.all (hS453.blk (i := 0) rfl)) (fun vals' hv _ => ⟨rfl, hv⟩)
  ·skip
   obtain ⟨bt324, bf325, he328, hS454⟩ := hW451
   refine obl rfl ?_
   exact zl (k := 10) Tryd.isAgg59 Tryd.sizeOf59 rfl rfl (CellsAt.all (hS454.blk (i := 2) rfl)) (fun vals' hv _ => ⟨rfl, hv⟩)
 ·intro k455 vals w456 hk459 hW458 hA457
  have hk4592 : k455 ∈ [0, 1] := hk459
  simp only [List.mem_cons, List.not_mem_nil, or_false] at hk4592
  rcases hk4592 with rfl | rfl
  ·skip
   have hS460 : Sep _ _ _ _ := hW458
   refine obl rfl ?_
   have e461 := hA457 1 (by decide)
   have e462 := hA457 2 (by decide)
   have e463 := hA457 3 (by decide)
   refine (zB (k := 10) (parts' := [(0, .agg (evB.cells (.slice (some ⟨b26, 0, none⟩) 2 2)).toArray), (1, .agg (evA.cells (.slice (some ⟨b2, 0, none⟩) 2 2)).toArray), (2, .agg (evC.cells (.slice (some ⟨b50, 0, none⟩) 2 2)).toArray)]) (c := (evB.cells (.slice (some ⟨b26, 0, none⟩) 2 2) ++ evA.cells (.slice (some ⟨b2, 0, none⟩) 2 2) ++ evC.cells (.slice (some ⟨b50, 0, none⟩) 2 2)).toArray) Tryd.underlying47 Tryd.sizeOf59 Tryd.zeroValue59 (by decide) (xE ⟨rfl, e461, rfl, e462, rfl, e463, trivial⟩) (by kernel_rfl) ?_)
   intro w466 b357 hn464
   have hS467 := hS460.new hn464
   intro vals' hv hv'
   refine ⟨?_, trivial⟩
   show ∃ (b357 : Nat), (vals' 4 = ((.slice (some ⟨b357, 0, none⟩) 3 3) : Value)) ∧ Sep G96 w70 ((Blk b357 (evB.cells (.slice (some ⟨b26, 0, none⟩) 2 2) ++ evA.cells (.slice (some ⟨b2, 0, none⟩) 2 2) ++ evC.cells (.slice (some ⟨b50, 0, none⟩) 2 2)).toArray 59) :: (Blk b67 (evC.cells (.slice (some ⟨b50, 0, none⟩) 2 2)).toArray 59) :: (Blk b43 (evB.cells (.slice (some ⟨b26, 0, none⟩) 2 2)).toArray 59) :: (Blk b19 (evA.cells (.slice (some ⟨b2, 0, none⟩) 2 2)).toArray 59) :: R316) w466
   exact ⟨b357, hv, hS467⟩
  ·skip
   obtain ⟨bt324, bf325, he328, hS468⟩ := hW458
   refine obl rfl ?_
   have e469 := hA457 1 (by decide)
   have e470 := hA457 2 (by decide)
   have e471 := hA457 3 (by decide)
   refine (zB (k := 10) (parts' := [(0, .agg (evB.cells (.slice (some ⟨b26, 0, none⟩) 2 2)).toArray), (1, .agg (evA.cells (.slice (some ⟨b2, 0, none⟩) 2 2)).toArray), (2, .agg (evC.cells (.slice (some ⟨b50, 0, none⟩) 2 2)).toArray)]) (c := (evB.cells (.slice (some ⟨b26, 0, none⟩) 2 2) ++ evA.cells (.slice (some ⟨b2, 0, none⟩) 2 2) ++ evC.cells (.slice (some ⟨b50, 0, none⟩) 2 2)).toArray) Tryd.underlying47 Tryd.sizeOf59 Tryd.zeroValue59 (by decide) (xE ⟨rfl, e469, rfl, e470, rfl, e471, trivial⟩) (by kernel_rfl) ?_)
   intro w474 b357 hn472
   have hS475 := hS468.new hn472
   intro vals' hv hv'
   refine ⟨?_, trivial⟩
   show ∃ (bt324 : Nat) (bf325 : Nat) (b357 : Nat), (vals' 0 = (.agg #[(.slice (some ⟨bt324, 0, none⟩) 1 1), .slice none 0 0] : Value)) ∧ (vals' 4 = ((.slice (some ⟨b357, 0, none⟩) 3 3) : Value)) ∧ Sep G96 w70 ((Blk b357 (evB.cells (.slice (some ⟨b26, 0, none⟩) 2 2) ++ evA.cells (.slice (some ⟨b2, 0, none⟩) 2 2) ++ evC.cells (.slice (some ⟨b50, 0, none⟩) 2 2)).toArray 59) :: (Blk bt324 #[(.slice (some ⟨bf325, 0, none⟩) 1 1)] 33) :: (Blk bf325 #[.int .i64 (2), .int .i64 (3), .bool false, .slice none 0 0] 79) :: (Blk b67 (evC.cells (.slice (some ⟨b50, 0, none⟩) 2 2)).toArray 59) :: (Blk b43 (evB.cells (.slice (some ⟨b26, 0, none⟩) 2 2)).toArray 59) :: (Blk b19 (evA.cells (.slice (some ⟨b2, 0, none⟩) 2 2)).toArray 59) :: R316) w474
   exact ⟨bt324, bf325, b357, (by rw [hv' 0 (by decide)]; exact he328), hv, hS475⟩
 ·intro k476 vals w477 hk480 hW479 hA478
  have hk4802 : k476 ∈ [3] := hk480
  simp only [List.mem_cons, List.not_mem_nil, or_false] at hk4802
  subst hk4802
  obtain ⟨bt324, bf325, b357, he328, he360, hS481⟩ := hW479
  refine obl rfl ?_
  have hS482 := hS481.mv2
  have hS483 : Sep G96 w70 ((RowE (α := Fld) (shr G96 w70) 79 (.slice (some ⟨bf325, 0, none⟩) 1 1) [(⟨2, 3, false, []⟩ : Fld)]) :: (Blk b357 (evB.cells (.slice (some ⟨b26, 0, none⟩) 2 2) ++ evA.cells (.slice (some ⟨b2, 0, none⟩) 2 2) ++ evC.cells (.slice (some ⟨b50, 0, none⟩) 2 2)).toArray 59) :: (Blk bt324 #[(.slice (some ⟨bf325, 0, none⟩) 1 1)] 33) :: (Blk b67 (evC.cells (.slice (some ⟨b50, 0, none⟩) 2 2)).toArray 59) :: (Blk b43 (evB.cells (.slice (some ⟨b26, 0, none⟩) 2 2)).toArray 59) :: (Blk b19 (evA.cells (.slice (some ⟨b2, 0, none⟩) 2 2)).toArray 59) :: R316) w477 := Sep.blkRow (src := (shr G96 w70)) (l := [(⟨2, 3, false, []⟩ : Fld)]) (css := [(⟨2, 3, false, []⟩ : Fld).cells (.slice none 0 0)]) hS482 rfl ⟨fun _ _ => ⟨_, rfl, (RdS.nil _ _), (show Fld.Ok (⟨2, 3, false, []⟩ : Fld) from ⟨by decide, by decide⟩)⟩, trivial⟩ (by first | decide | (simp only [List.length_cons, List.length_nil]; decide))
  have hr484 := hS483.row (i := 0) rfl
  have hr484s : _ * 48 ≤ _ := hr484.2
  obtain ⟨G485, hA487, hB488, hS489, hk490⟩ := hS483.lend
  have hrd491 := RowE.rdB hA487 hB488
  have hrd491s : _ * 48 ≤ _ := hrd491.small
  have hS492 := hS489.mv1
  have hS493 : Sep G485 w477 ((RowE (α := Typ) (shr G485 w477) 33 (.slice (some ⟨bt324, 0, none⟩) 1 1) [(⟨[(⟨2, 3, false, []⟩ : Fld)]⟩ : Typ)]) :: (Blk b357 (evB.cells (.slice (some ⟨b26, 0, none⟩) 2 2) ++ evA.cells (.slice (some ⟨b2, 0, none⟩) 2 2) ++ evC.cells (.slice (some ⟨b50, 0, none⟩) 2 2)).toArray 59) :: (Blk b67 (evC.cells (.slice (some ⟨b50, 0, none⟩) 2 2)).toArray 59) :: (Blk b43 (evB.cells (.slice (some ⟨b26, 0, none⟩) 2 2)).toArray 59) :: (Blk b19 (evA.cells (.slice (some ⟨b2, 0, none⟩) 2 2)).toArray 59) :: R316) w477 := Sep.blkRow (src := (shr G485 w477)) (l := [(⟨[(⟨2, 3, false, []⟩ : Fld)]⟩ : Typ)]) (css := [(⟨[(⟨2, 3, false, []⟩ : Fld)]⟩ : Typ).cells (.slice (some ⟨bf325, 0, none⟩) 1 1)]) hS492 rfl ⟨fun _ _ => ⟨_, rfl, hrd491, (show Typ.Ok (⟨[(⟨2, 3, false, []⟩ : Fld)]⟩ : Typ) from ⟨⟩)⟩, trivial⟩ (by first | decide | (simp only [List.length_cons, List.length_nil]; decide))
  have hr494 := hS493.row (i := 0) rfl
  have hr494s : _ * 24 ≤ _ := hr494.2
  obtain ⟨G495, hA497, hB498, hS499, hk500⟩ := hS493.lend
  have hrd501 := RowE.rdB hA497 hB498
  have hrd501s : _ * 24 ≤ _ := hrd501.small
  have hS502 : Sep G495 w477 ((RowE (α := Ev) (shr G495 w477) 59 (.slice (some ⟨b357, 0, none⟩) 3 3) [evB, evA, evC]) :: (Blk b67 (evC.cells (.slice (some ⟨b50, 0, none⟩) 2 2)).toArray 59) :: (Blk b43 (evB.cells (.slice (some ⟨b26, 0, none⟩) 2 2)).toArray 59) :: (Blk b19 (evA.cells (.slice (some ⟨b2, 0, none⟩) 2 2)).toArray 59) :: R316) w477 := Sep.blkRow (src := (shr G495 w477)) (l := [evB, evA, evC]) (css := [evB.cells (.slice (some ⟨b26, 0, none⟩) 2 2), evA.cells (.slice (some ⟨b2, 0, none⟩) 2 2), evC.cells (.slice (some ⟨b50, 0, none⟩) 2 2)]) hS499 rfl ⟨fun _ _ => ⟨_, rfl, (RdS.base (RdS.base (RdS.base hrd94 hB99) hB488) hB498), hev75⟩, fun _ _ => ⟨_, rfl, (RdS.base (RdS.base hrd102 hB488) hB498), hev73⟩, fun _ _ => ⟨_, rfl, (RdS.base (RdS.base (RdS.base (RdS.base hrd86 hB91) hB99) hB488) hB498), hev77⟩, trivial⟩ (by first | decide | (simp only [List.length_cons, List.length_nil]; decide))
  have hr503 := hS502.row (i := 0) rfl
  have hr503s : _ * 96 ≤ _ := hr503.2
  obtain ⟨G504, hA506, hB507, hS508, hk509⟩ := hS502.lend
  have hrd510 := RowE.rdB hA506 hB507
  have hrd510s : _ * 96 ≤ _ := hrd510.small
  refine (zv (f := 38) (vals := [.agg ((zW 3).cells (.slice (some ⟨bt324, 0, none⟩) 1 1) (.slice none 0 0)).toArray, (.slice (some ⟨b357, 0, none⟩) 3 3)]) (cap := []) rfl (xj ⟨he328, he360, trivial⟩) Tryd.call38 (WN (d := (zW 3)) (l := [evB, evA, evC]) (vl := (.slice (some ⟨b357, 0, none⟩) 3 3)) (RdS.base hrd501 hB507) (RdS.nil _ _) (show Dcl.Ok (zW 3) from ⟨⟩) hrd510 (RdS.base (RdS.base (RdS.base (RdS.base (RdS.base (RdS.base hKN hB83) hB91) hB99) hB488) hB498) hB507) hS508 ((WL _)) ((by decide))) ?_)
  rintro _ w512 ⟨b404, rfl, hS513⟩
  have hS514 := hk509 _ _ hS513
  have hS515 := hk500 _ _ hS514
  have hS516 := hk490 _ _ hS515
  have hS517 : Sep G96 w70 ((RowE (α := Fld) (shr G96 w70) 79 (.slice (some ⟨bf325, 0, none⟩) 1 1) [(⟨2, 3, false, []⟩ : Fld)]) :: (ViewO b404 (zW 3) ky ky) :: (Blk b67 (evC.cells (.slice (some ⟨b50, 0, none⟩) 2 2)).toArray 59) :: (Blk b43 (evB.cells (.slice (some ⟨b26, 0, none⟩) 2 2)).toArray 59) :: (Blk b19 (evA.cells (.slice (some ⟨b2, 0, none⟩) 2 2)).toArray 59) :: R316) w512 := hS516.sel 7 [0, 3, 4, 5, 6] (Nat.le_add_left _ _) rfl rfl
  intro vals' hv hv'
  refine ⟨?_, trivial⟩
  show ∃ (bt324 : Nat) (bf325 : Nat) (b357 : Nat) (b404 : Nat), (vals' 0 = (.agg #[(.slice (some ⟨bt324, 0, none⟩) 1 1), .slice none 0 0] : Value)) ∧ (vals' 4 = ((.slice (some ⟨b357, 0, none⟩) 3 3) : Value)) ∧ (vals' 5 = (.pointer (some ⟨b404, 0, none⟩) : Value)) ∧ Sep G96 w70 ((RowE (α := Fld) (shr G96 w70) 79 (.slice (some ⟨bf325, 0, none⟩) 1 1) [(⟨2, 3, false, []⟩ : Fld)]) :: (ViewO b404 (zW 3) ky ky) :: (Blk b67 (evC.cells (.slice (some ⟨b50, 0, none⟩) 2 2)).toArray 59) :: (Blk b43 (evB.cells (.slice (some ⟨b26, 0, none⟩) 2 2)).toArray 59) :: (Blk b19 (evA.cells (.slice (some ⟨b2, 0, none⟩) 2 2)).toArray 59) :: R316) w512
  exact ⟨bt324, bf325, b357, b404, (by rw [hv' 0 (by decide)]; exact he328), (by rw [hv' 4 (by decide)]; exact he360), hv, hS517⟩
 ·intro k518 vals w519 hk522 hW521 hA520
  have hk5222 : k518 ∈ [7] := hk522
  simp only [List.mem_cons, List.not_mem_nil, or_false] at hk5222
  subst hk5222
  obtain ⟨bt324, bf325, b357, b404, he328, he360, he411, hS523⟩ := hW521
  refine obl rfl ?_
  refine ze (v := .pointer (some ⟨b404, 0, none⟩)) he411 (fun vals' hv hv' => ⟨rfl, ?_⟩)
  intro b404q hq0
  rw [hv' 5 (by decide)] at hq0; cases he411.symm.trans hq0
  exact hv
 intro vals w524 hW525 hA526
 obtain ⟨bt324, bf325, b357, b404, he328, he360, he411, hS527⟩ := hW525
 have e528 : vals 6 = (.pointer (some ⟨b404, 0, none⟩) : Value) := hA526 6 (by decide) b404 he411
 refine yh (kv := [(0, .bool false), (12, (.slice (some ⟨b2, 0, none⟩) 2 2)), (13, .agg ((⟨0, 1, 1, [0, 0], 0, 0, 0, 2, 1, 0⟩ : Ev).cells (.slice (some ⟨b2, 0, none⟩) 2 2)).toArray), (1, .pointer (some ⟨b19, 0, none⟩)), (14, (.slice (some ⟨b26, 0, none⟩) 2 2)), (15, .agg ((⟨1, 1, 2, [0, 0], 0, 0, 0, 2, 2, 0⟩ : Ev).cells (.slice (some ⟨b26, 0, none⟩) 2 2)).toArray), (2, .pointer (some ⟨b43, 0, none⟩)), (16, (.slice (some ⟨b50, 0, none⟩) 2 2)), (17, .agg ((⟨1, 2, 3, [0, 1], 0, 0, 0, 2, 3, 0⟩ : Ev).cells (.slice (some ⟨b50, 0, none⟩) 2 2)).toArray), (3, .pointer (some ⟨b67, 0, none⟩)), (4, .pointer (some ⟨b189, 0, none⟩)), (5, .pointer (some ⟨b404, 0, none⟩))]) ⟨rfl, rfl, rfl, rfl, rfl, rfl, rfl, rfl, rfl, rfl, rfl, (by exact e528), trivial⟩ (fun ρw524 => ?_)
 refine zf ?_
 refine zd ?_
 refine zd ?_
 rw [← hR317] at hS527
 have hS529 : Sep G96 w70 ((ViewO b404 (zW 3) ky ky) :: (Blk b67 (evC.cells (.slice (some ⟨b50, 0, none⟩) 2 2)).toArray 59) :: (Blk b43 (evB.cells (.slice (some ⟨b26, 0, none⟩) 2 2)).toArray 59) :: (Blk b19 (evA.cells (.slice (some ⟨b2, 0, none⟩) 2 2)).toArray 59) :: (ViewO b189 (zW 2) kx kx) :: Rs) w524 := hS527.sel 6 [1, 2, 3, 4, 5] (Nat.le_add_left _ _) rfl rfl
 have hS530 : Sep G96 w70 ((ViewO b404 (zW 3) ky ky) :: (ViewO b189 (zW 2) kx kx) :: (Blk b67 (evC.cells (.slice (some ⟨b50, 0, none⟩) 2 2)).toArray 59) :: (Blk b43 (evB.cells (.slice (some ⟨b26, 0, none⟩) 2 2)).toArray 59) :: (Blk b19 (evA.cells (.slice (some ⟨b2, 0, none⟩) 2 2)).toArray 59) :: Rs) w524 := hS529.sel 5 [0, 4, 1, 2, 3] (Nat.le_add_left _ _) rfl rfl
 generalize hR532 : ((Blk b67 (evC.cells (.slice (some ⟨b50, 0, none⟩) 2 2)).toArray 59) :: (Blk b43 (evB.cells (.slice (some ⟨b26, 0, none⟩) 2 2)).toArray 59) :: (Blk b19 (evA.cells (.slice (some ⟨b2, 0, none⟩) 2 2)).toArray 59) :: Rs) = R531 at hS530
 have hS533 : Sep G96 w70 ((ViewO b404 (zW 3) ky ky) :: (ViewO b189 (zW 2) kx kx) :: R531) w524 := hS530
 refine zD (by kernel_rfl) ?_
 refine st (zb (v := .pointer (some ⟨b189, 0, none⟩)) rfl ?_)
 refine st (xY (b := b189) (o := 0) Tryd.underlying51 rfl ?_)
 refine st (zb (v := .bool false) rfl ?_)
 refine sty rfl rfl (zb (v := .pointer (some ⟨b404, 0, none⟩)) rfl ?_)
 refine sty rfl rfl (xY (b := b404) (o := 0) Tryd.underlying51 rfl ?_)
 refine st (zV (v := .bool false) rfl rfl ?_)
 refine zf ?_
 refine zo rfl ?_
 refine zw ?_
 refine zd ?_
 refine za (by kernel_rfl) (fun _ => ?_)
 refine st (zb (v := .pointer (some ⟨b189, 0, none⟩)) rfl ?_)
 have hS534 := hS533.mv1
 refine st (zv (f := 36) (vals := [.pointer (some ⟨b189, 0, none⟩)]) (cap := []) rfl rfl Tryd.call36 (Zc  hS534) ?_)
 rintro v535 w536 ⟨_, rfl, hS537⟩
 have hr538 := hS537.row (i := 1) rfl
 have hr538s : _ * 120 ≤ _ := hr538.2
 refine st (ze (v := v535) rfl ?_)
 refine zf ?_
 refine zd ?_
 refine za (by kernel_rfl) (fun _ => ?_)
 refine st (zb (v := .pointer (some ⟨b404, 0, none⟩)) rfl ?_)
 have hS539 := hS537.mv2
 refine st (zv (f := 36) (vals := [.pointer (some ⟨b404, 0, none⟩)]) (cap := []) rfl rfl Tryd.call36 (Zc  hS539) ?_)
 rintro v540 w541 ⟨_, rfl, hS542⟩
 have hr543 := hS542.row (i := 1) rfl
 have hr543s : _ * 120 ≤ _ := hr543.2
 refine st (ze (v := v540) rfl ?_)
 refine zf ?_
 refine zd ?_
 refine za (by kernel_rfl) (fun _ => ?_)
 refine st (zb (v := .pointer (some ⟨b189, 0, none⟩)) rfl ?_)
 have hS544 := hS542.mv2
 refine st (zv (f := 32) (vals := [.pointer (some ⟨b189, 0, none⟩), .int .i64 (0), .int .i64 (0)]) (cap := []) rfl rfl Tryd.call32 (WX (ty := 0) (no := 0) (by decide) (by decide) hS544) ?_)
 rintro _ w546 ⟨v545, rfl, hS547⟩
 have hr548 := hS547.row (i := 1) rfl
 have hr548s : _ * 32 ≤ _ := hr548.2
 refine st (zb (v := .tuple #[.agg ((xn (zW 2) (0, 0) kx).cells v545).toArray, .bool ((zj (zW 2) kx (0, 0)).isSome)]) rfl ?_)
 refine st (zH (vs := [.agg ((xn (zW 2) (0, 0) kx).cells v545).toArray, .bool ((zj (zW 2) kx (0, 0)).isSome)]) (i := 0) (v := .agg ((xn (zW 2) (0, 0) kx).cells v545).toArray) rfl rfl ?_)
 refine st (zH (vs := [.agg ((xn (zW 2) (0, 0) kx).cells v545).toArray, .bool ((zj (zW 2) kx (0, 0)).isSome)]) (i := 1) (v := .bool ((zj (zW 2) kx (0, 0)).isSome)) rfl rfl ?_)
 refine st (zE Tryd.zeroValue68 ?_)
 intro w551 b550 hn549
 have hS552 := hS547.new hn549
 refine stn (zy (v := .agg ((xn (zW 2) (0, 0) kx).cells v545).toArray) (c' := ((xn (zW 2) (0, 0) kx).cells v545).toArray) Tryd.sizeOf68 rfl rfl (hS552.blk (i := 0) rfl) (yj ⟨rfl, hr548.1.one, trivial⟩) (Nat.le_of_ble_eq_true rfl) rfl ?_)
 intro w553 hp554
 have hS555 := hS552.pt0 hp554
 refine st (ze (v := .bool ((zj (zW 2) kx (0, 0)).isSome)) rfl ?_)
 refine zf ?_
 refine zd ?_
 refine za (by kernel_rfl) (fun _ => ?_)
 refine st (zb (v := .pointer (some ⟨b404, 0, none⟩)) rfl ?_)
 have hS556 := hS555.mv3
 refine st (zv (f := 32) (vals := [.pointer (some ⟨b404, 0, none⟩), .int .i64 (0), .int .i64 (0)]) (cap := []) rfl rfl Tryd.call32 (WX (ty := 0) (no := 0) (by decide) (by decide) hS556) ?_)
 rintro _ w558 ⟨v557, rfl, hS559⟩
 have hr560 := hS559.row (i := 1) rfl
 have hr560s : _ * 32 ≤ _ := hr560.2
 refine st (zb (v := .tuple #[.agg ((xn (zW 3) (0, 0) ky).cells v557).toArray, .bool ((zj (zW 3) ky (0, 0)).isSome)]) rfl ?_)
 refine st (zH (vs := [.agg ((xn (zW 3) (0, 0) ky).cells v557).toArray, .bool ((zj (zW 3) ky (0, 0)).isSome)]) (i := 0) (v := .agg ((xn (zW 3) (0, 0) ky).cells v557).toArray) rfl rfl ?_)
 refine st (zH (vs := [.agg ((xn (zW 3) (0, 0) ky).cells v557).toArray, .bool ((zj (zW 3) ky (0, 0)).isSome)]) (i := 1) (v := .bool ((zj (zW 3) ky (0, 0)).isSome)) rfl rfl ?_)
 refine st (zE Tryd.zeroValue68 ?_)
 intro w563 b562 hn561
 have hS564 := hS559.new hn561
 refine stn (zy (v := .agg ((xn (zW 3) (0, 0) ky).cells v557).toArray) (c' := ((xn (zW 3) (0, 0) ky).cells v557).toArray) Tryd.sizeOf68 rfl rfl (hS564.blk (i := 0) rfl) (yj ⟨rfl, hr560.1.one, trivial⟩) (Nat.le_of_ble_eq_true rfl) rfl ?_)
 intro w565 hp566
 have hS567 := hS564.pt0 hp566
 refine st (ze (v := .bool ((zj (zW 3) ky (0, 0)).isSome)) rfl ?_)
 refine zf ?_
 refine zd ?_
 refine zd ?_
 refine zD (by kernel_rfl) ?_
 refine st (zb (v := v535) rfl ?_)
 refine st (zJ (n := kx.length) Tryd.underlying66 rfl hr538.1 ?_)
 refine st (yz (k := .i64) (a := ((kx.length : Nat) : Int)) (b := 3) rfl rfl ?_)
 have hkn568 : (!decide (((kx.length : Nat) : Int) = 3)) = false := (by decide +kernel)
 rw [hkn568]
 refine st (zb (v := .bool false) rfl ?_)
 refine sty rfl rfl (zb (v := v540) rfl ?_)
 refine sty rfl rfl (zJ (n := ky.length) Tryd.underlying66 rfl hr543.1 ?_)
 refine sty rfl rfl (yz (k := .i64) (a := ((ky.length : Nat) : Int)) (b := 3) rfl rfl ?_)
 have hkn569 : (!decide (((ky.length : Nat) : Int) = 3)) = false := (by decide +kernel)
 rw [hkn569]
 refine st (zV (v := .bool false) rfl rfl ?_)
 refine st (zb (v := .bool false) rfl ?_)
 refine sty rfl rfl (zb (v := .bool ((zj (zW 2) kx (0, 0)).isSome)) rfl ?_)
 refine sty rfl rfl (yJ (a := (zj (zW 2) kx (0, 0)).isSome) rfl ?_)
 have hkn570 : (!((zj (zW 2) kx (0, 0)).isSome)) = false := (by decide +kernel)
 rw [hkn570]
 refine st (zV (v := .bool false) rfl rfl ?_)
 refine st (zb (v := .bool false) rfl ?_)
 refine sty rfl rfl (zb (v := .bool ((zj (zW 3) ky (0, 0)).isSome)) rfl ?_)
 refine sty rfl rfl (yJ (a := (zj (zW 3) ky (0, 0)).isSome) rfl ?_)
 have hkn571 : (!((zj (zW 3) ky (0, 0)).isSome)) = false := (by decide +kernel)
 rw [hkn571]
 refine st (zV (v := .bool false) rfl rfl ?_)
 refine st (zb (v := .bool false) rfl ?_)
 refine sty rfl rfl (xm rfl ?_)
 refine sty rfl rfl (zg (v := v545) Tryd.isAgg26 rfl (zh (hS567.blk (i := 3) rfl) rfl) ?_)
 refine sty rfl rfl (zJ (n := (stL (zW 2) (0, 0) kx).length) Tryd.underlying26 rfl hr548.1 ?_)
 refine sty rfl rfl (yz (k := .i64) (a := (((stL (zW 2) (0, 0) kx).length : Nat) : Int)) (b := 1) rfl rfl ?_)
 have hkn572 : (!decide ((((stL (zW 2) (0, 0) kx).length : Nat) : Int) = 1)) = false := (by decide +kernel)
 rw [hkn572]
 refine st (zV (v := .bool false) rfl rfl ?_)
 refine st (zb (v := .bool false) rfl ?_)
 refine sty rfl rfl (xm rfl ?_)
 refine sty rfl rfl (zg (v := v557) Tryd.isAgg26 rfl (zh (hS567.blk (i := 0) rfl) rfl) ?_)
 refine sty rfl rfl (zJ (n := (stL (zW 3) (0, 0) ky).length) Tryd.underlying26 rfl hr560.1 ?_)
 refine sty rfl rfl (yz (k := .i64) (a := (((stL (zW 3) (0, 0) ky).length : Nat) : Int)) (b := 1) rfl rfl ?_)
 have hkn573 : (!decide ((((stL (zW 3) (0, 0) ky).length : Nat) : Int) = 1)) = false := (by decide +kernel)
 rw [hkn573]
 refine st (zV (v := .bool false) rfl rfl ?_)
 refine zf ?_
 refine zo rfl ?_
 refine zw ?_
 refine zd ?_
 rw [← hR532] at hS567
 have hS574 := hS567.mv2
 obtain ⟨G575, hA577, hB578, hS579, hk580⟩ := hS574.lend
 have hrd581 := RowE.rd hA577
 have hrd581s : _ * 32 ≤ _ := hrd581.small
 have hS582 := hS579.mv4
 obtain ⟨G583, hA585, hB586, hS587, hk588⟩ := hS582.lend
 have hrd589 := RowE.rd hA585
 have hrd589s : _ * 32 ≤ _ := hrd589.small
 have hS590 := hS587.mv4
 obtain ⟨G591, hA593, hB594, hS595, hk596⟩ := hS590.lend
 have hrd597 := RowE.rd hA593
 have hrd597s : _ * 120 ≤ _ := hrd597.small
 have hS598 := hS595.mv4
 obtain ⟨G599, hA601, hB602, hS603, hk604⟩ := hS598.lend
 have hrd605 := RowE.rd hA601
 have hrd605s : _ * 120 ≤ _ := hrd605.small
 refine zP (WF [fun vals wq => Sep G599 w565 ((Blk b562 ((xn (zW 3) (0, 0) ky).cells v557).toArray 68) :: (ViewO b404 (zW 3) ky ky) :: (Blk b550 ((xn (zW 2) (0, 0) kx).cells v545).toArray 68) :: (ViewO b189 (zW 2) kx kx) :: (Blk b67 (evC.cells (.slice (some ⟨b50, 0, none⟩) 2 2)).toArray 59) :: (Blk b43 (evB.cells (.slice (some ⟨b26, 0, none⟩) 2 2)).toArray 59) :: (Blk b19 (evA.cells (.slice (some ⟨b2, 0, none⟩) 2 2)).toArray 59) :: Rs) wq]) (AF [Vl 0 (v535), Vl 1 (.pointer (some ⟨sb v535, so v535 + 0 * 13, none⟩)), Vl 2 (.pointer (some ⟨sb v535, so v535 + 0 * 13 + 10, none⟩)), Vl 3 (.bool ((kx.getD 0 default).void)), Vl 4 (.bool true), Vl 5 (.bool true), Vl 6 (v535), Vl 7 (.pointer (some ⟨sb v535, so v535 + 1 * 13, none⟩)), Vl 8 (.pointer (some ⟨sb v535, so v535 + 1 * 13 + 10, none⟩)), Vl 9 (.bool true), Vl 10 (.bool true), Vl 11 (.bool true), Vl 12 (v535), Vl 13 (.pointer (some ⟨sb v535, so v535 + 1 * 13, none⟩)), Vl 14 (.pointer (some ⟨sb v535, so v535 + 1 * 13 + 11, none⟩)), Vl 15 (.agg #[.int .i64 ((kx.getD 1 default).byO), .int .i64 ((kx.getD 1 default).byS)]), Vl 16 (.pointer (some ⟨b19, 0, none⟩)), Vl 17 (.agg #[.int .i64 (evA.origin), .int .i64 (evA.seq)]), Vl 18 (.bool true), Vl 19 (.bool true), Vl 20 (.bool true), Vl 21 (v535), Vl 22 (.pointer (some ⟨sb v535, so v535 + 2 * 13, none⟩)), Vl 23 (.pointer (some ⟨sb v535, so v535 + 2 * 13 + 10, none⟩)), Vl 24 (.bool true), Vl 25 (.bool true), Vl 26 (.bool true), Vl 27 (v535), Vl 28 (.pointer (some ⟨sb v535, so v535 + 2 * 13, none⟩)), Vl 29 (.pointer (some ⟨sb v535, so v535 + 2 * 13 + 11, none⟩)), Vl 30 (.agg #[.int .i64 ((kx.getD 2 default).byO), .int .i64 ((kx.getD 2 default).byS)]), Vl 31 (.pointer (some ⟨b19, 0, none⟩)), Vl 32 (.agg #[.int .i64 (evA.origin), .int .i64 (evA.seq)]), Vl 33 (.bool true), Vl 34 (.bool true), Vl 35 (.bool true), Vl 36 (.pointer (some ⟨b550, 1, none⟩)), Vl 37 (v545), Vl 38 (.pointer (some ⟨sb v545, so v545 + 0 * 2, none⟩)), Vl 39 (.pointer (some ⟨sb v545, so v545 + 0 * 2, none⟩)), Vl 40 (.int .i64 (((stL (zW 2) (0, 0) kx).getD 0 default).n)), Vl 41 (.bool true), Vl 42 (.bool true), Vl 43 (.bool true), Vl 44 (.pointer (some ⟨b550, 0, none⟩)), Vl 45 (.int .i64 ((xn (zW 2) (0, 0) kx).ver)), Vl 46 (.bool true), Vl 47 (.bool true), Vl 48 (.bool true), Vl 49 (v540), Vl 50 (.pointer (some ⟨sb v540, so v540 + 0 * 13, none⟩)), Vl 51 (.pointer (some ⟨sb v540, so v540 + 0 * 13 + 10, none⟩)), Vl 52 (.bool ((ky.getD 0 default).void)), Vl 53 (.bool true), Vl 54 (.bool true), Vl 55 (.bool true), Vl 56 (v540), Vl 57 (.pointer (some ⟨sb v540, so v540 + 1 * 13, none⟩)), Vl 58 (.pointer (some ⟨sb v540, so v540 + 1 * 13 + 10, none⟩)), Vl 59 (.bool true), Vl 60 (.bool true), Vl 61 (.bool true), Vl 62 (v540), Vl 63 (.pointer (some ⟨sb v540, so v540 + 1 * 13, none⟩)), Vl 64 (.pointer (some ⟨sb v540, so v540 + 1 * 13 + 11, none⟩)), Vl 65 (.agg #[.int .i64 ((ky.getD 1 default).byO), .int .i64 ((ky.getD 1 default).byS)]), Vl 66 (.pointer (some ⟨b43, 0, none⟩)), Vl 67 (.agg #[.int .i64 (evB.origin), .int .i64 (evB.seq)]), Vl 68 (.bool true), Vl 69 (.bool true), Vl 70 (.bool true), Vl 71 (v540), Vl 72 (.pointer (some ⟨sb v540, so v540 + 2 * 13, none⟩)), Vl 73 (.pointer (some ⟨sb v540, so v540 + 2 * 13 + 10, none⟩)), Vl 74 (.bool ((ky.getD 2 default).void)), Vl 75 (.bool true), Vl 76 (.bool true), Vl 77 (.bool true), Vl 78 (.pointer (some ⟨b562, 1, none⟩)), Vl 79 (v557), Vl 80 (.pointer (some ⟨sb v557, so v557 + 0 * 2, none⟩)), Vl 81 (.pointer (some ⟨sb v557, so v557 + 0 * 2, none⟩)), Vl 82 (.int .i64 (((stL (zW 3) (0, 0) ky).getD 0 default).n)), Vl 83 (.bool true), Vl 84 (.bool true), Vl 85 (.bool true)]) [[], [0], [0, 1], [0, 1, 2], [0, 1, 2, 3], [0, 1, 2, 3, 4], [0, 1, 2, 3, 4, 5], [0, 1, 2, 3, 4, 5, 6], [0, 1, 2, 3, 4, 5, 6, 7], [0, 1, 2, 3, 4, 5, 6, 7, 8], [0, 1, 2, 3, 4, 5, 6, 7, 8, 9], [0, 1, 2, 3, 4, 5, 6, 7, 8, 9, 10], [0, 1, 2, 3, 4, 5, 6, 7, 8, 9, 10, 11], [0, 1, 2, 3, 4, 5, 6, 7, 8, 9, 10, 11, 12], [0, 1, 2, 3, 4, 5, 6, 7, 8, 9, 10, 11, 12, 13], [0, 1, 2, 3, 4, 5, 6, 7, 8, 9, 10, 11, 12, 13, 14], [0, 1, 2, 3, 4, 5, 6, 7, 8, 9, 10, 11], [0, 1, 2, 3, 4, 5, 6, 7, 8, 9, 10, 11, 16], [0, 1, 2, 3, 4, 5, 6, 7, 8, 9, 10, 11, 12, 13, 14, 15, 16, 17], [0, 1, 2, 3, 4, 5, 6, 7, 8, 9, 10, 11, 12, 13, 14, 15, 16, 17, 18], [0, 1, 2, 3, 4, 5, 6, 7, 8, 9, 10, 11, 12, 13, 14, 15, 16, 17, 18, 19], [0, 1, 2, 3, 4, 5, 6, 7, 8, 9, 10, 11, 12, 13, 14, 15, 16, 17, 18, 19, 20], [0, 1, 2, 3, 4, 5, 6, 7, 8, 9, 10, 11, 12, 13, 14, 15, 16, 17, 18, 19, 20, 21], [0, 1, 2, 3, 4, 5, 6, 7, 8, 9, 10, 11, 12, 13, 14, 15, 16, 17, 18, 19, 20, 21, 22], [0, 1, 2, 3, 4, 5, 6, 7, 8, 9, 10, 11, 12, 13, 14, 15, 16, 17, 18, 19, 20, 21, 22, 23], [0, 1, 2, 3, 4, 5, 6, 7, 8, 9, 10, 11, 12, 13, 14, 15, 16, 17, 18, 19, 20, 21, 22, 23, 24], [0, 1, 2, 3, 4, 5, 6, 7, 8, 9, 10, 11, 12, 13, 14, 15, 16, 17, 18, 19, 20, 21, 22, 23, 24, 25], [0, 1, 2, 3, 4, 5, 6, 7, 8, 9, 10, 11, 12, 13, 14, 15, 16, 17, 18, 19, 20, 21, 22, 23, 24, 25, 26], [0, 1, 2, 3, 4, 5, 6, 7, 8, 9, 10, 11, 12, 13, 14, 15, 16, 17, 18, 19, 20, 21, 22, 23, 24, 25, 26, 27], [0, 1, 2, 3, 4, 5, 6, 7, 8, 9, 10, 11, 12, 13, 14, 15, 16, 17, 18, 19, 20, 21, 22, 23, 24, 25, 26, 27, 28], [0, 1, 2, 3, 4, 5, 6, 7, 8, 9, 10, 11, 12, 13, 14, 15, 16, 17, 18, 19, 20, 21, 22, 23, 24, 25, 26, 27, 28, 29], [0, 1, 2, 3, 4, 5, 6, 7, 8, 9, 10, 11, 12, 13, 14, 15, 16, 17, 18, 19, 20, 21, 22, 23, 24, 25, 26], [0, 1, 2, 3, 4, 5, 6, 7, 8, 9, 10, 11, 12, 13, 14, 15, 16, 17, 18, 19, 20, 21, 22, 23, 24, 25, 26, 31], [0, 1, 2, 3, 4, 5, 6, 7, 8, 9, 10, 11, 12, 13, 14, 15, 16, 17, 18, 19, 20, 21, 22, 23, 24, 25, 26, 27, 28, 29, 30, 31, 32], [0, 1, 2, 3, 4, 5, 6, 7, 8, 9, 10, 11, 12, 13, 14, 15, 16, 17, 18, 19, 20, 21, 22, 23, 24, 25, 26, 27, 28, 29, 30, 31, 32, 33], [0, 1, 2, 3, 4, 5, 6, 7, 8, 9, 10, 11, 12, 13, 14, 15, 16, 17, 18, 19, 20, 21, 22, 23, 24, 25, 26, 27, 28, 29, 30, 31, 32, 33, 34], [0, 1, 2, 3, 4, 5, 6, 7, 8, 9, 10, 11, 12, 13, 14, 15, 16, 17, 18, 19, 20, 21, 22, 23, 24, 25, 26, 27, 28, 29, 30, 31, 32, 33, 34, 35], [0, 1, 2, 3, 4, 5, 6, 7, 8, 9, 10, 11, 12, 13, 14, 15, 16, 17, 18, 19, 20, 21, 22, 23, 24, 25, 26, 27, 28, 29, 30, 31, 32, 33, 34, 35, 36], [0, 1, 2, 3, 4, 5, 6, 7, 8, 9, 10, 11, 12, 13, 14, 15, 16, 17, 18, 19, 20, 21, 22, 23, 24, 25, 26, 27, 28, 29, 30, 31, 32, 33, 34, 35, 36, 37], [0, 1, 2, 3, 4, 5, 6, 7, 8, 9, 10, 11, 12, 13, 14, 15, 16, 17, 18, 19, 20, 21, 22, 23, 24, 25, 26, 27, 28, 29, 30, 31, 32, 33, 34, 35, 36, 37, 38], [0, 1, 2, 3, 4, 5, 6, 7, 8, 9, 10, 11, 12, 13, 14, 15, 16, 17, 18, 19, 20, 21, 22, 23, 24, 25, 26, 27, 28, 29, 30, 31, 32, 33, 34, 35, 36, 37, 38, 39], [0, 1, 2, 3, 4, 5, 6, 7, 8, 9, 10, 11, 12, 13, 14, 15, 16, 17, 18, 19, 20, 21, 22, 23, 24, 25, 26, 27, 28, 29, 30, 31, 32, 33, 34, 35, 36, 37, 38, 39, 40], [0, 1, 2, 3, 4, 5, 6, 7, 8, 9, 10, 11, 12, 13, 14, 15, 16, 17, 18, 19, 20, 21, 22, 23, 24, 25, 26, 27, 28, 29, 30, 31, 32, 33, 34, 35, 36, 37, 38, 39, 40, 41], [0, 1, 2, 3, 4, 5, 6, 7, 8, 9, 10, 11, 12, 13, 14, 15, 16, 17, 18, 19, 20, 21, 22, 23, 24, 25, 26, 27, 28, 29, 30, 31, 32, 33, 34, 35, 36, 37, 38, 39, 40, 41, 42], [0, 1, 2, 3, 4, 5, 6, 7, 8, 9, 10, 11, 12, 13, 14, 15, 16, 17, 18, 19, 20, 21, 22, 23, 24, 25, 26, 27, 28, 29, 30, 31, 32, 33, 34, 35, 36, 37, 38, 39, 40, 41, 42, 43], [0, 1, 2, 3, 4, 5, 6, 7, 8, 9, 10, 11, 12, 13, 14, 15, 16, 17, 18, 19, 20, 21, 22, 23, 24, 25, 26, 27, 28, 29, 30, 31, 32, 33, 34, 35, 36, 37, 38, 39, 40, 41, 42, 43, 44], [0, 1, 2, 3, 4, 5, 6, 7, 8, 9, 10, 11, 12, 13, 14, 15, 16, 17, 18, 19, 20, 21, 22, 23, 24, 25, 26, 27, 28, 29, 30, 31, 32, 33, 34, 35, 36, 37, 38, 39, 40, 41, 42, 43, 44, 45], [0, 1, 2, 3, 4, 5, 6, 7, 8, 9, 10, 11, 12, 13, 14, 15, 16, 17, 18, 19, 20, 21, 22, 23, 24, 25, 26, 27, 28, 29, 30, 31, 32, 33, 34, 35, 36, 37, 38, 39, 40, 41, 42, 43, 44, 45, 46], [0, 1, 2, 3, 4, 5, 6, 7, 8, 9, 10, 11, 12, 13, 14, 15, 16, 17, 18, 19, 20, 21, 22, 23, 24, 25, 26, 27, 28, 29, 30, 31, 32, 33, 34, 35, 36, 37, 38, 39, 40, 41, 42, 43, 44, 45, 46, 47], [0, 1, 2, 3, 4, 5, 6, 7, 8, 9, 10, 11, 12, 13, 14, 15, 16, 17, 18, 19, 20, 21, 22, 23, 24, 25, 26, 27, 28, 29, 30, 31, 32, 33, 34, 35, 36, 37, 38, 39, 40, 41, 42, 43, 44, 45, 46, 47, 48], [0, 1, 2, 3, 4, 5, 6, 7, 8, 9, 10, 11, 12, 13, 14, 15, 16, 17, 18, 19, 20, 21, 22, 23, 24, 25, 26, 27, 28, 29, 30, 31, 32, 33, 34, 35, 36, 37, 38, 39, 40, 41, 42, 43, 44, 45, 46, 47, 48, 49], [0, 1, 2, 3, 4, 5, 6, 7, 8, 9, 10, 11, 12, 13, 14, 15, 16, 17, 18, 19, 20, 21, 22, 23, 24, 25, 26, 27, 28, 29, 30, 31, 32, 33, 34, 35, 36, 37, 38, 39, 40, 41, 42, 43, 44, 45, 46, 47, 48, 49, 50], [0, 1, 2, 3, 4, 5, 6, 7, 8, 9, 10, 11, 12, 13, 14, 15, 16, 17, 18, 19, 20, 21, 22, 23, 24, 25, 26, 27, 28, 29, 30, 31, 32, 33, 34, 35, 36, 37, 38, 39, 40, 41, 42, 43, 44, 45, 46, 47, 48, 49, 50, 51], [0, 1, 2, 3, 4, 5, 6, 7, 8, 9, 10, 11, 12, 13, 14, 15, 16, 17, 18, 19, 20, 21, 22, 23, 24, 25, 26, 27, 28, 29, 30, 31, 32, 33, 34, 35, 36, 37, 38, 39, 40, 41, 42, 43, 44, 45, 46, 47, 48, 49, 50, 51, 52], [0, 1, 2, 3, 4, 5, 6, 7, 8, 9, 10, 11, 12, 13, 14, 15, 16, 17, 18, 19, 20, 21, 22, 23, 24, 25, 26, 27, 28, 29, 30, 31, 32, 33, 34, 35, 36, 37, 38, 39, 40, 41, 42, 43, 44, 45, 46, 47, 48, 49, 50, 51, 52, 53], [0, 1, 2, 3, 4, 5, 6, 7, 8, 9, 10, 11, 12, 13, 14, 15, 16, 17, 18, 19, 20, 21, 22, 23, 24, 25, 26, 27, 28, 29, 30, 31, 32, 33, 34, 35, 36, 37, 38, 39, 40, 41, 42, 43, 44, 45, 46, 47, 48, 49, 50, 51, 52, 53, 54], [0, 1, 2, 3, 4, 5, 6, 7, 8, 9, 10, 11, 12, 13, 14, 15, 16, 17, 18, 19, 20, 21, 22, 23, 24, 25, 26, 27, 28, 29, 30, 31, 32, 33, 34, 35, 36, 37, 38, 39, 40, 41, 42, 43, 44, 45, 46, 47, 48, 49, 50, 51, 52, 53, 54, 55], [0, 1, 2, 3, 4, 5, 6, 7, 8, 9, 10, 11, 12, 13, 14, 15, 16, 17, 18, 19, 20, 21, 22, 23, 24, 25, 26, 27, 28, 29, 30, 31, 32, 33, 34, 35, 36, 37, 38, 39, 40, 41, 42, 43, 44, 45, 46, 47, 48, 49, 50, 51, 52, 53, 54, 55, 56], [0, 1, 2, 3, 4, 5, 6, 7, 8, 9, 10, 11, 12, 13, 14, 15, 16, 17, 18, 19, 20, 21, 22, 23, 24, 25, 26, 27, 28, 29, 30, 31, 32, 33, 34, 35, 36, 37, 38, 39, 40, 41, 42, 43, 44, 45, 46, 47, 48, 49, 50, 51, 52, 53, 54, 55, 56, 57], [0, 1, 2, 3, 4, 5, 6, 7, 8, 9, 10, 11, 12, 13, 14, 15, 16, 17, 18, 19, 20, 21, 22, 23, 24, 25, 26, 27, 28, 29, 30, 31, 32, 33, 34, 35, 36, 37, 38, 39, 40, 41, 42, 43, 44, 45, 46, 47, 48, 49, 50, 51, 52, 53, 54, 55, 56, 57, 58], [0, 1, 2, 3, 4, 5, 6, 7, 8, 9, 10, 11, 12, 13, 14, 15, 16, 17, 18, 19, 20, 21, 22, 23, 24, 25, 26, 27, 28, 29, 30, 31, 32, 33, 34, 35, 36, 37, 38, 39, 40, 41, 42, 43, 44, 45, 46, 47, 48, 49, 50, 51, 52, 53, 54, 55, 56, 57, 58, 59], [0, 1, 2, 3, 4, 5, 6, 7, 8, 9, 10, 11, 12, 13, 14, 15, 16, 17, 18, 19, 20, 21, 22, 23, 24, 25, 26, 27, 28, 29, 30, 31, 32, 33, 34, 35, 36, 37, 38, 39, 40, 41, 42, 43, 44, 45, 46, 47, 48, 49, 50, 51, 52, 53, 54, 55, 56, 57, 58, 59, 60], [0, 1, 2, 3, 4, 5, 6, 7, 8, 9, 10, 11, 12, 13, 14, 15, 16, 17, 18, 19, 20, 21, 22, 23, 24, 25, 26, 27, 28, 29, 30, 31, 32, 33, 34, 35, 36, 37, 38, 39, 40, 41, 42, 43, 44, 45, 46, 47, 48, 49, 50, 51, 52, 53, 54, 55, 56, 57, 58, 59, 60, 61], [0, 1, 2, 3, 4, 5, 6, 7, 8, 9, 10, 11, 12, 13, 14, 15, 16, 17, 18, 19, 20, 21, 22, 23, 24, 25, 26, 27, 28, 29, 30, 31, 32, 33, 34, 35, 36, 37, 38, 39, 40, 41, 42, 43, 44, 45, 46, 47, 48, 49, 50, 51, 52, 53, 54, 55, 56, 57, 58, 59, 60, 61, 62], [0, 1, 2, 3, 4, 5, 6, 7, 8, 9, 10, 11, 12, 13, 14, 15, 16, 17, 18, 19, 20, 21, 22, 23, 24, 25, 26, 27, 28, 29, 30, 31, 32, 33, 34, 35, 36, 37, 38, 39, 40, 41, 42, 43, 44, 45, 46, 47, 48, 49, 50, 51, 52, 53, 54, 55, 56, 57, 58, 59, 60, 61, 62, 63], [0, 1, 2, 3, 4, 5, 6, 7, 8, 9, 10, 11, 12, 13, 14, 15, 16, 17, 18, 19, 20, 21, 22, 23, 24, 25, 26, 27, 28, 29, 30, 31, 32, 33, 34, 35, 36, 37, 38, 39, 40, 41, 42, 43, 44, 45, 46, 47, 48, 49, 50, 51, 52, 53, 54, 55, 56, 57, 58, 59, 60, 61, 62, 63, 64], [0, 1, 2, 3, 4, 5, 6, 7, 8, 9, 10, 11, 12, 13, 14, 15, 16, 17, 18, 19, 20, 21, 22, 23, 24, 25, 26, 27, 28, 29, 30, 31, 32, 33, 34, 35, 36, 37, 38, 39, 40, 41, 42, 43, 44, 45, 46, 47, 48, 49, 50, 51, 52, 53, 54, 55, 56, 57, 58, 59, 60, 61], [0, 1, 2, 3, 4, 5, 6, 7, 8, 9, 10, 11, 12, 13, 14, 15, 16, 17, 18, 19, 20, 21, 22, 23, 24, 25, 26, 27, 28, 29, 30, 31, 32, 33, 34, 35, 36, 37, 38, 39, 40, 41, 42, 43, 44, 45, 46, 47, 48, 49, 50, 51, 52, 53, 54, 55, 56, 57, 58, 59, 60, 61, 66], [0, 1, 2, 3, 4, 5, 6, 7, 8, 9, 10, 11, 12, 13, 14, 15, 16, 17, 18, 19, 20, 21, 22, 23, 24, 25, 26, 27, 28, 29, 30, 31, 32, 33, 34, 35, 36, 37, 38, 39, 40, 41, 42, 43, 44, 45, 46, 47, 48, 49, 50, 51, 52, 53, 54, 55, 56, 57, 58, 59, 60, 61, 62, 63, 64, 65, 66, 67], [0, 1, 2, 3, 4, 5, 6, 7, 8, 9, 10, 11, 12, 13, 14, 15, 16, 17, 18, 19, 20, 21, 22, 23, 24, 25, 26, 27, 28, 29, 30, 31, 32, 33, 34, 35, 36, 37, 38, 39, 40, 41, 42, 43, 44, 45, 46, 47, 48, 49, 50, 51, 52, 53, 54, 55, 56, 57, 58, 59, 60, 61, 62, 63, 64, 65, 66, 67, 68], [0, 1, 2, 3, 4, 5, 6, 7, 8, 9, 10, 11, 12, 13, 14, 15, 16, 17, 18, 19, 20, 21, 22, 23, 24, 25, 26, 27, 28, 29, 30, 31, 32, 33, 34, 35, 36, 37, 38, 39, 40, 41, 42, 43, 44, 45, 46, 47, 48, 49, 50, 51, 52, 53, 54, 55, 56, 57, 58, 59, 60, 61, 62, 63, 64, 65, 66, 67, 68, 69], [0, 1, 2, 3, 4, 5, 6, 7, 8, 9, 10, 11, 12, 13, 14, 15, 16, 17, 18, 19, 20, 21, 22, 23, 24, 25, 26, 27, 28, 29, 30, 31, 32, 33, 34, 35, 36, 37, 38, 39, 40, 41, 42, 43, 44, 45, 46, 47, 48, 49, 50, 51, 52, 53, 54, 55, 56, 57, 58, 59, 60, 61, 62, 63, 64, 65, 66, 67, 68, 69, 70], [0, 1, 2, 3, 4, 5, 6, 7, 8, 9, 10, 11, 12, 13, 14, 15, 16, 17, 18, 19, 20, 21, 22, 23, 24, 25, 26, 27, 28, 29, 30, 31, 32, 33, 34, 35, 36, 37, 38, 39, 40, 41, 42, 43, 44, 45, 46, 47, 48, 49, 50, 51, 52, 53, 54, 55, 56, 57, 58, 59, 60, 61, 62, 63, 64, 65, 66, 67, 68, 69, 70, 71], [0, 1, 2, 3, 4, 5, 6, 7, 8, 9, 10, 11, 12, 13, 14, 15, 16, 17, 18, 19, 20, 21, 22, 23, 24, 25, 26, 27, 28, 29, 30, 31, 32, 33, 34, 35, 36, 37, 38, 39, 40, 41, 42, 43, 44, 45, 46, 47, 48, 49, 50, 51, 52, 53, 54, 55, 56, 57, 58, 59, 60, 61, 62, 63, 64, 65, 66, 67, 68, 69, 70, 71, 72], [0, 1, 2, 3, 4, 5, 6, 7, 8, 9, 10, 11, 12, 13, 14, 15, 16, 17, 18, 19, 20, 21, 22, 23, 24, 25, 26, 27, 28, 29, 30, 31, 32, 33, 34, 35, 36, 37, 38, 39, 40, 41, 42, 43, 44, 45, 46, 47, 48, 49, 50, 51, 52, 53, 54, 55, 56, 57, 58, 59, 60, 61, 62, 63, 64, 65, 66, 67, 68, 69, 70, 71, 72, 73], [0, 1, 2, 3, 4, 5, 6, 7, 8, 9, 10, 11, 12, 13, 14, 15, 16, 17, 18, 19, 20, 21, 22, 23, 24, 25, 26, 27, 28, 29, 30, 31, 32, 33, 34, 35, 36, 37, 38, 39, 40, 41, 42, 43, 44, 45, 46, 47, 48, 49, 50, 51, 52, 53, 54, 55, 56, 57, 58, 59, 60, 61, 62, 63, 64, 65, 66, 67, 68, 69, 70, 71, 72, 73, 74], [0, 1, 2, 3, 4, 5, 6, 7, 8, 9, 10, 11, 12, 13, 14, 15, 16, 17, 18, 19, 20, 21, 22, 23, 24, 25, 26, 27, 28, 29, 30, 31, 32, 33, 34, 35, 36, 37, 38, 39, 40, 41, 42, 43, 44, 45, 46, 47, 48, 49, 50, 51, 52, 53, 54, 55, 56, 57, 58, 59, 60, 61, 62, 63, 64, 65, 66, 67, 68, 69, 70, 71, 72, 73, 74, 75], [0, 1, 2, 3, 4, 5, 6, 7, 8, 9, 10, 11, 12, 13, 14, 15, 16, 17, 18, 19, 20, 21, 22, 23, 24, 25, 26, 27, 28, 29, 30, 31, 32, 33, 34, 35, 36, 37, 38, 39, 40, 41, 42, 43, 44, 45, 46, 47, 48, 49, 50, 51, 52, 53, 54, 55, 56, 57, 58, 59, 60, 61, 62, 63, 64, 65, 66, 67, 68, 69, 70, 71, 72, 73, 74, 75, 76], [0, 1, 2, 3, 4, 5, 6, 7, 8, 9, 10, 11, 12, 13, 14, 15, 16, 17, 18, 19, 20, 21, 22, 23, 24, 25, 26, 27, 28, 29, 30, 31, 32, 33, 34, 35, 36, 37, 38, 39, 40, 41, 42, 43, 44, 45, 46, 47, 48, 49, 50, 51, 52, 53, 54, 55, 56, 57, 58, 59, 60, 61, 62, 63, 64, 65, 66, 67, 68, 69, 70, 71, 72, 73, 74, 75, 76, 77], [0, 1, 2, 3, 4, 5, 6, 7, 8, 9, 10, 11, 12, 13, 14, 15, 16, 17, 18, 19, 20, 21, 22, 23, 24, 25, 26, 27, 28, 29, 30, 31, 32, 33, 34, 35, 36, 37, 38, 39, 40, 41, 42, 43, 44, 45, 46, 47, 48, 49, 50, 51, 52, 53, 54, 55, 56, 57, 58, 59, 60, 61, 62, 63, 64, 65, 66, 67, 68, 69, 70, 71, 72, 73, 74, 75, 76, 77, 78], [0, 1, 2, 3, 4, 5, 6, 7, 8, 9, 10, 11, 12, 13, 14, 15, 16, 17, 18, 19, 20, 21, 22, 23, 24, 25, 26, 27, 28, 29, 30, 31, 32, 33, 34, 35, 36, 37, 38, 39, 40, 41, 42, 43, 44, 45, 46, 47, 48, 49, 50, 51, 52, 53, 54, 55, 56, 57, 58, 59, 60, 61, 62, 63, 64, 65, 66, 67, 68, 69, 70, 71, 72, 73, 74, 75, 76, 77, 78, 79], [0, 1, 2, 3, 4, 5, 6, 7, 8, 9, 10, 11, 12, 13, 14, 15, 16, 17, 18, 19, 20, 21, 22, 23, 24, 25, 26, 27, 28, 29, 30, 31, 32, 33, 34, 35, 36, 37, 38, 39, 40, 41, 42, 43, 44, 45, 46, 47, 48, 49, 50, 51, 52, 53, 54, 55, 56, 57, 58, 59, 60, 61, 62, 63, 64, 65, 66, 67, 68, 69, 70, 71, 72, 73, 74, 75, 76, 77, 78, 79, 80], [0, 1, 2, 3, 4, 5, 6, 7, 8, 9, 10, 11, 12, 13, 14, 15, 16, 17, 18, 19, 20, 21, 22, 23, 24, 25, 26, 27, 28, 29, 30, 31, 32, 33, 34, 35, 36, 37, 38, 39, 40, 41, 42, 43, 44, 45, 46, 47, 48, 49, 50, 51, 52, 53, 54, 55, 56, 57, 58, 59, 60, 61, 62, 63, 64, 65, 66, 67, 68, 69, 70, 71, 72, 73, 74, 75, 76, 77, 78, 79, 80, 81], [0, 1, 2, 3, 4, 5, 6, 7, 8, 9, 10, 11, 12, 13, 14, 15, 16, 17, 18, 19, 20, 21, 22, 23, 24, 25, 26, 27, 28, 29, 30, 31, 32, 33, 34, 35, 36, 37, 38, 39, 40, 41, 42, 43, 44, 45, 46, 47, 48, 49, 50, 51, 52, 53, 54, 55, 56, 57, 58, 59, 60, 61, 62, 63, 64, 65, 66, 67, 68, 69, 70, 71, 72, 73, 74, 75, 76, 77, 78, 79, 80, 81, 82], [0, 1, 2, 3, 4, 5, 6, 7, 8, 9, 10, 11, 12, 13, 14, 15, 16, 17, 18, 19, 20, 21, 22, 23, 24, 25, 26, 27, 28, 29, 30, 31, 32, 33, 34, 35, 36, 37, 38, 39, 40, 41, 42, 43, 44, 45, 46, 47, 48, 49, 50, 51, 52, 53, 54, 55, 56, 57, 58, 59, 60, 61, 62, 63, 64, 65, 66, 67, 68, 69, 70, 71, 72, 73, 74, 75, 76, 77, 78, 79, 80, 81, 82, 83], [0, 1, 2, 3, 4, 5, 6, 7, 8, 9, 10, 11, 12, 13, 14, 15, 16, 17, 18, 19, 20, 21, 22, 23, 24, 25, 26, 27, 28, 29, 30, 31, 32, 33, 34, 35, 36, 37, 38, 39, 40, 41, 42, 43, 44, 45, 46, 47, 48, 49, 50, 51, 52, 53, 54, 55, 56, 57, 58, 59, 60, 61, 62, 63, 64, 65, 66, 67, 68, 69, 70, 71, 72, 73, 74, 75, 76, 77, 78, 79, 80, 81, 82, 83, 84]] [] [(0, 0), (0, 0), (0, 0), (0, 0), (0, 0), (0, 0), (0, 0), (0, 0), (0, 0), (0, 0), (0, 0), (0, 0), (0, 0), (0, 0), (0, 0), (0, 0), (0, 0), (0, 0), (0, 0), (0, 0), (0, 0), (0, 0), (0, 0), (0, 0), (0, 0), (0, 0), (0, 0), (0, 0), (0, 0), (0, 0), (0, 0), (0, 0), (0, 0), (0, 0), (0, 0), (0, 0), (0, 0), (0, 0), (0, 0), (0, 0), (0, 0), (0, 0), (0, 0), (0, 0), (0, 0), (0, 0), (0, 0), (0, 0), (0, 0), (0, 0), (0, 0), (0, 0), (0, 0), (0, 0), (0, 0), (0, 0), (0, 0), (0, 0), (0, 0), (0, 0), (0, 0), (0, 0), (0, 0), (0, 0), (0, 0), (0, 0), (0, 0), (0, 0), (0, 0), (0, 0), (0, 0), (0, 0), (0, 0), (0, 0), (0, 0), (0, 0), (0, 0), (0, 0), (0, 0), (0, 0), (0, 0), (0, 0), (0, 0), (0, 0), (0, 0), (0, 0)] (by kernel_rfl) (by kernel_rfl) (by kernel_rfl) rfl (by kernel_rfl) (by kernel_rfl) (fun _ h1 h2 h3 h4 _ => hS603.same h1 h2 h3 h4) ?_ (yg ⟨dA, dA, dA, dA, dA, dA, dA, dA, dA, dA, dA, dA, dA, dA, dA, dA, dA, dA, dA, dA, dA, dA, dA, dA, dA, dA, dA, dA, dA, dA, dA, dA, dA, dA, dA, dA, dA, dA, dA, dA, dA, dA, dA, dA, dA, dA, dA, dA, dA, dA, dA, dA, dA, dA, dA, dA, dA, dA, dA, dA, dA, dA, dA, dA, dA, dA, dA, dA, dA, dA, dA, dA, dA, dA, dA, dA, dA, dA, dA, dA, dA, dA, dA, dA, dA, dA, trivial⟩) ⟨?_, ?_, ?_, ?_, ?_, ?_, ?_, ?_, ?_, ?_, ?_, ?_, ?_, ?_, ?_, ?_, ?_, ?_, ?_, ?_, ?_, ?_, ?_, ?_, ?_, ?_, ?_, ?_, ?_, ?_, ?_, ?_, ?_, ?_, ?_, ?_, ?_, ?_, ?_, ?_, ?_, ?_, ?_, ?_, ?_, ?_, ?_, ?_, ?_, ?_, ?_, ?_, ?_, ?_, ?_, ?_, ?_, ?_, ?_, ?_, ?_, ?_, ?_, ?_, ?_, ?_, ?_, ?_, ?_, ?_, ?_, ?_, ?_, ?_, ?_, ?_, ?_, ?_, ?_, ?_, ?_, ?_, ?_, ?_, ?_, ?_, trivial⟩ ?_
 ·intro k vals vals' w hv h
  match k, h with
  | 0, h => exact h
  | _ + 1, _ => trivial
 ·intro k1366 vals w1367 h1370 h1371 hW1369 hA1368
  refine obl rfl ?_
  exact zb (v := v535) rfl (fun vals' hv _ => ⟨rfl, hv⟩)
 ·intro k1372 vals w1373 h1376 h1377 hW1375 hA1374
  obtain rfl : k1372 = 0 := Nat.le_antisymm h1377 h1376
  have hS1378 : Sep _ _ _ _ := hW1375
  have e1379 := hA1374 0 (by decide)
  refine obl rfl ?_
  have hi1380 : 0 < kx.length := (by first | omega | decide +kernel)
  exact zm (k := 13) (i := 0) Tryd.underlying66 Tryd.sizeOf62 e1379 hrd605.sl rfl hi1380 (fun vals' hv _ => ⟨rfl, hv⟩)
 ·intro k1381 vals w1382 h1385 h1386 hW1384 hA1383
  have e1387 := hA1383 1 (by decide)
  refine obl rfl ?_
  exact ZE e1387 (fun vals' hv _ => ⟨rfl, hv⟩)
 ·intro k1388 vals w1389 h1392 h1393 hW1391 hA1390
  obtain rfl : k1388 = 0 := Nat.le_antisymm h1393 h1392
  have hS1394 : Sep _ _ _ _ := hW1391
  have e1395 := hA1390 2 (by decide)
  refine obl rfl ?_
  have hi1397 : 0 < kx.length := (by first | omega | decide +kernel)
  obtain ⟨hce1396, hde1396_0, hoke1396⟩ := hrd605.ent hi1397
  rw [← zk default hi1397] at hce1396 hde1396_0 hoke1396
  have hsm1398 : ((kx.getD 0 default).ev.deps).length * 8 ≤ 140737488355328 := hde1396_0.small
  have hcw1399 := hS1394.cells hce1396 (hrd605.foot (ne_of_lt hi1397))
  exact zg (v := .bool ((kx.getD 0 default).void)) Tryd.isAgg4 e1395 (hcw1399.get (j := 10) rfl) (fun vals' hv _ => ⟨rfl, hv⟩)
 ·intro k1400 vals w1401 h1404 h1405 hW1403 hA1402
  have e1406 := hA1402 3 (by decide)
  refine obl rfl ?_
  have hl1407 : (!((kx.getD 0 default).void)) = true := by decide +kernel
  exact yJ (a := (kx.getD 0 default).void) e1406 (fun vals' hv _ => ⟨rfl, hv.trans (congrArg Value.bool hl1407)⟩)
 ·intro k1408 vals w1409 h1412 h1413 hW1411 hA1410
  have e1414 := hA1410 4 (by decide)
  refine obl rfl ?_
  exact zb (v := .bool true) e1414 (fun vals' hv _ => ⟨rfl, hv⟩)
 ·intro k1415 vals w1416 h1419 h1420 hW1418 hA1417
  have e1421 := hA1417 5 (by decide)
  refine zC rfl rfl e1421 (fun _ => ?_) (fun hb => absurd rfl hb)
  exact zb (v := v535) rfl (fun vals' hv _ => ⟨rfl, hv⟩)
 ·intro k1422 vals w1423 h1426 h1427 hW1425 hA1424
  obtain rfl : k1422 = 0 := Nat.le_antisymm h1427 h1426
  have hS1428 : Sep _ _ _ _ := hW1425
  have e1429 := hA1424 5 (by decide)
  have e1430 := hA1424 6 (by decide)
  refine zC rfl rfl e1429 (fun _ => ?_) (fun hb => absurd rfl hb)
  have hi1431 : 1 < kx.length := (by first | omega | decide +kernel)
  exact zm (k := 13) (i := 1) Tryd.underlying66 Tryd.sizeOf62 e1430 hrd605.sl rfl hi1431 (fun vals' hv _ => ⟨rfl, hv⟩)
 ·intro k1432 vals w1433 h1436 h1437 hW1435 hA1434
  have e1438 := hA1434 5 (by decide)
  have e1439 := hA1434 7 (by decide)
  refine zC rfl rfl e1438 (fun _ => ?_) (fun hb => absurd rfl hb)
  exact ZE e1439 (fun vals' hv _ => ⟨rfl, hv⟩)
 ·intro k1440 vals w1441 h1444 h1445 hW1443 hA1442
  obtain rfl : k1440 = 0 := Nat.le_antisymm h1445 h1444
  have hS1446 : Sep _ _ _ _ := hW1443
  have e1447 := hA1442 5 (by decide)
  have e1448 := hA1442 8 (by decide)
  refine zC rfl rfl e1447 (fun _ => ?_) (fun hb => absurd rfl hb)
  have hi1450 : 1 < kx.length := (by first | omega | decide +kernel)
  obtain ⟨hce1449, hde1449_0, hoke1449⟩ := hrd605.ent hi1450
  rw [← zk default hi1450] at hce1449 hde1449_0 hoke1449
  have hsm1451 : ((kx.getD 1 default).ev.deps).length * 8 ≤ 140737488355328 := hde1449_0.small
  have hcw1452 := hS1446.cells hce1449 (hrd605.foot (ne_of_lt hi1450))
  have hl1453 : ((kx.getD 1 default).void) = true := by decide +kernel
  exact zg (v := .bool ((kx.getD 1 default).void)) Tryd.isAgg4 e1448 (hcw1452.get (j := 10) rfl) (fun vals' hv _ => ⟨rfl, hv.trans (congrArg Value.bool hl1453)⟩)
 ·intro k1454 vals w1455 h1458 h1459 hW1457 hA1456
  have e1460 := hA1456 5 (by decide)
  have e1461 := hA1456 9 (by decide)
  refine obl rfl ?_
  exact zU (v := .bool true) e1460 e1461 (fun vals' hv _ => ⟨rfl, hv⟩)
 ·intro k1462 vals w1463 h1466 h1467 hW1465 hA1464
  have e1468 := hA1464 10 (by decide)
  refine obl rfl ?_
  exact zb (v := .bool true) e1468 (fun vals' hv _ => ⟨rfl, hv⟩)
 ·intro k1469 vals w1470 h1473 h1474 hW1472 hA1471
  have e1475 := hA1471 11 (by decide)
  refine zC rfl rfl e1475 (fun _ => ?_) (fun hb => absurd rfl hb)
  exact zb (v := v535) rfl (fun vals' hv _ => ⟨rfl, hv⟩)
 ·intro k1476 vals w1477 h1480 h1481 hW1479 hA1478
  obtain rfl : k1476 = 0 := Nat.le_antisymm h1481 h1480
  have hS1482 : Sep _ _ _ _ := hW1479
  have e1483 := hA1478 11 (by decide)
  have e1484 := hA1478 12 (by decide)
  refine zC rfl rfl e1483 (fun _ => ?_) (fun hb => absurd rfl hb)
  have hi1485 : 1 < kx.length := (by first | omega | decide +kernel)
  exact zm (k := 13) (i := 1) Tryd.underlying66 Tryd.sizeOf62 e1484 hrd605.sl rfl hi1485 (fun vals' hv _ => ⟨rfl, hv⟩)
 ·intro k1486 vals w1487 h1490 h1491 hW1489 hA1488
  have e1492 := hA1488 11 (by decide)
  have e1493 := hA1488 13 (by decide)
  refine zC rfl rfl e1492 (fun _ => ?_) (fun hb => absurd rfl hb)
  exact Ym e1493 (fun vals' hv _ => ⟨rfl, hv⟩)
 ·intro k1494 vals w1495 h1498 h1499 hW1497 hA1496
  obtain rfl : k1494 = 0 := Nat.le_antisymm h1499 h1498
  have hS1500 : Sep _ _ _ _ := hW1497
  have e1501 := hA1496 11 (by decide)
  have e1502 := hA1496 14 (by decide)
  refine zC rfl rfl e1501 (fun _ => ?_) (fun hb => absurd rfl hb)
  have hi1504 : 1 < kx.length := (by first | omega | decide +kernel)
  obtain ⟨hce1503, hde1503_0, hoke1503⟩ := hrd605.ent hi1504
  rw [← zk default hi1504] at hce1503 hde1503_0 hoke1503
  have hsm1505 : ((kx.getD 1 default).ev.deps).length * 8 ≤ 140737488355328 := hde1503_0.small
  have hcw1506 := hS1500.cells hce1503 (hrd605.foot (ne_of_lt hi1504))
  exact zl (k := 2) (cs := [.int .i64 ((kx.getD 1 default).byO), .int .i64 ((kx.getD 1 default).byS)]) Tryd.isAgg57 Tryd.sizeOf57 rfl e1502 (CellsAt.sub hcw1506 11 (cs2 := [.int .i64 ((kx.getD 1 default).byO), .int .i64 ((kx.getD 1 default).byS)]) rfl) (fun vals' hv _ => ⟨rfl, hv⟩)
 ·intro k1507 vals w1508 h1511 h1512 hW1510 hA1509
  have e1513 := hA1509 11 (by decide)
  refine zC rfl rfl e1513 (fun _ => ?_) (fun hb => absurd rfl hb)
  exact yU rfl (fun vals' hv _ => ⟨rfl, hv⟩)
 ·intro k1514 vals w1515 h1518 h1519 hW1517 hA1516
  obtain rfl : k1514 = 0 := Nat.le_antisymm h1519 h1518
  have hS1520 : Sep _ _ _ _ := hW1517
  have e1521 := hA1516 11 (by decide)
  have e1522 := hA1516 16 (by decide)
  refine zC rfl rfl e1521 (fun _ => ?_) (fun hb => absurd rfl hb)
  exact zl (k := 2) (cs := [.int .i64 (evA.origin), .int .i64 (evA.seq)]) Tryd.isAgg57 Tryd.sizeOf57 rfl e1522 (CellsAt.sub (CellsAt.all (hS1520.blk (i := 6) rfl)) 0 (cs2 := [.int .i64 (evA.origin), .int .i64 (evA.seq)]) rfl) (fun vals' hv _ => ⟨rfl, hv⟩)
 ·intro k1523 vals w1524 h1527 h1528 hW1526 hA1525
  obtain rfl : k1523 = 0 := Nat.le_antisymm h1528 h1527
  have hS1529 : Sep _ _ _ _ := hW1526
  have e1530 := hA1525 11 (by decide)
  have e1531 := hA1525 15 (by decide)
  have e1532 := hA1525 17 (by decide)
  refine zC rfl rfl e1530 (fun _ => ?_) (fun hb => absurd rfl hb)
  have hl1533 : (decide ((kx.getD 1 default).byO = evA.origin ∧ (kx.getD 1 default).byS = evA.seq)) = true := by decide +kernel
  exact xH (e := decide ((kx.getD 1 default).byO = evA.origin ∧ (kx.getD 1 default).byS = evA.seq)) (xs := #[.int .i64 ((kx.getD 1 default).byO), .int .i64 ((kx.getD 1 default).byS)]) (ys := #[.int .i64 (evA.origin), .int .i64 (evA.seq)]) VD e1531 e1532 (fun vals' hv _ => ⟨rfl, hv.trans (congrArg Value.bool hl1533)⟩)
 ·intro k1534 vals w1535 h1538 h1539 hW1537 hA1536
  have e1540 := hA1536 11 (by decide)
  have e1541 := hA1536 18 (by decide)
  refine obl rfl ?_
  exact zU (v := .bool true) e1540 e1541 (fun vals' hv _ => ⟨rfl, hv⟩)
 ·intro k1542 vals w1543 h1546 h1547 hW1545 hA1544
  have e1548 := hA1544 19 (by decide)
  refine obl rfl ?_
  exact zb (v := .bool true) e1548 (fun vals' hv _ => ⟨rfl, hv⟩)
 ·intro k1549 vals w1550 h1553 h1554 hW1552 hA1551
  have e1555 := hA1551 20 (by decide)
  refine zC rfl rfl e1555 (fun _ => ?_) (fun hb => absurd rfl hb)
  exact zb (v := v535) rfl (fun vals' hv _ => ⟨rfl, hv⟩)
 ·intro k1556 vals w1557 h1560 h1561 hW1559 hA1558
  obtain rfl : k1556 = 0 := Nat.le_antisymm h1561 h1560
  have hS1562 : Sep _ _ _ _ := hW1559
  have e1563 := hA1558 20 (by decide)
  have e1564 := hA1558 21 (by decide)
  refine zC rfl rfl e1563 (fun _ => ?_) (fun hb => absurd rfl hb)
  have hi1565 : 2 < kx.length := (by first | omega | decide +kernel)
  exact zm (k := 13) (i := 2) Tryd.underlying66 Tryd.sizeOf62 e1564 hrd605.sl rfl hi1565 (fun vals' hv _ => ⟨rfl, hv⟩)
 ·intro k1566 vals w1567 h1570 h1571 hW1569 hA1568
  have e1572 := hA1568 20 (by decide)
  have e1573 := hA1568 22 (by decide)
  refine zC rfl rfl e1572 (fun _ => ?_) (fun hb => absurd rfl hb)
  exact ZE e1573 (fun vals' hv _ => ⟨rfl, hv⟩)
 ·intro k1574 vals w1575 h1578 h1579 hW1577 hA1576
  obtain rfl : k1574 = 0 := Nat.le_antisymm h1579 h1578
  have hS1580 : Sep _ _ _ _ := hW1577
  have e1581 := hA1576 20 (by decide)
  have e1582 := hA1576 23 (by decide)
  refine zC rfl rfl e1581 (fun _ => ?_) (fun hb => absurd rfl hb)
  have hi1584 : 2 < kx.length := (by first | omega | decide +kernel)
  obtain ⟨hce1583, hde1583_0, hoke1583⟩ := hrd605.ent hi1584
  rw [← zk default hi1584] at hce1583 hde1583_0 hoke1583
  have hsm1585 : ((kx.getD 2 default).ev.deps).length * 8 ≤ 140737488355328 := hde1583_0.small
  have hcw1586 := hS1580.cells hce1583 (hrd605.foot (ne_of_lt hi1584))
  have hl1587 : ((kx.getD 2 default).void) = true := by decide +kernel
  exact zg (v := .bool ((kx.getD 2 default).void)) Tryd.isAgg4 e1582 (hcw1586.get (j := 10) rfl) (fun vals' hv _ => ⟨rfl, hv.trans (congrArg Value.bool hl1587)⟩)
 ·intro k1588 vals w1589 h1592 h1593 hW1591 hA1590
  have e1594 := hA1590 20 (by decide)
  have e1595 := hA1590 24 (by decide)
  refine obl rfl ?_
  exact zU (v := .bool true) e1594 e1595 (fun vals' hv _ => ⟨rfl, hv⟩)
 ·intro k1596 vals w1597 h1600 h1601 hW1599 hA1598
  have e1602 := hA1598 25 (by decide)
  refine obl rfl ?_
  exact zb (v := .bool true) e1602 (fun vals' hv _ => ⟨rfl, hv⟩)
 ·intro k1603 vals w1604 h1607 h1608 hW1606 hA1605
  have e1609 := hA1605 26 (by decide)
  refine zC rfl rfl e1609 (fun _ => ?_) (fun hb => absurd rfl hb)
  exact zb (v := v535) rfl (fun vals' hv _ => ⟨rfl, hv⟩)
 ·intro k1610 vals w1611 h1614 h1615 hW1613 hA1612
  obtain rfl : k1610 = 0 := Nat.le_antisymm h1615 h1614
  have hS1616 : Sep _ _ _ _ := hW1613
  have e1617 := hA1612 26 (by decide)
  have e1618 := hA1612 27 (by decide)
  refine zC rfl rfl e1617 (fun _ => ?_) (fun hb => absurd rfl hb)
  have hi1619 : 2 < kx.length := (by first | omega | decide +kernel)
  exact zm (k := 13) (i := 2) Tryd.underlying66 Tryd.sizeOf62 e1618 hrd605.sl rfl hi1619 (fun vals' hv _ => ⟨rfl, hv⟩)
 ·intro k1620 vals w1621 h1624 h1625 hW1623 hA1622
  have e1626 := hA1622 26 (by decide)
  have e1627 := hA1622 28 (by decide)
  refine zC rfl rfl e1626 (fun _ => ?_) (fun hb => absurd rfl hb)
  exact Ym e1627 (fun vals' hv _ => ⟨rfl, hv⟩)
 ·intro k1628 vals w1629 h1632 h1633 hW1631 hA1630
  obtain rfl : k1628 = 0 := Nat.le_antisymm h1633 h1632
  have hS1634 : Sep _ _ _ _ := hW1631
  have e1635 := hA1630 26 (by decide)
  have e1636 := hA1630 29 (by decide)
  refine zC rfl rfl e1635 (fun _ => ?_) (fun hb => absurd rfl hb)
  have hi1638 : 2 < kx.length := (by first | omega | decide +kernel)
  obtain ⟨hce1637, hde1637_0, hoke1637⟩ := hrd605.ent hi1638
  rw [← zk default hi1638] at hce1637 hde1637_0 hoke1637
  have hsm1639 : ((kx.getD 2 default).ev.deps).length * 8 ≤ 140737488355328 := hde1637_0.small
  have hcw1640 := hS1634.cells hce1637 (hrd605.foot (ne_of_lt hi1638))
  exact zl (k := 2) (cs := [.int .i64 ((kx.getD 2 default).byO), .int .i64 ((kx.getD 2 default).byS)]) Tryd.isAgg57 Tryd.sizeOf57 rfl e1636 (CellsAt.sub hcw1640 11 (cs2 := [.int .i64 ((kx.getD 2 default).byO), .int .i64 ((kx.getD 2 default).byS)]) rfl) (fun vals' hv _ => ⟨rfl, hv⟩)
 ·intro k1641 vals w1642 h1645 h1646 hW1644 hA1643
  have e1647 := hA1643 26 (by decide)
  refine zC rfl rfl e1647 (fun _ => ?_) (fun hb => absurd rfl hb)
  exact yU rfl (fun vals' hv _ => ⟨rfl, hv⟩)
 ·intro k1648 vals w1649 h1652 h1653 hW1651 hA1650
  obtain rfl : k1648 = 0 := Nat.le_antisymm h1653 h1652
  have hS1654 : Sep _ _ _ _ := hW1651
  have e1655 := hA1650 26 (by decide)
  have e1656 := hA1650 31 (by decide)
  refine zC rfl rfl e1655 (fun _ => ?_) (fun hb => absurd rfl hb)
  exact zl (k := 2) (cs := [.int .i64 (evA.origin), .int .i64 (evA.seq)]) Tryd.isAgg57 Tryd.sizeOf57 rfl e1656 (CellsAt.sub (CellsAt.all (hS1654.blk (i := 6) rfl)) 0 (cs2 := [.int .i64 (evA.origin), .int .i64 (evA.seq)]) rfl) (fun vals' hv _ => ⟨rfl, hv⟩)
 ·intro k1657 vals w1658 h1661 h1662 hW1660 hA1659
  obtain rfl : k1657 = 0 := Nat.le_antisymm h1662 h1661
  have hS1663 : Sep _ _ _ _ := hW1660
  have e1664 := hA1659 26 (by decide)
  have e1665 := hA1659 30 (by decide)
  have e1666 := hA1659 32 (by decide)
  refine zC rfl rfl e1664 (fun _ => ?_) (fun hb => absurd rfl hb)
  have hl1667 : (decide ((kx.getD 2 default).byO = evA.origin ∧ (kx.getD 2 default).byS = evA.seq)) = true := by decide +kernel
  exact xH (e := decide ((kx.getD 2 default).byO = evA.origin ∧ (kx.getD 2 default).byS = evA.seq)) (xs := #[.int .i64 ((kx.getD 2 default).byO), .int .i64 ((kx.getD 2 default).byS)]) (ys := #[.int .i64 (evA.origin), .int .i64 (evA.seq)]) VD e1665 e1666 (fun vals' hv _ => ⟨rfl, hv.trans (congrArg Value.bool hl1667)⟩)
 ·intro k1668 vals w1669 h1672 h1673 hW1671 hA1670
  have e1674 := hA1670 26 (by decide)
  have e1675 := hA1670 33 (by decide)
  refine obl rfl ?_
  exact zU (v := .bool true) e1674 e1675 (fun vals' hv _ => ⟨rfl, hv⟩)
 ·intro k1676 vals w1677 h1680 h1681 hW1679 hA1678
  have e1682 := hA1678 34 (by decide)
  refine obl rfl ?_
  exact zb (v := .bool true) e1682 (fun vals' hv _ => ⟨rfl, hv⟩)
 ·intro k1683 vals w1684 h1687 h1688 hW1686 hA1685
  have e1689 := hA1685 35 (by decide)
  refine zC rfl rfl e1689 (fun _ => ?_) (fun hb => absurd rfl hb)
  exact xm rfl (fun vals' hv _ => ⟨rfl, hv⟩)
 ·intro k1690 vals w1691 h1694 h1695 hW1693 hA1692
  obtain rfl : k1690 = 0 := Nat.le_antisymm h1695 h1694
  have hS1696 : Sep _ _ _ _ := hW1693
  have e1697 := hA1692 35 (by decide)
  have e1698 := hA1692 36 (by decide)
  refine zC rfl rfl e1697 (fun _ => ?_) (fun hb => absurd rfl hb)
  exact zg (v := v545) Tryd.isAgg26 e1698 (zh (hS1696.blk (i := 2) rfl) rfl) (fun vals' hv _ => ⟨rfl, hv⟩)
 ·intro k1699 vals w1700 h1703 h1704 hW1702 hA1701
  obtain rfl : k1699 = 0 := Nat.le_antisymm h1704 h1703
  have hS1705 : Sep _ _ _ _ := hW1702
  have e1706 := hA1701 35 (by decide)
  have e1707 := hA1701 37 (by decide)
  refine zC rfl rfl e1706 (fun _ => ?_) (fun hb => absurd rfl hb)
  have hi1708 : 0 < (stL (zW 2) (0, 0) kx).length := (by first | omega | decide +kernel)
  exact zm (k := 2) (i := 0) Tryd.underlying26 Tryd.sizeOf42 e1707 (RdS.base (RdS.base hrd589 hB594) hB602).sl rfl hi1708 (fun vals' hv _ => ⟨rfl, hv⟩)
 ·intro k1709 vals w1710 h1713 h1714 hW1712 hA1711
  have e1715 := hA1711 35 (by decide)
  have e1716 := hA1711 38 (by decide)
  refine zC rfl rfl e1715 (fun _ => ?_) (fun hb => absurd rfl hb)
  exact xM e1716 (fun vals' hv _ => ⟨rfl, hv⟩)
 ·intro k1717 vals w1718 h1721 h1722 hW1720 hA1719
  obtain rfl : k1717 = 0 := Nat.le_antisymm h1722 h1721
  have hS1723 : Sep _ _ _ _ := hW1720
  have e1724 := hA1719 35 (by decide)
  have e1725 := hA1719 39 (by decide)
  refine zC rfl rfl e1724 (fun _ => ?_) (fun hb => absurd rfl hb)
  have hi1727 : 0 < (stL (zW 2) (0, 0) kx).length := (by first | omega | decide +kernel)
  obtain ⟨hce1726, hde1726_0, hoke1726⟩ := (RdS.base (RdS.base hrd589 hB594) hB602).cel hi1727
  rw [← zk default hi1727] at hce1726 hde1726_0 hoke1726
  have hsm1728 : (((stL (zW 2) (0, 0) kx).getD 0 default).set).length * 8 ≤ 140737488355328 := hde1726_0.small
  have hcw1729 := hS1723.cells hce1726 ((RdS.base (RdS.base hrd589 hB594) hB602).foot (ne_of_lt hi1727))
  exact zg (v := .int .i64 (((stL (zW 2) (0, 0) kx).getD 0 default).n)) Tryd.isAgg3 e1725 (hcw1729.get (j := 0) rfl) (fun vals' hv _ => ⟨rfl, hv⟩)
 ·intro k1730 vals w1731 h1734 h1735 hW1733 hA1732
  obtain rfl : k1730 = 0 := Nat.le_antisymm h1735 h1734
  have hS1736 : Sep _ _ _ _ := hW1733
  have e1737 := hA1732 35 (by decide)
  have e1738 := hA1732 40 (by decide)
  refine zC rfl rfl e1737 (fun _ => ?_) (fun hb => absurd rfl hb)
  have hl1739 : (decide ((((stL (zW 2) (0, 0) kx).getD 0 default).n) = 1)) = true := by decide +kernel
  exact yu (k := .i64) (a := ((stL (zW 2) (0, 0) kx).getD 0 default).n) (b := 1) e1738 rfl (fun vals' hv _ => ⟨rfl, hv.trans (congrArg Value.bool hl1739)⟩)
 ·intro k1740 vals w1741 h1744 h1745 hW1743 hA1742
  have e1746 := hA1742 35 (by decide)
  have e1747 := hA1742 41 (by decide)
  refine obl rfl ?_
  exact zU (v := .bool true) e1746 e1747 (fun vals' hv _ => ⟨rfl, hv⟩)
 ·intro k1748 vals w1749 h1752 h1753 hW1751 hA1750
  have e1754 := hA1750 42 (by decide)
  refine obl rfl ?_
  exact zb (v := .bool true) e1754 (fun vals' hv _ => ⟨rfl, hv⟩)
 ·intro k1755 vals w1756 h1759 h1760 hW1758 hA1757
  have e1761 := hA1757 43 (by decide)
  refine zC rfl rfl e1761 (fun _ => ?_) (fun hb => absurd rfl hb)
  exact VE rfl (fun vals' hv _ => ⟨rfl, hv⟩)
 ·intro k1762 vals w1763 h1766 h1767 hW1765 hA1764
  obtain rfl : k1762 = 0 := Nat.le_antisymm h1767 h1766
  have hS1768 : Sep _ _ _ _ := hW1765
  have e1769 := hA1764 43 (by decide)
  have e1770 := hA1764 44 (by decide)
  refine zC rfl rfl e1769 (fun _ => ?_) (fun hb => absurd rfl hb)
  exact zg (v := .int .i64 ((xn (zW 2) (0, 0) kx).ver)) Tryd.isAgg3 e1770 (zh (hS1768.blk (i := 2) rfl) rfl) (fun vals' hv _ => ⟨rfl, hv⟩)
 ·intro k1771 vals w1772 h1775 h1776 hW1774 hA1773
  obtain rfl : k1771 = 0 := Nat.le_antisymm h1776 h1775
  have hS1777 : Sep _ _ _ _ := hW1774
  have e1778 := hA1773 43 (by decide)
  have e1779 := hA1773 45 (by decide)
  refine zC rfl rfl e1778 (fun _ => ?_) (fun hb => absurd rfl hb)
  have hl1780 : (decide (((xn (zW 2) (0, 0) kx).ver) = 1)) = true := by decide +kernel
  exact yu (k := .i64) (a := (xn (zW 2) (0, 0) kx).ver) (b := 1) e1779 rfl (fun vals' hv _ => ⟨rfl, hv.trans (congrArg Value.bool hl1780)⟩)
 ·intro k1781 vals w1782 h1785 h1786 hW1784 hA1783
  have e1787 := hA1783 43 (by decide)
  have e1788 := hA1783 46 (by decide)
  refine obl rfl ?_
  exact zU (v := .bool true) e1787 e1788 (fun vals' hv _ => ⟨rfl, hv⟩)
 ·intro k1789 vals w1790 h1793 h1794 hW1792 hA1791
  have e1795 := hA1791 47 (by decide)
  refine obl rfl ?_
  exact zb (v := .bool true) e1795 (fun vals' hv _ => ⟨rfl, hv⟩)
 ·intro k1796 vals w1797 h1800 h1801 hW1799 hA1798
  have e1802 := hA1798 48 (by decide)
  refine zC rfl rfl e1802 (fun _ => ?_) (fun hb => absurd rfl hb)
  exact zb (v := v540) rfl (fun vals' hv _ => ⟨rfl, hv⟩)
 ·intro k1803 vals w1804 h1807 h1808 hW1806 hA1805
  obtain rfl : k1803 = 0 := Nat.le_antisymm h1808 h1807
  have hS1809 : Sep _ _ _ _ := hW1806
  have e1810 := hA1805 48 (by decide)
  have e1811 := hA1805 49 (by decide)
  refine zC rfl rfl e1810 (fun _ => ?_) (fun hb => absurd rfl hb)
  have hi1812 : 0 < ky.length := (by first | omega | decide +kernel)
  exact zm (k := 13) (i := 0) Tryd.underlying66 Tryd.sizeOf62 e1811 (RdS.base hrd597 hB602).sl rfl hi1812 (fun vals' hv _ => ⟨rfl, hv⟩)
 ·intro k1813 vals w1814 h1817 h1818 hW1816 hA1815
  have e1819 := hA1815 48 (by decide)
  have e1820 := hA1815 50 (by decide)
  refine zC rfl rfl e1819 (fun _ => ?_) (fun hb => absurd rfl hb)
  exact ZE e1820 (fun vals' hv _ => ⟨rfl, hv⟩)
 ·intro k1821 vals w1822 h1825 h1826 hW1824 hA1823
  obtain rfl : k1821 = 0 := Nat.le_antisymm h1826 h1825
  have hS1827 : Sep _ _ _ _ := hW1824
  have e1828 := hA1823 48 (by decide)
  have e1829 := hA1823 51 (by decide)
  refine zC rfl rfl e1828 (fun _ => ?_) (fun hb => absurd rfl hb)
  have hi1831 : 0 < ky.length := (by first | omega | decide +kernel)
  obtain ⟨hce1830, hde1830_0, hoke1830⟩ := (RdS.base hrd597 hB602).ent hi1831
  rw [← zk default hi1831] at hce1830 hde1830_0 hoke1830
  have hsm1832 : ((ky.getD 0 default).ev.deps).length * 8 ≤ 140737488355328 := hde1830_0.small
  have hcw1833 := hS1827.cells hce1830 ((RdS.base hrd597 hB602).foot (ne_of_lt hi1831))
  exact zg (v := .bool ((ky.getD 0 default).void)) Tryd.isAgg4 e1829 (hcw1833.get (j := 10) rfl) (fun vals' hv _ => ⟨rfl, hv⟩)
 ·intro k1834 vals w1835 h1838 h1839 hW1837 hA1836
  have e1840 := hA1836 48 (by decide)
  have e1841 := hA1836 52 (by decide)
  refine zC rfl rfl e1840 (fun _ => ?_) (fun hb => absurd rfl hb)
  have hl1842 : (!((ky.getD 0 default).void)) = true := by decide +kernel
  exact yJ (a := (ky.getD 0 default).void) e1841 (fun vals' hv _ => ⟨rfl, hv.trans (congrArg Value.bool hl1842)⟩)
 ·intro k1843 vals w1844 h1847 h1848 hW1846 hA1845
  have e1849 := hA1845 48 (by decide)
  have e1850 := hA1845 53 (by decide)
  refine obl rfl ?_
  exact zU (v := .bool true) e1849 e1850 (fun vals' hv _ => ⟨rfl, hv⟩)
 ·intro k1851 vals w1852 h1855 h1856 hW1854 hA1853
  have e1857 := hA1853 54 (by decide)
  refine obl rfl ?_
  exact zb (v := .bool true) e1857 (fun vals' hv _ => ⟨rfl, hv⟩)
 ·intro k1858 vals w1859 h1862 h1863 hW1861 hA1860
  have e1864 := hA1860 55 (by decide)
  refine zC rfl rfl e1864 (fun _ => ?_) (fun hb => absurd rfl hb)
  exact zb (v := v540) rfl (fun vals' hv _ => ⟨rfl, hv⟩)
 ·intro k1865 vals w1866 h1869 h1870 hW1868 hA1867
  obtain rfl : k1865 = 0 := Nat.le_antisymm h1870 h1869
  have hS1871 : Sep _ _ _ _ := hW1868
  have e1872 := hA1867 55 (by decide)
  have e1873 := hA1867 56 (by decide)
  refine zC rfl rfl e1872 (fun _ => ?_) (fun hb => absurd rfl hb)
  have hi1874 : 1 < ky.length := (by first | omega | decide +kernel)
  exact zm (k := 13) (i := 1) Tryd.underlying66 Tryd.sizeOf62 e1873 (RdS.base hrd597 hB602).sl rfl hi1874 (fun vals' hv _ => ⟨rfl, hv⟩)
 ·intro k1875 vals w1876 h1879 h1880 hW1878 hA1877
  have e1881 := hA1877 55 (by decide)
  have e1882 := hA1877 57 (by decide)
  refine zC rfl rfl e1881 (fun _ => ?_) (fun hb => absurd rfl hb)
  exact ZE e1882 (fun vals' hv _ => ⟨rfl, hv⟩)
 ·intro k1883 vals w1884 h1887 h1888 hW1886 hA1885
  obtain rfl : k1883 = 0 := Nat.le_antisymm h1888 h1887
  have hS1889 : Sep _ _ _ _ := hW1886
  have e1890 := hA1885 55 (by decide)
  have e1891 := hA1885 58 (by decide)
  refine zC rfl rfl e1890 (fun _ => ?_) (fun hb => absurd rfl hb)
  have hi1893 : 1 < ky.length := (by first | omega | decide +kernel)
  obtain ⟨hce1892, hde1892_0, hoke1892⟩ := (RdS.base hrd597 hB602).ent hi1893
  rw [← zk default hi1893] at hce1892 hde1892_0 hoke1892
  have hsm1894 : ((ky.getD 1 default).ev.deps).length * 8 ≤ 140737488355328 := hde1892_0.small
  have hcw1895 := hS1889.cells hce1892 ((RdS.base hrd597 hB602).foot (ne_of_lt hi1893))
  have hl1896 : ((ky.getD 1 default).void) = true := by decide +kernel
  exact zg (v := .bool ((ky.getD 1 default).void)) Tryd.isAgg4 e1891 (hcw1895.get (j := 10) rfl) (fun vals' hv _ => ⟨rfl, hv.trans (congrArg Value.bool hl1896)⟩)
 ·intro k1897 vals w1898 h1901 h1902 hW1900 hA1899
  have e1903 := hA1899 55 (by decide)
  have e1904 := hA1899 59 (by decide)
  refine obl rfl ?_
  exact zU (v := .bool true) e1903 e1904 (fun vals' hv _ => ⟨rfl, hv⟩)
 ·intro k1905 vals w1906 h1909 h1910 hW1908 hA1907
  have e1911 := hA1907 60 (by decide)
  refine obl rfl ?_
  exact zb (v := .bool true) e1911 (fun vals' hv _ => ⟨rfl, hv⟩)
 ·intro k1912 vals w1913 h1916 h1917 hW1915 hA1914
  have e1918 := hA1914 61 (by decide)
  refine zC rfl rfl e1918 (fun _ => ?_) (fun hb => absurd rfl hb)
  exact zb (v := v540) rfl (fun vals' hv _ => ⟨rfl, hv⟩)
 ·intro k1919 vals w1920 h1923 h1924 hW1922 hA1921
  obtain rfl : k1919 = 0 := Nat.le_antisymm h1924 h1923
  have hS1925 : Sep _ _ _ _ := hW1922
  have e1926 := hA1921 61 (by decide)
  have e1927 := hA1921 62 (by decide)
  refine zC rfl rfl e1926 (fun _ => ?_) (fun hb => absurd rfl hb)
  have hi1928 : 1 < ky.length := (by first | omega | decide +kernel)
  exact zm (k := 13) (i := 1) Tryd.underlying66 Tryd.sizeOf62 e1927 (RdS.base hrd597 hB602).sl rfl hi1928 (fun vals' hv _ => ⟨rfl, hv⟩)
 ·intro k1929 vals w1930 h1933 h1934 hW1932 hA1931
  have e1935 := hA1931 61 (by decide)
  have e1936 := hA1931 63 (by decide)
  refine zC rfl rfl e1935 (fun _ => ?_) (fun hb => absurd rfl hb)
  exact Ym e1936 (fun vals' hv _ => ⟨rfl, hv⟩)
 ·intro k1937 vals w1938 h1941 h1942 hW1940 hA1939
  obtain rfl : k1937 = 0 := Nat.le_antisymm h1942 h1941
  have hS1943 : Sep _ _ _ _ := hW1940
  have e1944 := hA1939 61 (by decide)
  have e1945 := hA1939 64 (by decide)
  refine zC rfl rfl e1944 (fun _ => ?_) (fun hb => absurd rfl hb)
  have hi1947 : 1 < ky.length := (by first | omega | decide +kernel)
  obtain ⟨hce1946, hde1946_0, hoke1946⟩ := (RdS.base hrd597 hB602).ent hi1947
  rw [← zk default hi1947] at hce1946 hde1946_0 hoke1946
  have hsm1948 : ((ky.getD 1 default).ev.deps).length * 8 ≤ 140737488355328 := hde1946_0.small
  have hcw1949 := hS1943.cells hce1946 ((RdS.base hrd597 hB602).foot (ne_of_lt hi1947))
  exact zl (k := 2) (cs := [.int .i64 ((ky.getD 1 default).byO), .int .i64 ((ky.getD 1 default).byS)]) Tryd.isAgg57 Tryd.sizeOf57 rfl e1945 (CellsAt.sub hcw1949 11 (cs2 := [.int .i64 ((ky.getD 1 default).byO), .int .i64 ((ky.getD 1 default).byS)]) rfl) (fun vals' hv _ => ⟨rfl, hv⟩)
 ·intro k1950 vals w1951 h1954 h1955 hW1953 hA1952
  have e1956 := hA1952 61 (by decide)
  refine zC rfl rfl e1956 (fun _ => ?_) (fun hb => absurd rfl hb)
  exact yU rfl (fun vals' hv _ => ⟨rfl, hv⟩)
 ·intro k1957 vals w1958 h1961 h1962 hW1960 hA1959
  obtain rfl : k1957 = 0 := Nat.le_antisymm h1962 h1961
  have hS1963 : Sep _ _ _ _ := hW1960
  have e1964 := hA1959 61 (by decide)
  have e1965 := hA1959 66 (by decide)
  refine zC rfl rfl e1964 (fun _ => ?_) (fun hb => absurd rfl hb)
  exact zl (k := 2) (cs := [.int .i64 (evB.origin), .int .i64 (evB.seq)]) Tryd.isAgg57 Tryd.sizeOf57 rfl e1965 (CellsAt.sub (CellsAt.all (hS1963.blk (i := 5) rfl)) 0 (cs2 := [.int .i64 (evB.origin), .int .i64 (evB.seq)]) rfl) (fun vals' hv _ => ⟨rfl, hv⟩)
 ·intro k1966 vals w1967 h1970 h1971 hW1969 hA1968
  obtain rfl : k1966 = 0 := Nat.le_antisymm h1971 h1970
  have hS1972 : Sep _ _ _ _ := hW1969
  have e1973 := hA1968 61 (by decide)
  have e1974 := hA1968 65 (by decide)
  have e1975 := hA1968 67 (by decide)
  refine zC rfl rfl e1973 (fun _ => ?_) (fun hb => absurd rfl hb)
  have hl1976 : (decide ((ky.getD 1 default).byO = evB.origin ∧ (ky.getD 1 default).byS = evB.seq)) = true := by decide +kernel
  exact xH (e := decide ((ky.getD 1 default).byO = evB.origin ∧ (ky.getD 1 default).byS = evB.seq)) (xs := #[.int .i64 ((ky.getD 1 default).byO), .int .i64 ((ky.getD 1 default).byS)]) (ys := #[.int .i64 (evB.origin), .int .i64 (evB.seq)]) VD e1974 e1975 (fun vals' hv _ => ⟨rfl, hv.trans (congrArg Value.bool hl1976)⟩)
 ·intro k1977 vals w1978 h1981 h1982 hW1980 hA1979
  have e1983 := hA1979 61 (by decide)
  have e1984 := hA1979 68 (by decide)
  refine obl rfl ?_
  exact zU (v := .bool true) e1983 e1984 (fun vals' hv _ => ⟨rfl, hv⟩)
 ·intro k1985 vals w1986 h1989 h1990 hW1988 hA1987
  have e1991 := hA1987 69 (by decide)
  refine obl rfl ?_
  exact zb (v := .bool true) e1991 (fun vals' hv _ => ⟨rfl, hv⟩)
 ·intro k1992 vals w1993 h1996 h1997 hW1995 hA1994
  have e1998 := hA1994 70 (by decide)
  refine zC rfl rfl e1998 (fun _ => ?_) (fun hb => absurd rfl hb)
  exact zb (v := v540) rfl (fun vals' hv _ => ⟨rfl, hv⟩)
 ·intro k1999 vals w2000 h2003 h2004 hW2002 hA2001
  obtain rfl : k1999 = 0 := Nat.le_antisymm h2004 h2003
  have hS2005 : Sep _ _ _ _ := hW2002
  have e2006 := hA2001 70 (by decide)
  have e2007 := hA2001 71 (by decide)
  refine zC rfl rfl e2006 (fun _ => ?_) (fun hb => absurd rfl hb)
  have hi2008 : 2 < ky.length := (by first | omega | decide +kernel)
  exact zm (k := 13) (i := 2) Tryd.underlying66 Tryd.sizeOf62 e2007 (RdS.base hrd597 hB602).sl rfl hi2008 (fun vals' hv _ => ⟨rfl, hv⟩)
 ·intro k2009 vals w2010 h2013 h2014 hW2012 hA2011
  have e2015 := hA2011 70 (by decide)
  have e2016 := hA2011 72 (by decide)
  refine zC rfl rfl e2015 (fun _ => ?_) (fun hb => absurd rfl hb)
  exact ZE e2016 (fun vals' hv _ => ⟨rfl, hv⟩)
 ·intro k2017 vals w2018 h2021 h2022 hW2020 hA2019
  obtain rfl : k2017 = 0 := Nat.le_antisymm h2022 h2021
  have hS2023 : Sep _ _ _ _ := hW2020
  have e2024 := hA2019 70 (by decide)
  have e2025 := hA2019 73 (by decide)
  refine zC rfl rfl e2024 (fun _ => ?_) (fun hb => absurd rfl hb)
  have hi2027 : 2 < ky.length := (by first | omega | decide +kernel)
  obtain ⟨hce2026, hde2026_0, hoke2026⟩ := (RdS.base hrd597 hB602).ent hi2027
  rw [← zk default hi2027] at hce2026 hde2026_0 hoke2026
  have hsm2028 : ((ky.getD 2 default).ev.deps).length * 8 ≤ 140737488355328 := hde2026_0.small
  have hcw2029 := hS2023.cells hce2026 ((RdS.base hrd597 hB602).foot (ne_of_lt hi2027))
  exact zg (v := .bool ((ky.getD 2 default).void)) Tryd.isAgg4 e2025 (hcw2029.get (j := 10) rfl) (fun vals' hv _ => ⟨rfl, hv⟩)
 ·intro k2030 vals w2031 h2034 h2035 hW2033 hA2032
  have e2036 := hA2032 70 (by decide)
  have e2037 := hA2032 74 (by decide)
  refine zC rfl rfl e2036 (fun _ => ?_) (fun hb => absurd rfl hb)
  have hl2038 : (!((ky.getD 2 default).void)) = true := by decide +kernel
  exact yJ (a := (ky.getD 2 default).void) e2037 (fun vals' hv _ => ⟨rfl, hv.trans (congrArg Value.bool hl2038)⟩)
 ·intro k2039 vals w2040 h2043 h2044 hW2042 hA2041
  have e2045 := hA2041 70 (by decide)
  have e2046 := hA2041 75 (by decide)
  refine obl rfl ?_
  exact zU (v := .bool true) e2045 e2046 (fun vals' hv _ => ⟨rfl, hv⟩)
 ·intro k2047 vals w2048 h2051 h2052 hW2050 hA2049
  have e2053 := hA2049 76 (by decide)
  refine obl rfl ?_
  exact zb (v := .bool true) e2053 (fun vals' hv _ => ⟨rfl, hv⟩)
 ·intro k2054 vals w2055 h2058 h2059 hW2057 hA2056
  have e2060 := hA2056 77 (by decide)
  refine zC rfl rfl e2060 (fun _ => ?_) (fun hb => absurd rfl hb)
  exact xm rfl (fun vals' hv _ => ⟨rfl, hv⟩)
 ·intro k2061 vals w2062 h2065 h2066 hW2064 hA2063
  obtain rfl : k2061 = 0 := Nat.le_antisymm h2066 h2065
  have hS2067 : Sep _ _ _ _ := hW2064
  have e2068 := hA2063 77 (by decide)
  have e2069 := hA2063 78 (by decide)
  refine zC rfl rfl e2068 (fun _ => ?_) (fun hb => absurd rfl hb)
  exact zg (v := v557) Tryd.isAgg26 e2069 (zh (hS2067.blk (i := 0) rfl) rfl) (fun vals' hv _ => ⟨rfl, hv⟩)
 ·intro k2070 vals w2071 h2074 h2075 hW2073 hA2072
  obtain rfl : k2070 = 0 := Nat.le_antisymm h2075 h2074
  have hS2076 : Sep _ _ _ _ := hW2073
  have e2077 := hA2072 77 (by decide)
  have e2078 := hA2072 79 (by decide)
  refine zC rfl rfl e2077 (fun _ => ?_) (fun hb => absurd rfl hb)
  have hi2079 : 0 < (stL (zW 3) (0, 0) ky).length := (by first | omega | decide +kernel)
  exact zm (k := 2) (i := 0) Tryd.underlying26 Tryd.sizeOf42 e2078 (RdS.base (RdS.base (RdS.base hrd581 hB586) hB594) hB602).sl rfl hi2079 (fun vals' hv _ => ⟨rfl, hv⟩)
 ·intro k2080 vals w2081 h2084 h2085 hW2083 hA2082
  have e2086 := hA2082 77 (by decide)
  have e2087 := hA2082 80 (by decide)
  refine zC rfl rfl e2086 (fun _ => ?_) (fun hb => absurd rfl hb)
  exact xM e2087 (fun vals' hv _ => ⟨rfl, hv⟩)
 ·intro k2088 vals w2089 h2092 h2093 hW2091 hA2090
  obtain rfl : k2088 = 0 := Nat.le_antisymm h2093 h2092
  have hS2094 : Sep _ _ _ _ := hW2091
  have e2095 := hA2090 77 (by decide)
  have e2096 := hA2090 81 (by decide)
  refine zC rfl rfl e2095 (fun _ => ?_) (fun hb => absurd rfl hb)
  have hi2098 : 0 < (stL (zW 3) (0, 0) ky).length := (by first | omega | decide +kernel)
  obtain ⟨hce2097, hde2097_0, hoke2097⟩ := (RdS.base (RdS.base (RdS.base hrd581 hB586) hB594) hB602).cel hi2098
  rw [← zk default hi2098] at hce2097 hde2097_0 hoke2097
  have hsm2099 : (((stL (zW 3) (0, 0) ky).getD 0 default).set).length * 8 ≤ 140737488355328 := hde2097_0.small
  have hcw2100 := hS2094.cells hce2097 ((RdS.base (RdS.base (RdS.base hrd581 hB586) hB594) hB602).foot (ne_of_lt hi2098))
  exact zg (v := .int .i64 (((stL (zW 3) (0, 0) ky).getD 0 default).n)) Tryd.isAgg3 e2096 (hcw2100.get (j := 0) rfl) (fun vals' hv _ => ⟨rfl, hv⟩)
 ·intro k2101 vals w2102 h2105 h2106 hW2104 hA2103
  obtain rfl : k2101 = 0 := Nat.le_antisymm h2106 h2105
  have hS2107 : Sep _ _ _ _ := hW2104
  have e2108 := hA2103 77 (by decide)
  have e2109 := hA2103 82 (by decide)
  refine zC rfl rfl e2108 (fun _ => ?_) (fun hb => absurd rfl hb)
  have hl2110 : (decide ((((stL (zW 3) (0, 0) ky).getD 0 default).n) = 3)) = true := by decide +kernel
  exact yu (k := .i64) (a := ((stL (zW 3) (0, 0) ky).getD 0 default).n) (b := 3) e2109 rfl (fun vals' hv _ => ⟨rfl, hv.trans (congrArg Value.bool hl2110)⟩)
 ·intro k2111 vals w2112 h2115 h2116 hW2114 hA2113
  have e2117 := hA2113 77 (by decide)
  have e2118 := hA2113 83 (by decide)
  refine obl rfl ?_
  exact zU (v := .bool true) e2117 e2118 (fun vals' hv _ => ⟨rfl, hv⟩)
 ·intro k2119 vals w2120 h2123 h2124 hW2122 hA2121
  have e2125 := hA2121 84 (by decide)
  refine obl rfl ?_
  exact ze (v := .bool true) e2125 (fun vals' hv _ => ⟨rfl, hv⟩)
 intro vals w2126 hW2127 hA2128
 have hS2129 : Sep _ _ _ _ := hW2127
 have e2130 := hA2128 85 (by decide)
 refine yh (kv := [(0, .bool true), (12, (.slice (some ⟨b2, 0, none⟩) 2 2)), (13, .agg ((⟨0, 1, 1, [0, 0], 0, 0, 0, 2, 1, 0⟩ : Ev).cells (.slice (some ⟨b2, 0, none⟩) 2 2)).toArray), (1, .pointer (some ⟨b19, 0, none⟩)), (14, (.slice (some ⟨b26, 0, none⟩) 2 2)), (15, .agg ((⟨1, 1, 2, [0, 0], 0, 0, 0, 2, 2, 0⟩ : Ev).cells (.slice (some ⟨b26, 0, none⟩) 2 2)).toArray), (2, .pointer (some ⟨b43, 0, none⟩)), (16, (.slice (some ⟨b50, 0, none⟩) 2 2)), (17, .agg ((⟨1, 2, 3, [0, 1], 0, 0, 0, 2, 3, 0⟩ : Ev).cells (.slice (some ⟨b50, 0, none⟩) 2 2)).toArray), (3, .pointer (some ⟨b67, 0, none⟩)), (4, .pointer (some ⟨b189, 0, none⟩)), (5, .pointer (some ⟨b404, 0, none⟩)), (30, .pointer (some ⟨b189, 0, none⟩)), (31, .bool false), (32, .bool false), (33, .pointer (some ⟨b404, 0, none⟩)), (34, .bool false), (35, .bool false), (36, .pointer (some ⟨b189, 0, none⟩)), (37, v535), (6, v535), (38, .pointer (some ⟨b404, 0, none⟩)), (39, v540), (7, v540), (41, .pointer (some ⟨b189, 0, none⟩)), (42, .tuple #[.agg ((xn (zW 2) (0, 0) kx).cells v545).toArray, .bool ((zj (zW 2) kx (0, 0)).isSome)]), (40, .tuple #[.agg ((xn (zW 2) (0, 0) kx).cells v545).toArray, .bool ((zj (zW 2) kx (0, 0)).isSome)]), (43, .agg ((xn (zW 2) (0, 0) kx).cells v545).toArray), (44, .bool ((zj (zW 2) kx (0, 0)).isSome)), (8, .pointer (some ⟨b550, 0, none⟩)), (9, .bool ((zj (zW 2) kx (0, 0)).isSome)), (46, .pointer (some ⟨b404, 0, none⟩)), (47, .tuple #[.agg ((xn (zW 3) (0, 0) ky).cells v557).toArray, .bool ((zj (zW 3) ky (0, 0)).isSome)]), (45, .tuple #[.agg ((xn (zW 3) (0, 0) ky).cells v557).toArray, .bool ((zj (zW 3) ky (0, 0)).isSome)]), (48, .agg ((xn (zW 3) (0, 0) ky).cells v557).toArray), (49, .bool ((zj (zW 3) ky (0, 0)).isSome)), (10, .pointer (some ⟨b562, 0, none⟩)), (11, .bool ((zj (zW 3) ky (0, 0)).isSome)), (50, v535), (51, .int .i64 ((kx.length : Nat) : Int)), (52, .bool false), (53, .bool false), (54, v540), (55, .int .i64 ((ky.length : Nat) : Int)), (56, .bool false), (57, .bool false), (58, .bool false), (59, .bool ((zj (zW 2) kx (0, 0)).isSome)), (60, .bool false), (61, .bool false), (62, .bool false), (63, .bool ((zj (zW 3) ky (0, 0)).isSome)), (64, .bool false), (65, .bool false), (66, .bool false), (67, .pointer (some ⟨b550, 1, none⟩)), (68, v545), (69, .int .i64 (((stL (zW 2) (0, 0) kx).length : Nat) : Int)), (70, .bool false), (71, .bool false), (72, .bool false), (73, .pointer (some ⟨b562, 1, none⟩)), (74, v557), (75, .int .i64 (((stL (zW 3) (0, 0) ky).length : Nat) : Int)), (76, .bool false), (77, .bool false)]) ⟨(by exact e2130), rfl, rfl, rfl, rfl, rfl, rfl, rfl, rfl, rfl, rfl, rfl, rfl, rfl, rfl, rfl, rfl, rfl, rfl, rfl, rfl, rfl, rfl, rfl, rfl, rfl, rfl, rfl, rfl, rfl, rfl, rfl, rfl, rfl, rfl, rfl, rfl, rfl, rfl, rfl, rfl, rfl, rfl, rfl, rfl, rfl, rfl, rfl, rfl, rfl, rfl, rfl, rfl, rfl, rfl, rfl, rfl, rfl, rfl, rfl, rfl, rfl, rfl, rfl, rfl, rfl, trivial⟩ (fun ρw2126 => ?_)
 refine zf ?_
 refine zu ?_
 refine ya Tryd.results21 (show _ = (.bool true : Value) from rfl) ?_
 have hS2131 := hk604 _ _ hS2129
 have hS2132 := hk596 _ _ hS2131
 have hS2133 := hk588 _ _ hS2132
 have hS2134 := hk580 _ _ hS2133
 have hS2135 := hk101 _ _ hS2134
 have hS2136 := hk93 _ _ hS2135
 have hS2137 := hk85 _ _ hS2136
 have hS2138 : Sep G W Rs w2126 := hS2137.sel 14 [] (Nat.le_add_left _ _) rfl rfl
 refine ⟨rfl, hS2138⟩

end Go.Proofs.YtlblilbmpdejgaaDoor
/- Steps of the proofs of this seat: part F8. -/
set_option maxRecDepth 8000
set_option maxHeartbeats 4000000
namespace Go.Proofs.YtlblilbmpdejgaaDoor
open Go.Proofs Go.RowKit

def rJ (d : Dcl) (e : Ev) (x : Ent) : Bool := on3 (e.typ, e.agg, e.field) x && yF ((xu d e.typ).fields.getD e.field.toNat default) x.ev e
def JB (d : Dcl) (X : List Ent) (i q : Nat) (b : Int) : Prop := (b = -1 ∧ ∀ j, q ≤ j → j < i → rJ d (X.getD i default).ev (X.getD j default) = false) ∨ ∃ j : Nat, b = (j : Int) ∧ q ≤ j ∧ j < i ∧ rJ d (X.getD i default).ev (X.getD j default) = true ∧ ∀ j', q ≤ j' → j' < j → rJ d (X.getD i default).ev (X.getD j' default) = false
theorem Xf {d : Dcl} {l : List Ev} : ∀ {i : Nat}, i < l.length → (yM d l).getD i default = zR d ((yM d l).take i) (l.getD i default) := by
  induction l using ZZ with
  | h0 => intro i hi; exact absurd hi (Nat.not_lt_zero i)
  | h1 l e ih =>
    intro i hi
    rw [xW]
    have hl := xP d l
    rw [List.length_append, List.length_singleton] at hi
    rcases Nat.lt_or_ge i l.length with h | h
    · rw [List.getD_eq_getElem?_getD, List.getElem?_append_left (by omega), ← List.getD_eq_getElem?_getD, ih h, List.take_append_of_le_length (by omega)]
      congr 1
      rw [List.getD_eq_getElem?_getD, List.getD_eq_getElem?_getD, List.getElem?_append_left h]
    · have e1 : i = l.length := by omega
      subst e1
      rw [List.getD_eq_getElem?_getD, List.getElem?_append_right (by omega), hl, Nat.sub_self, List.take_append_of_le_length (by omega), List.take_of_length_le (by omega)]
      show zR d (yM d l) e = _
      congr 1
      rw [List.getD_eq_getElem?_getD, List.getElem?_append_right (Nat.le_refl _), Nat.sub_self]; rfl
theorem UQ {d : Dcl} {l : List Ev} {i : Nat} (h : i < l.length) : ((yM d l).getD i default).ev = l.getD i default := by rw [Xf h]; rfl
def JR (d : Dcl) (X : List Ent) (i : Nat) (b : Int) : Prop := (¬ yO d (X.getD i default).ev.typ (X.getD i default).ev.field (X.getD i default).ev.op (X.getD i default).ev.arg = 0 ∧ b = -1) ∨ (yO d (X.getD i default).ev.typ (X.getD i default).ev.field (X.getD i default).ev.op (X.getD i default).ev.arg = 0 ∧ JB d X i 0 b)
theorem JR.lt {d : Dcl} {X : List Ent} {i : Nat} {b : Int} (h : JR d X i b) : -1 ≤ b ∧ b < (i : Int) := by
  rcases h with ⟨_, rfl⟩ | ⟨_, ⟨rfl, _⟩ | ⟨j, rfl, _, h2, _⟩⟩ <;> constructor <;> omega
end Go.Proofs.YtlblilbmpdejgaaDoor
/- Types whose fields lie in rows of their own, apart from each other. -/
namespace Go.Proofs.YtlblilbmpdejgaaDoor
open Go.RowKit
structure TypS where
  v : Value
  deriving Inhabited
structure TypS.Ok (e : TypS) : Prop where
  one : e.v.oneCell' = true
def TypS.cells (e : TypS) : List Value := [e.v]
instance : Rep TypS where
  k := 1
  rd _ _ cs x := cs = x.cells ∧ x.Ok
  bytes := 24
  bpos := by decide
  kpos := by decide
  len h := by rw [h.1]; rfl
  one h := by rw [h.1]; exact yj ⟨h.2.one, trivial⟩
  mono h _ := h
instance : Flat TypS := ⟨fun h => h⟩
def FldRows (Ti : TypeId) : List TypS → List Typ → List HP
  | s :: sh, c :: l => RowE (α := Fld) own Ti s.v c.fields :: FldRows Ti sh l
  | _, _ => []
theorem FldRows.get {Ti : TypeId} : ∀ {sh : List TypS} {l : List Typ} {i : Nat}, i < sh.length → i < l.length → (FldRows Ti sh l)[i]? = some (RowE (α := Fld) own Ti (sh.getD i default).v (l.getD i default).fields)
  | _ :: _, _ :: _, 0, _, _ => rfl
  | _ :: _, _ :: _, i + 1, h1, h2 => by
    have := FldRows.get (Ti := Ti) (i := i) (by simpa using h1) (by simpa using h2)
    simpa [FldRows] using this
  | [], _, i, h, _ => absurd h (Nat.not_lt_zero i)
  | _ :: _, [], i, _, h => absurd h (Nat.not_lt_zero i)
theorem FldRows.len {Ti : TypeId} : ∀ {sh : List TypS} {l : List Typ}, sh.length = l.length → (FldRows Ti sh l).length = l.length
  | [], [], _ => rfl
  | _ :: _, _ :: _, h => by simpa [FldRows] using FldRows.len (Ti := Ti) (by simpa using h)
  | [], _ :: _, h => by simp at h
  | _ :: _, [], h => by simp at h
theorem FldRows.set {Ti : TypeId} : ∀ {sh : List TypS} {l : List Typ} (i : Nat) (c : Typ), FldRows Ti sh (l.set i c) = if i < sh.length ∧ i < l.length then (FldRows Ti sh l).set i (RowE (α := Fld) own Ti (sh.getD i default).v c.fields) else FldRows Ti sh l
  | [], [], _, _ => by simp [FldRows]
  | _ :: _, _ :: _, 0, _ => by simp [FldRows]
  | _ :: sh, _ :: l, i + 1, c => by
    simp only [List.set_cons_succ, FldRows]
    rw [FldRows.set i c]
    by_cases h : i < sh.length ∧ i < l.length
    · rw [if_pos h, if_pos (by simpa using h)]; simp
    · rw [if_neg h, if_neg (by simpa using h)]
  | [], _ :: _, i, _ => by cases i <;> simp [FldRows]
  | _ :: _, [], _, _ => by simp [FldRows]
theorem FldRows.snoc {Ti : TypeId} : ∀ {sh : List TypS} {l : List Typ} (s : TypS) (c : Typ), sh.length = l.length → FldRows Ti (sh ++ [s]) (l ++ [c]) = FldRows Ti sh l ++ [RowE (α := Fld) own Ti s.v c.fields]
  | [], [], _, _, _ => rfl
  | _ :: sh, _ :: l, s, c, h => by simp only [List.cons_append, FldRows]; rw [FldRows.snoc s c (by simpa using h)]
  | [], _ :: _, _, _, h => by simp at h
  | _ :: _, [], _, _, h => by simp at h
section
variable {G : Nat → Prop} {W w : World} {As : List HP} {T Ti : TypeId} {v : Value} {sh : List TypS} {l : List Typ}
def TypW (v : Value) (T Ti : TypeId) (l : List Typ) : HP := Ex1 fun sh : List TypS => Vr (sh.length = l.length) (Star [RowE (α := TypS) own T v sh, Star (FldRows Ti sh l)])
theorem TypW.open (h : Sep G W (TypW v T Ti l :: As) w) : ∃ sh : List TypS, sh.length = l.length ∧ Sep G W (RowE (α := TypS) own T v sh :: Star (FldRows Ti sh l) :: As) w := by
  obtain ⟨sh, h1⟩ := h.openEx
  obtain ⟨h2, h3⟩ := h1.openAnd
  exact ⟨sh, h2, h3.openStar⟩
theorem TypW.mk (h : Sep G W (RowE (α := TypS) own T v sh :: Star (FldRows Ti sh l) :: As) w) (hn : sh.length = l.length) : Sep G W (TypW v T Ti l :: As) w :=
  Sep.closeEx (A := fun sh : List TypS => Vr (sh.length = l.length) (Star [RowE (α := TypS) own T v sh, Star (FldRows Ti sh l)])) sh (Sep.closeAnd hn (Sep.closeStar (Bs := [RowE (α := TypS) own T v sh, Star (FldRows Ti sh l)]) h))
theorem TypW.rowP {f : Nat → Prop} (h : (TypW v T Ti l).p w f) : (RowE (α := Typ) own T v l).p w f := by
  obtain ⟨sh, hlen, hA⟩ := h
  obtain ⟨fs, q1, q2⟩ := hA
  obtain ⟨⟨css, hE, hown, hrow, hsm⟩, hf0⟩ := q1 0 _ rfl
  obtain ⟨hSt, hf1⟩ := q1 1 _ rfl
  have q2' := q2 0 1 (by simp) (by simp) (by simp)
  have hcl := hE.length
  refine ⟨css, EP.of_at (by omega) (fun i h1 h2 => ?_), by rw [← hlen]; exact hown, fun b hb => (hf0 b (hrow b hb)).1, by rw [← hlen]; exact hsm⟩
  have hs : i < sh.length := by omega
  have hcs : css[i] = sh[i].cells := (EP.at2 hE i h1 hs).1
  have hr : (RowE (α := Fld) own Ti (sh.getD i default).v (l.getD i default).fields).p w (fs 1) := Star.at_ hSt (FldRows.get hs h2)
  have hsoft := RowE.soft hr
  rw [zk _ hs, zk _ h2] at hsoft
  refine ⟨sh[i].v, ?_, hsoft.mono (fun b hb hlt => ⟨rfl, ⟨(hf1 b hb.1).1, fun e => q2' b (hrow b e) hb.1⟩, hb.2⟩), ⟨⟩⟩
  rw [hcs]; rfl
theorem Sep.typSl (h : Sep G W As w) {i : Nat} (hi : As[i]? = some (TypW v T Ti l)) : IsSl v l.length := by
  obtain ⟨f, h1, _⟩ := h.get hi
  exact RowE.isSl (TypW.rowP h1)
theorem TypW.close {i : Nat} {c : Typ} (hlen : sh.length = l.length) (hi : i < l.length)
    (h : Sep G W (RowE (α := Fld) own Ti (sh.getD i default).v c.fields :: Star ((FldRows Ti sh l).set i Emp) :: RowE (α := TypS) own T v sh :: As) w) : Sep G W (TypW v T Ti (l.set i c) :: As) w := by
  have h1 := h.putStar (i := i) (by rw [List.length_set, FldRows.len hlen]; exact hi)
  have e := FldRows.set (Ti := Ti) (sh := sh) (l := l) i c
  rw [if_pos ⟨by omega, hi⟩] at e
  rw [List.set_set, ← e] at h1
  exact TypW.mk (h1.sel 2 [1, 0] (Nat.le_add_left _ _) rfl rfl) (by rw [List.length_set]; exact hlen)
theorem TypW.take {i : Nat} (hlen : sh.length = l.length) (hi : i < l.length) (h : Sep G W (RowE (α := TypS) own T v sh :: Star (FldRows Ti sh l) :: As) w) : Sep G W (RowE (α := Fld) own Ti (sh.getD i default).v (l.getD i default).fields :: Star ((FldRows Ti sh l).set i Emp) :: RowE (α := TypS) own T v sh :: As) w := by
  have h1 : Sep G W (Star (FldRows Ti sh l) :: RowE (α := TypS) own T v sh :: As) w := h.sel 2 [1, 0] (Nat.le_add_left _ _) rfl rfl
  exact h1.takeStar (FldRows.get (by omega) hi)
theorem TypW.snoc {vf : Value} {c : Typ} (hlen : sh.length = l.length) (h : Sep G W (RowE (α := TypS) own T v (sh ++ [⟨vf⟩]) :: Star (FldRows Ti sh l) :: RowE (α := Fld) own Ti vf c.fields :: As) w) : Sep G W (TypW v T Ti (l ++ [c]) :: As) w := by
  have h1 : Sep G W (RowE (α := Fld) own Ti vf c.fields :: Star (FldRows Ti sh l) :: RowE (α := TypS) own T v (sh ++ [⟨vf⟩]) :: As) w := h.sel 3 [2, 1, 0] (Nat.le_add_left _ _) rfl rfl
  have h2 := h1.snocStar
  rw [← FldRows.snoc ⟨vf⟩ c hlen] at h2
  exact TypW.mk (h2.sel 2 [1, 0] (Nat.le_add_left _ _) rfl rfl) (by rw [List.length_append, List.length_append, hlen]; rfl)
theorem TypW.nil (h : Sep G W As w) : Sep G W (TypW (.slice none 0 0) T Ti [] :: As) w := TypW.mk (sh := []) (h.nilStar.rowNil own T) rfl
end
end Go.Proofs.YtlblilbmpdejgaaDoor
