/- The document's step: up to the switch. -/
import Derived.Test.YtiemingpbommeaaGreatDoorHx
namespace Go.Proofs.YtiemingpbommeaaGreatDoor
open Go Go.RowKit
noncomputable section
set_option linter.unusedVariables false
set_option linter.unusedSimpArgs false
/-- where the walk stands ahead of the switch -/
structure Mid (u : World) (sl : Value) (M : List Pg) (q : Int) (X : List Nat) (pc i d a b : Nat) (n : Int) (nm : List UInt8) (l : Int) (o f3 f7 A Bv im p4 G z O : Nat) (W6 : World) : Prop where
  hM2 : M.length ≤ 4096
  hp : pc < 1099511627776
  h4p : pc % 4 = 0
  hi : i < 64
  hd : d < 32
  ha : a < 32
  hb : b < 32
  Hs : Hid (stepN M X pc = execN M (X.set 0 0) pc i d a b n)
  Hrow : Hid (formAt i = (nm, l, (o : Int), (f3 : Int), (f7 : Int)))
  HX0 : Hid (Regs (X.set 0 0))
  HG : Hid (Good M)
  HS : Hid (∀ W, SpAt u W sl M)
  hA : A < 18446744073709551616
  hBv : Bv < 18446744073709551616
  HAe : Hid (getR (X.set 0 0) a = A)
  HBe : Hid (getR (X.set 0 0) b = Bv)
  Him : Hid (u64N n = im)
  himl : im < 18446744073709551616
  hp4i : (pc : Int) + 4 = (p4 : Int)
  hp4l : p4 < 18446744073709551616
  hp4m : (p4 : Int) % 4 = 0
  Hp4 : Hid (adr pc 4 = p4)
  I6 : Hid (StepI u sl q (X.set 0 0) pc W6)
  HK6 : Hid (W6.heap[z]? = some (.cells #[.string ⟨nm.toArray⟩, .string ⟨#[letterB l]⟩, .int .u32 o, .int .u32 f3, .int .u32 f7] 120 (0, 0)))
  HT6 : Hid (W6.heap[G]? = some (.cells #[.int .i64 i, .int .i64 d, .int .i64 a, .int .i64 b, .int .i64 n] 116 (0, 0)))
  OF : Hid (St7 W6 O (X.set 0 0) pc)
  hO : u.heap.size + 4 ≤ O
  hGO : G ≠ O
  hzO : z ≠ O
  lG : G < W6.heap.size
  lz : z < W6.heap.size
  lS : u.heap.size + 1 < W6.heap.size
  lO : O < W6.heap.size
  cpc : W6.cell? ⟨u.heap.size + 1, 32, none⟩ = some (.int .u64 pc)
  jd : W6.cell? ⟨G, 1, none⟩ = some (.int .i64 d)
  kn : W6.cell? ⟨z, 0, none⟩ = some (.string ⟨nm.toArray⟩)
  kl : W6.cell? ⟨z, 1, none⟩ = some (.string ⟨#[letterB l]⟩)
  ko : W6.cell? ⟨z, 2, none⟩ = some (.int .u32 o)
def FrameC (v2 v3 v4 v5 v12 : Value) (a : Act) : Prop := ∃ v14 v15 v16 v17 v18 v19 v20 : Value, FrameOf v2 v3 v4 v5 v12 v14 v15 v16 v17 v18 v19 v20 a
def FrameD (v2 v3 v4 v5 v12 v14 : Value) (a : Act) : Prop := ∃ v15 v16 v17 v18 v19 v20 : Value, FrameOf v2 v3 v4 v5 v12 v14 v15 v16 v17 v18 v19 v20 a
set_option maxHeartbeats 4000000 in
set_option maxRecDepth 100000 in
theorem refStep_main1 (sl : Value) (M : List Pg) (q : Int) (X : List Nat) (pc : Nat) (u W1 : World) (act : Act) (hI : StepI u sl q (X.set 0 0) pc W1) (hF : FrameA (.pointer (some ⟨u.heap.size, 0, none⟩)) (.pointer (some ⟨u.heap.size + 1, 0, none⟩)) (.pointer (some ⟨u.heap.size + 2, 0, none⟩)) (.pointer (some ⟨u.heap.size + 3, 0, none⟩)) act) (hX : Regs X) (hS : ∀ W, SpAt u W sl M) (hG : Good M) (hp : pc < 1099511627776) (v f : Nat) (hv : v < 4294967296) (hf : fetchN M pc = (v, 0, f)) (i d a b : Nat) (n : Int) (hdec : decN v = (((i : Int), (d : Int), (a : Int), (b : Int), n), true)) (R : Ending → World → Prop)
    (k : ∀ G W act, StepI u sl q (X.set 0 0) pc W → W.heap[G]? = some (.cells #[.int .i64 i, .int .i64 d, .int .i64 a, .int .i64 b, .int .i64 n] 116 (0, 0)) → FrameC (.pointer (some ⟨u.heap.size, 0, none⟩)) (.pointer (some ⟨u.heap.size + 1, 0, none⟩)) (.pointer (some ⟨u.heap.size + 2, 0, none⟩)) (.pointer (some ⟨u.heap.size + 3, 0, none⟩)) (.pointer (some ⟨G, 0, none⟩)) act → (stepC 7).wp Tryz.prog (bodyPost Tryz.prog Tryz.f18 R) act W) :
    (stepC 2).wp Tryz.prog (bodyPost Tryz.prog Tryz.f18 R) act W1 := by
  have Hf := hid hf
  have Hde := hid (refDecode_lit v i d a b n true hv hdec)
  clear hf hdec
  have hpi : ¬ (1099511627776 : Int) ≤ (pc : Int) := by omega
  have hp64 : pc < 18446744073709551616 := by omega
  have HG := hid hG
  have Hk := hid k
  clear hG k
  have HX0 := hid (hX.set 0 0 (by decide))
  have I1 := hid hI
  have HS := hid hS
  clear hX hI hS
  obtain ⟨_, _, _, _, _, _, _, _, hF⟩ := hF
  unfold FrameOf at hF
  iterate 71 (obtain ⟨_, hF⟩ := hF)
  subst hF
  conv => arg 2; whnf
  have cpc := I1.out.b3.cellPc HX0.out
  have hfe := fun (W : World) (hb : Below u.heap.size u W) => refFetch_any 0 sl M q pc W ((HS.out W).at hb) HG.out hp64
  rw [Hf.out] at hfe
  have Hfe := hid hfe
  clear hfe
  have b0 : W1.cell? ⟨u.heap.size, 0, none⟩ = some sl := by rw [cell_of_row W1 _ _ _ _ _ I1.out.b2]; rfl
  have b1 : W1.cell? ⟨u.heap.size, 1, none⟩ = some (.int .i64 q) := by rw [cell_of_row W1 _ _ _ _ _ I1.out.b2]; rfl
  have l2 := blk_lt' I1.out.b2
  have l3 := blk_lt' I1.out.b3
  go_wp2_with fail
  refine (Hfe.out W1 I1.out.b).mono ?_
  rintro e W2 ⟨rfl, hb2⟩
  have I2 := hid (I1.out.below hb2)
  clear hb2 I1 b0 b1 cpc l2 l3
  go_wp2_with fail
  refine (Hde.out W2).mono ?_
  rintro e W3 ⟨rfl, hb3⟩
  have I3 := hid (I2.out.below (hb3.alloc hb3.size (.cells #[.int .i64 i, .int .i64 d, .int .i64 a, .int .i64 b, .int .i64 n] 116)))
  clear hb3 I2
  go_upto_region 8 with (fail)
  rename_i K1 hK1 K2 hK2
  have hK3 : ∀ a' W, (∃ G, StepI u sl q (X.set 0 0) pc W ∧ W.heap[G]? = some (.cells #[.int .i64 i, .int .i64 d, .int .i64 a, .int .i64 b, .int .i64 n] 116 (0, 0)) ∧ FrameC (.pointer (some ⟨u.heap.size, 0, none⟩)) (.pointer (some ⟨u.heap.size + 1, 0, none⟩)) (.pointer (some ⟨u.heap.size + 2, 0, none⟩)) (.pointer (some ⟨u.heap.size + 3, 0, none⟩)) (.pointer (some ⟨G, 0, none⟩)) a') → K1 a' W := fun a' W hh => by obtain ⟨G, h1, h2, h3⟩ := hh; exact hK1 _ _ (Hk.out _ _ _ h1 h2 h3)
  clear hK1 Hk
  have HK3 := hid hK3
  clear hK3
  go_wp2_with fail
  refine HK3.out _ _ ⟨W3.heap.size, I3.out, heap_alloc_new _ _, ?_⟩
  unfold FrameC FrameOf
  (repeat apply Exists.intro); rfl
set_option maxHeartbeats 4000000 in
set_option maxRecDepth 100000 in
theorem refStep_main2 (sl : Value) (q : Int) (X0 : List Nat) (pc : Nat) (u w : World) (act : Act) (i d a b : Nat) (n : Int) (nm : List UInt8) (l : Int) (o f3 f7 G : Nat) (hI : StepI u sl q X0 pc w) (hT : w.heap[G]? = some (.cells #[.int .i64 i, .int .i64 d, .int .i64 a, .int .i64 b, .int .i64 n] 116 (0, 0))) (hF : FrameC (.pointer (some ⟨u.heap.size, 0, none⟩)) (.pointer (some ⟨u.heap.size + 1, 0, none⟩)) (.pointer (some ⟨u.heap.size + 2, 0, none⟩)) (.pointer (some ⟨u.heap.size + 3, 0, none⟩)) (.pointer (some ⟨G, 0, none⟩)) act) (hi : i < 64) (Hrow : Hid (formAt i = (nm, l, (o : Int), (f3 : Int), (f7 : Int)))) (R : Ending → World → Prop)
    (k : ∀ z W act, StepI u sl q X0 pc W → W.heap[z]? = some (.cells #[.string ⟨nm.toArray⟩, .string ⟨#[letterB l]⟩, .int .u32 o, .int .u32 f3, .int .u32 f7] 120 (0, 0)) → W.heap[G]? = some (.cells #[.int .i64 i, .int .i64 d, .int .i64 a, .int .i64 b, .int .i64 n] 116 (0, 0)) → FrameD (.pointer (some ⟨u.heap.size, 0, none⟩)) (.pointer (some ⟨u.heap.size + 1, 0, none⟩)) (.pointer (some ⟨u.heap.size + 2, 0, none⟩)) (.pointer (some ⟨u.heap.size + 3, 0, none⟩)) (.pointer (some ⟨G, 0, none⟩)) (.pointer (some ⟨z, 0, none⟩)) act → (stepC 8).wp Tryz.prog (bodyPost Tryz.prog Tryz.f18 R) act W) :
    (stepC 7).wp Tryz.prog (bodyPost Tryz.prog Tryz.f18 R) act w := by
  have Hk := hid k
  have I3 := hid hI
  have Hi := hid hi
  clear k hI
  obtain ⟨_, _, _, _, _, _, _, hF⟩ := hF
  unfold FrameOf at hF
  iterate 71 (obtain ⟨_, hF⟩ := hF)
  subst hF
  conv => arg 2; whnf
  have HT : Hid (w.heap[G]? = some (.cells #[.int .i64 i, .int .i64 d, .int .i64 a, .int .i64 b, .int .i64 n] 116 (0, 0))) := hid hT
  have HB : Hid (Below w.heap.size w w) := hid (Below.refl _ _)
  have hWG : G < w.heap.size := blk_lt' hT
  clear hT
  go_upto_region 10 with (fail)
  rename_i K1 hK1
  have hK3 : ∀ a' W, (∃ z, StepI u sl q X0 pc W ∧ W.heap[z]? = some (.cells #[.string ⟨nm.toArray⟩, .string ⟨#[letterB l]⟩, .int .u32 o, .int .u32 f3, .int .u32 f7] 120 (0, 0)) ∧ W.heap[G]? = some (.cells #[.int .i64 i, .int .i64 d, .int .i64 a, .int .i64 b, .int .i64 n] 116 (0, 0)) ∧ FrameD (.pointer (some ⟨u.heap.size, 0, none⟩)) (.pointer (some ⟨u.heap.size + 1, 0, none⟩)) (.pointer (some ⟨u.heap.size + 2, 0, none⟩)) (.pointer (some ⟨u.heap.size + 3, 0, none⟩)) (.pointer (some ⟨G, 0, none⟩)) (.pointer (some ⟨z, 0, none⟩)) a') → K1 a' W := fun a' W hh => by obtain ⟨z, h1, h2, h3, h4⟩ := hh; exact hK1 _ _ (Hk.out _ _ _ h1 h2 h3 h4)
  clear hK1 Hk
  have HK3 := hid hK3
  clear hK3
  dsimp only
  go_cut [14] from 61 to 65 (fun v14 wc => TameCut w G #[.int .i64 i, .int .i64 d, .int .i64 a, .int .i64 b, .int .i64 n] #[.string ⟨nm.toArray⟩, .string ⟨#[letterB l]⟩, .int .u32 (o : Nat), .int .u32 (f3 : Nat), .int .u32 (f7 : Nat)] v14 wc)
  case first =>
    clear I3 HK3
    refine wp_region_any (by kernel_rfl) ?_
    change wpAny _ _ _ _ _ _ _ (World.drew w)
    have HT' := HT
    have HB' := HB
    have HT : Hid (w.drew.heap[G]? = some (.cells #[.int .i64 i, .int .i64 d, .int .i64 a, .int .i64 b, .int .i64 n] 116 (0, 0))) := hid HT'.out
    have HB : Hid (Below w.heap.size w w.drew) := hid HB'.out.drew
    obtain ⟨D, hD⟩ : ∃ D, w.drew = D := ⟨_, rfl⟩
    rw [hD] at HT HB ⊢
    clear hD HT' HB'
    refine wpAny_take (i := 1) (v := .pointer (some ⟨G, 0, none⟩)) rfl (by kernel_rfl) (by kernel_rfl) (by kernel_rfl) (fun _ _ _ h => h) (Or.inl ⟨by rfl, fun w => by go_simp⟩) ?_
    simp only [ps]
    refine any3 (i := 0) (j := 2) (k := 5) (by kernel_rfl) ?_ ?_ ?_
    · refine wpOp_callE (fun v W' => ∃ g, v = .slice (some ⟨g, 0, none⟩) 64 64 ∧ W'.heap[g]? = some (.cells kindCells 120 (0, 0)) ∧ Below D.heap.size D W') rfl rfl (by kernel_rfl) (kinds_of _) ?_
      rintro v W1 ⟨g, rfl, hk, hbk⟩
      simp only [ps]
      have HT := hid ((hbk.block _ (blk_lt' HT.out)).trans HT.out)
      have HB := hid (HB.out.trans (hbk.mono HB.out.size))
      have HK := hid hk
      clear hk hbk
      refine any2 (i := 2) (j := 5) (by kernel_rfl) ?_ ?_
      · have c0 := icell HT
        refine wpOp_val (w' := W1) (v := .int .i64 i) rfl rfl (by go_simp) ?_
        simp only [ps]
        clear c0
        refine any2 (i := 3) (j := 5) (by kernel_rfl) ?_ ?_
        · refine wpOp_val (w' := W1) (v := .pointer (some ⟨g, i * 5, none⟩)) rfl rfl (by go_simp; intro hh; omega) ?_
          simp only [ps]
          refine any2 (i := 4) (j := 5) (by kernel_rfl) ?_ ?_
          · obtain ⟨k0, k1, k2, k3, k4⟩ := kcells HK hi Hrow.out
            refine wpOp_val (w' := W1) (v := .agg #[.string ⟨nm.toArray⟩, .string ⟨#[letterB l]⟩, .int .u32 (o : Nat), .int .u32 (f3 : Nat), .int .u32 (f7 : Nat)]) rfl rfl (by go_simp) ?_
            simp only [ps]
            clear k0 k1 k2 k3 k4
            refine any1 (i := 5) (by kernel_rfl) ?_
            refine wpOp_val (w' := W1.alloc (.cells #[.string ⟨#[]⟩, .string ⟨#[]⟩, .int .u32 0, .int .u32 0, .int .u32 0] 120)) (v := .pointer (some ⟨W1.heap.size, 0, none⟩)) rfl rfl (by kernel_rfl) ?_
            simp only [ps]
            have HZ := hid (heap_alloc_new W1 (.cells #[.string ⟨#[]⟩, .string ⟨#[]⟩, .int .u32 0, .int .u32 0, .int .u32 0] 120))
            have HT := hid ((Below.heap_alloc W1 (.cells #[.string ⟨#[]⟩, .string ⟨#[]⟩, .int .u32 0, .int .u32 0, .int .u32 0] 120) _ (blk_lt' HT.out)).trans HT.out)
            have hzw : w.heap.size ≤ W1.heap.size := HB.out.size
            have HK := hid ((Below.heap_alloc W1 (.cells #[.string ⟨#[]⟩, .string ⟨#[]⟩, .int .u32 0, .int .u32 0, .int .u32 0] 120) _ (blk_lt' HK.out)).trans HK.out)
            have HB := hid (HB.out.alloc HB.out.size (.cells #[.string ⟨#[]⟩, .string ⟨#[]⟩, .int .u32 0, .int .u32 0, .int .u32 0] 120))
            obtain ⟨z, hz⟩ : ∃ z, W1.heap.size = z := ⟨_, rfl⟩
            obtain ⟨W5, hW⟩ : ∃ W, W1.alloc (.cells #[.string ⟨#[]⟩, .string ⟨#[]⟩, .int .u32 0, .int .u32 0, .int .u32 0] 120) = W := ⟨_, rfl⟩
            rw [hz] at HZ hzw ⊢
            rw [hW] at HZ HT HK HB ⊢
            clear hz hW
            refine any1 (i := 6) (by kernel_rfl) ?_
            refine wpOp_store_row rfl rfl 120 (.tmp 14) (.tmp 65) rfl z #[.string ⟨nm.toArray⟩, .string ⟨#[letterB l]⟩, .int .u32 (o : Nat), .int .u32 (f3 : Nat), .int .u32 (f7 : Nat)] rfl rfl 120 _ HZ.out infoKind rfl (kind_one ..) ?_
            simp only [ps]
            refine ⟨by kernel_rfl, ?_⟩
            go_wp2_with fail
            go_meet
            case rel => exact tame_met HT HZ hzw HB #[.string ⟨nm.toArray⟩, .string ⟨#[letterB l]⟩, .int .u32 (o : Nat), .int .u32 (f3 : Nat), .int .u32 (f7 : Nat)]
          · refine wpOp_val (w' := W1.alloc (.cells #[.string ⟨#[]⟩, .string ⟨#[]⟩, .int .u32 0, .int .u32 0, .int .u32 0] 120)) (v := .pointer (some ⟨W1.heap.size, 0, none⟩)) rfl rfl (by kernel_rfl) ?_
            simp only [ps]
            have HZ := hid (heap_alloc_new W1 (.cells #[.string ⟨#[]⟩, .string ⟨#[]⟩, .int .u32 0, .int .u32 0, .int .u32 0] 120))
            have HT := hid ((Below.heap_alloc W1 (.cells #[.string ⟨#[]⟩, .string ⟨#[]⟩, .int .u32 0, .int .u32 0, .int .u32 0] 120) _ (blk_lt' HT.out)).trans HT.out)
            have hzw : w.heap.size ≤ W1.heap.size := HB.out.size
            have HK := hid ((Below.heap_alloc W1 (.cells #[.string ⟨#[]⟩, .string ⟨#[]⟩, .int .u32 0, .int .u32 0, .int .u32 0] 120) _ (blk_lt' HK.out)).trans HK.out)
            have HB := hid (HB.out.alloc HB.out.size (.cells #[.string ⟨#[]⟩, .string ⟨#[]⟩, .int .u32 0, .int .u32 0, .int .u32 0] 120))
            obtain ⟨z, hz⟩ : ∃ z, W1.heap.size = z := ⟨_, rfl⟩
            obtain ⟨W7, hW⟩ : ∃ W, W1.alloc (.cells #[.string ⟨#[]⟩, .string ⟨#[]⟩, .int .u32 0, .int .u32 0, .int .u32 0] 120) = W := ⟨_, rfl⟩
            rw [hz] at HZ hzw ⊢
            rw [hW] at HZ HT HK HB ⊢
            clear hz hW
            refine any1 (i := 4) (by kernel_rfl) ?_
            obtain ⟨k0, k1, k2, k3, k4⟩ := kcells HK hi Hrow.out
            refine wpOp_val (w' := W7) (v := .agg #[.string ⟨nm.toArray⟩, .string ⟨#[letterB l]⟩, .int .u32 (o : Nat), .int .u32 (f3 : Nat), .int .u32 (f7 : Nat)]) rfl rfl (by go_simp) ?_
            simp only [ps]
            clear k0 k1 k2 k3 k4
            refine any1 (i := 6) (by kernel_rfl) ?_
            refine wpOp_store_row rfl rfl 120 (.tmp 14) (.tmp 65) rfl z #[.string ⟨nm.toArray⟩, .string ⟨#[letterB l]⟩, .int .u32 (o : Nat), .int .u32 (f3 : Nat), .int .u32 (f7 : Nat)] rfl rfl 120 _ HZ.out infoKind rfl (kind_one ..) ?_
            simp only [ps]
            refine ⟨by kernel_rfl, ?_⟩
            go_wp2_with fail
            go_meet
            case rel => exact tame_met HT HZ hzw HB #[.string ⟨nm.toArray⟩, .string ⟨#[letterB l]⟩, .int .u32 (o : Nat), .int .u32 (f3 : Nat), .int .u32 (f7 : Nat)]
        · refine wpOp_val (w' := W1.alloc (.cells #[.string ⟨#[]⟩, .string ⟨#[]⟩, .int .u32 0, .int .u32 0, .int .u32 0] 120)) (v := .pointer (some ⟨W1.heap.size, 0, none⟩)) rfl rfl (by kernel_rfl) ?_
          simp only [ps]
          have HZ := hid (heap_alloc_new W1 (.cells #[.string ⟨#[]⟩, .string ⟨#[]⟩, .int .u32 0, .int .u32 0, .int .u32 0] 120))
          have HT := hid ((Below.heap_alloc W1 (.cells #[.string ⟨#[]⟩, .string ⟨#[]⟩, .int .u32 0, .int .u32 0, .int .u32 0] 120) _ (blk_lt' HT.out)).trans HT.out)
          have hzw : w.heap.size ≤ W1.heap.size := HB.out.size
          have HK := hid ((Below.heap_alloc W1 (.cells #[.string ⟨#[]⟩, .string ⟨#[]⟩, .int .u32 0, .int .u32 0, .int .u32 0] 120) _ (blk_lt' HK.out)).trans HK.out)
          have HB := hid (HB.out.alloc HB.out.size (.cells #[.string ⟨#[]⟩, .string ⟨#[]⟩, .int .u32 0, .int .u32 0, .int .u32 0] 120))
          obtain ⟨z, hz⟩ : ∃ z, W1.heap.size = z := ⟨_, rfl⟩
          obtain ⟨W10, hW⟩ : ∃ W, W1.alloc (.cells #[.string ⟨#[]⟩, .string ⟨#[]⟩, .int .u32 0, .int .u32 0, .int .u32 0] 120) = W := ⟨_, rfl⟩
          rw [hz] at HZ hzw ⊢
          rw [hW] at HZ HT HK HB ⊢
          clear hz hW
          refine any1 (i := 3) (by kernel_rfl) ?_
          refine wpOp_val (w' := W10) (v := .pointer (some ⟨g, i * 5, none⟩)) rfl rfl (by go_simp; intro hh; omega) ?_
          simp only [ps]
          refine any1 (i := 4) (by kernel_rfl) ?_
          obtain ⟨k0, k1, k2, k3, k4⟩ := kcells HK hi Hrow.out
          refine wpOp_val (w' := W10) (v := .agg #[.string ⟨nm.toArray⟩, .string ⟨#[letterB l]⟩, .int .u32 (o : Nat), .int .u32 (f3 : Nat), .int .u32 (f7 : Nat)]) rfl rfl (by go_simp) ?_
          simp only [ps]
          clear k0 k1 k2 k3 k4
          refine any1 (i := 6) (by kernel_rfl) ?_
          refine wpOp_store_row rfl rfl 120 (.tmp 14) (.tmp 65) rfl z #[.string ⟨nm.toArray⟩, .string ⟨#[letterB l]⟩, .int .u32 (o : Nat), .int .u32 (f3 : Nat), .int .u32 (f7 : Nat)] rfl rfl 120 _ HZ.out infoKind rfl (kind_one ..) ?_
          simp only [ps]
          refine ⟨by kernel_rfl, ?_⟩
          go_wp2_with fail
          go_meet
          case rel => exact tame_met HT HZ hzw HB #[.string ⟨nm.toArray⟩, .string ⟨#[letterB l]⟩, .int .u32 (o : Nat), .int .u32 (f3 : Nat), .int .u32 (f7 : Nat)]
      · refine wpOp_val (w' := W1.alloc (.cells #[.string ⟨#[]⟩, .string ⟨#[]⟩, .int .u32 0, .int .u32 0, .int .u32 0] 120)) (v := .pointer (some ⟨W1.heap.size, 0, none⟩)) rfl rfl (by kernel_rfl) ?_
        simp only [ps]
        have HZ := hid (heap_alloc_new W1 (.cells #[.string ⟨#[]⟩, .string ⟨#[]⟩, .int .u32 0, .int .u32 0, .int .u32 0] 120))
        have HT := hid ((Below.heap_alloc W1 (.cells #[.string ⟨#[]⟩, .string ⟨#[]⟩, .int .u32 0, .int .u32 0, .int .u32 0] 120) _ (blk_lt' HT.out)).trans HT.out)
        have hzw : w.heap.size ≤ W1.heap.size := HB.out.size
        have HK := hid ((Below.heap_alloc W1 (.cells #[.string ⟨#[]⟩, .string ⟨#[]⟩, .int .u32 0, .int .u32 0, .int .u32 0] 120) _ (blk_lt' HK.out)).trans HK.out)
        have HB := hid (HB.out.alloc HB.out.size (.cells #[.string ⟨#[]⟩, .string ⟨#[]⟩, .int .u32 0, .int .u32 0, .int .u32 0] 120))
        obtain ⟨z, hz⟩ : ∃ z, W1.heap.size = z := ⟨_, rfl⟩
        obtain ⟨W14, hW⟩ : ∃ W, W1.alloc (.cells #[.string ⟨#[]⟩, .string ⟨#[]⟩, .int .u32 0, .int .u32 0, .int .u32 0] 120) = W := ⟨_, rfl⟩
        rw [hz] at HZ hzw ⊢
        rw [hW] at HZ HT HK HB ⊢
        clear hz hW
        refine any1 (i := 2) (by kernel_rfl) ?_
        have c0 := icell HT
        refine wpOp_val (w' := W14) (v := .int .i64 i) rfl rfl (by go_simp) ?_
        simp only [ps]
        clear c0
        refine any1 (i := 3) (by kernel_rfl) ?_
        refine wpOp_val (w' := W14) (v := .pointer (some ⟨g, i * 5, none⟩)) rfl rfl (by go_simp; intro hh; omega) ?_
        simp only [ps]
        refine any1 (i := 4) (by kernel_rfl) ?_
        obtain ⟨k0, k1, k2, k3, k4⟩ := kcells HK hi Hrow.out
        refine wpOp_val (w' := W14) (v := .agg #[.string ⟨nm.toArray⟩, .string ⟨#[letterB l]⟩, .int .u32 (o : Nat), .int .u32 (f3 : Nat), .int .u32 (f7 : Nat)]) rfl rfl (by go_simp) ?_
        simp only [ps]
        clear k0 k1 k2 k3 k4
        refine any1 (i := 6) (by kernel_rfl) ?_
        refine wpOp_store_row rfl rfl 120 (.tmp 14) (.tmp 65) rfl z #[.string ⟨nm.toArray⟩, .string ⟨#[letterB l]⟩, .int .u32 (o : Nat), .int .u32 (f3 : Nat), .int .u32 (f7 : Nat)] rfl rfl 120 _ HZ.out infoKind rfl (kind_one ..) ?_
        simp only [ps]
        refine ⟨by kernel_rfl, ?_⟩
        go_wp2_with fail
        go_meet
        case rel => exact tame_met HT HZ hzw HB #[.string ⟨nm.toArray⟩, .string ⟨#[letterB l]⟩, .int .u32 (o : Nat), .int .u32 (f3 : Nat), .int .u32 (f7 : Nat)]
    · have c0 := icell HT
      refine wpOp_val (w' := D) (v := .int .i64 i) rfl rfl (by go_simp) ?_
      simp only [ps]
      clear c0
      refine any2 (i := 0) (j := 5) (by kernel_rfl) ?_ ?_
      · refine wpOp_callE (fun v W' => ∃ g, v = .slice (some ⟨g, 0, none⟩) 64 64 ∧ W'.heap[g]? = some (.cells kindCells 120 (0, 0)) ∧ Below D.heap.size D W') rfl rfl (by kernel_rfl) (kinds_of _) ?_
        rintro v W20 ⟨g, rfl, hk, hbk⟩
        simp only [ps]
        have HT := hid ((hbk.block _ (blk_lt' HT.out)).trans HT.out)
        have HB := hid (HB.out.trans (hbk.mono HB.out.size))
        have HK := hid hk
        clear hk hbk
        refine any2 (i := 3) (j := 5) (by kernel_rfl) ?_ ?_
        · refine wpOp_val (w' := W20) (v := .pointer (some ⟨g, i * 5, none⟩)) rfl rfl (by go_simp; intro hh; omega) ?_
          simp only [ps]
          refine any2 (i := 4) (j := 5) (by kernel_rfl) ?_ ?_
          · obtain ⟨k0, k1, k2, k3, k4⟩ := kcells HK hi Hrow.out
            refine wpOp_val (w' := W20) (v := .agg #[.string ⟨nm.toArray⟩, .string ⟨#[letterB l]⟩, .int .u32 (o : Nat), .int .u32 (f3 : Nat), .int .u32 (f7 : Nat)]) rfl rfl (by go_simp) ?_
            simp only [ps]
            clear k0 k1 k2 k3 k4
            refine any1 (i := 5) (by kernel_rfl) ?_
            refine wpOp_val (w' := W20.alloc (.cells #[.string ⟨#[]⟩, .string ⟨#[]⟩, .int .u32 0, .int .u32 0, .int .u32 0] 120)) (v := .pointer (some ⟨W20.heap.size, 0, none⟩)) rfl rfl (by kernel_rfl) ?_
            simp only [ps]
            have HZ := hid (heap_alloc_new W20 (.cells #[.string ⟨#[]⟩, .string ⟨#[]⟩, .int .u32 0, .int .u32 0, .int .u32 0] 120))
            have HT := hid ((Below.heap_alloc W20 (.cells #[.string ⟨#[]⟩, .string ⟨#[]⟩, .int .u32 0, .int .u32 0, .int .u32 0] 120) _ (blk_lt' HT.out)).trans HT.out)
            have hzw : w.heap.size ≤ W20.heap.size := HB.out.size
            have HK := hid ((Below.heap_alloc W20 (.cells #[.string ⟨#[]⟩, .string ⟨#[]⟩, .int .u32 0, .int .u32 0, .int .u32 0] 120) _ (blk_lt' HK.out)).trans HK.out)
            have HB := hid (HB.out.alloc HB.out.size (.cells #[.string ⟨#[]⟩, .string ⟨#[]⟩, .int .u32 0, .int .u32 0, .int .u32 0] 120))
            obtain ⟨z, hz⟩ : ∃ z, W20.heap.size = z := ⟨_, rfl⟩
            obtain ⟨W23, hW⟩ : ∃ W, W20.alloc (.cells #[.string ⟨#[]⟩, .string ⟨#[]⟩, .int .u32 0, .int .u32 0, .int .u32 0] 120) = W := ⟨_, rfl⟩
            rw [hz] at HZ hzw ⊢
            rw [hW] at HZ HT HK HB ⊢
            clear hz hW
            refine any1 (i := 6) (by kernel_rfl) ?_
            refine wpOp_store_row rfl rfl 120 (.tmp 14) (.tmp 65) rfl z #[.string ⟨nm.toArray⟩, .string ⟨#[letterB l]⟩, .int .u32 (o : Nat), .int .u32 (f3 : Nat), .int .u32 (f7 : Nat)] rfl rfl 120 _ HZ.out infoKind rfl (kind_one ..) ?_
            simp only [ps]
            refine ⟨by kernel_rfl, ?_⟩
            go_wp2_with fail
            go_meet
            case rel => exact tame_met HT HZ hzw HB #[.string ⟨nm.toArray⟩, .string ⟨#[letterB l]⟩, .int .u32 (o : Nat), .int .u32 (f3 : Nat), .int .u32 (f7 : Nat)]
          · refine wpOp_val (w' := W20.alloc (.cells #[.string ⟨#[]⟩, .string ⟨#[]⟩, .int .u32 0, .int .u32 0, .int .u32 0] 120)) (v := .pointer (some ⟨W20.heap.size, 0, none⟩)) rfl rfl (by kernel_rfl) ?_
            simp only [ps]
            have HZ := hid (heap_alloc_new W20 (.cells #[.string ⟨#[]⟩, .string ⟨#[]⟩, .int .u32 0, .int .u32 0, .int .u32 0] 120))
            have HT := hid ((Below.heap_alloc W20 (.cells #[.string ⟨#[]⟩, .string ⟨#[]⟩, .int .u32 0, .int .u32 0, .int .u32 0] 120) _ (blk_lt' HT.out)).trans HT.out)
            have hzw : w.heap.size ≤ W20.heap.size := HB.out.size
            have HK := hid ((Below.heap_alloc W20 (.cells #[.string ⟨#[]⟩, .string ⟨#[]⟩, .int .u32 0, .int .u32 0, .int .u32 0] 120) _ (blk_lt' HK.out)).trans HK.out)
            have HB := hid (HB.out.alloc HB.out.size (.cells #[.string ⟨#[]⟩, .string ⟨#[]⟩, .int .u32 0, .int .u32 0, .int .u32 0] 120))
            obtain ⟨z, hz⟩ : ∃ z, W20.heap.size = z := ⟨_, rfl⟩
            obtain ⟨W25, hW⟩ : ∃ W, W20.alloc (.cells #[.string ⟨#[]⟩, .string ⟨#[]⟩, .int .u32 0, .int .u32 0, .int .u32 0] 120) = W := ⟨_, rfl⟩
            rw [hz] at HZ hzw ⊢
            rw [hW] at HZ HT HK HB ⊢
            clear hz hW
            refine any1 (i := 4) (by kernel_rfl) ?_
            obtain ⟨k0, k1, k2, k3, k4⟩ := kcells HK hi Hrow.out
            refine wpOp_val (w' := W25) (v := .agg #[.string ⟨nm.toArray⟩, .string ⟨#[letterB l]⟩, .int .u32 (o : Nat), .int .u32 (f3 : Nat), .int .u32 (f7 : Nat)]) rfl rfl (by go_simp) ?_
            simp only [ps]
            clear k0 k1 k2 k3 k4
            refine any1 (i := 6) (by kernel_rfl) ?_
            refine wpOp_store_row rfl rfl 120 (.tmp 14) (.tmp 65) rfl z #[.string ⟨nm.toArray⟩, .string ⟨#[letterB l]⟩, .int .u32 (o : Nat), .int .u32 (f3 : Nat), .int .u32 (f7 : Nat)] rfl rfl 120 _ HZ.out infoKind rfl (kind_one ..) ?_
            simp only [ps]
            refine ⟨by kernel_rfl, ?_⟩
            go_wp2_with fail
            go_meet
            case rel => exact tame_met HT HZ hzw HB #[.string ⟨nm.toArray⟩, .string ⟨#[letterB l]⟩, .int .u32 (o : Nat), .int .u32 (f3 : Nat), .int .u32 (f7 : Nat)]
        · refine wpOp_val (w' := W20.alloc (.cells #[.string ⟨#[]⟩, .string ⟨#[]⟩, .int .u32 0, .int .u32 0, .int .u32 0] 120)) (v := .pointer (some ⟨W20.heap.size, 0, none⟩)) rfl rfl (by kernel_rfl) ?_
          simp only [ps]
          have HZ := hid (heap_alloc_new W20 (.cells #[.string ⟨#[]⟩, .string ⟨#[]⟩, .int .u32 0, .int .u32 0, .int .u32 0] 120))
          have HT := hid ((Below.heap_alloc W20 (.cells #[.string ⟨#[]⟩, .string ⟨#[]⟩, .int .u32 0, .int .u32 0, .int .u32 0] 120) _ (blk_lt' HT.out)).trans HT.out)
          have hzw : w.heap.size ≤ W20.heap.size := HB.out.size
          have HK := hid ((Below.heap_alloc W20 (.cells #[.string ⟨#[]⟩, .string ⟨#[]⟩, .int .u32 0, .int .u32 0, .int .u32 0] 120) _ (blk_lt' HK.out)).trans HK.out)
          have HB := hid (HB.out.alloc HB.out.size (.cells #[.string ⟨#[]⟩, .string ⟨#[]⟩, .int .u32 0, .int .u32 0, .int .u32 0] 120))
          obtain ⟨z, hz⟩ : ∃ z, W20.heap.size = z := ⟨_, rfl⟩
          obtain ⟨W28, hW⟩ : ∃ W, W20.alloc (.cells #[.string ⟨#[]⟩, .string ⟨#[]⟩, .int .u32 0, .int .u32 0, .int .u32 0] 120) = W := ⟨_, rfl⟩
          rw [hz] at HZ hzw ⊢
          rw [hW] at HZ HT HK HB ⊢
          clear hz hW
          refine any1 (i := 3) (by kernel_rfl) ?_
          refine wpOp_val (w' := W28) (v := .pointer (some ⟨g, i * 5, none⟩)) rfl rfl (by go_simp; intro hh; omega) ?_
          simp only [ps]
          refine any1 (i := 4) (by kernel_rfl) ?_
          obtain ⟨k0, k1, k2, k3, k4⟩ := kcells HK hi Hrow.out
          refine wpOp_val (w' := W28) (v := .agg #[.string ⟨nm.toArray⟩, .string ⟨#[letterB l]⟩, .int .u32 (o : Nat), .int .u32 (f3 : Nat), .int .u32 (f7 : Nat)]) rfl rfl (by go_simp) ?_
          simp only [ps]
          clear k0 k1 k2 k3 k4
          refine any1 (i := 6) (by kernel_rfl) ?_
          refine wpOp_store_row rfl rfl 120 (.tmp 14) (.tmp 65) rfl z #[.string ⟨nm.toArray⟩, .string ⟨#[letterB l]⟩, .int .u32 (o : Nat), .int .u32 (f3 : Nat), .int .u32 (f7 : Nat)] rfl rfl 120 _ HZ.out infoKind rfl (kind_one ..) ?_
          simp only [ps]
          refine ⟨by kernel_rfl, ?_⟩
          go_wp2_with fail
          go_meet
          case rel => exact tame_met HT HZ hzw HB #[.string ⟨nm.toArray⟩, .string ⟨#[letterB l]⟩, .int .u32 (o : Nat), .int .u32 (f3 : Nat), .int .u32 (f7 : Nat)]
      · refine wpOp_val (w' := D.alloc (.cells #[.string ⟨#[]⟩, .string ⟨#[]⟩, .int .u32 0, .int .u32 0, .int .u32 0] 120)) (v := .pointer (some ⟨D.heap.size, 0, none⟩)) rfl rfl (by kernel_rfl) ?_
        simp only [ps]
        have HZ := hid (heap_alloc_new D (.cells #[.string ⟨#[]⟩, .string ⟨#[]⟩, .int .u32 0, .int .u32 0, .int .u32 0] 120))
        have HT := hid ((Below.heap_alloc D (.cells #[.string ⟨#[]⟩, .string ⟨#[]⟩, .int .u32 0, .int .u32 0, .int .u32 0] 120) _ (blk_lt' HT.out)).trans HT.out)
        have hzw : w.heap.size ≤ D.heap.size := HB.out.size
        have HB := hid (HB.out.alloc HB.out.size (.cells #[.string ⟨#[]⟩, .string ⟨#[]⟩, .int .u32 0, .int .u32 0, .int .u32 0] 120))
        obtain ⟨z, hz⟩ : ∃ z, D.heap.size = z := ⟨_, rfl⟩
        obtain ⟨W32, hW⟩ : ∃ W, D.alloc (.cells #[.string ⟨#[]⟩, .string ⟨#[]⟩, .int .u32 0, .int .u32 0, .int .u32 0] 120) = W := ⟨_, rfl⟩
        rw [hz] at HZ hzw ⊢
        rw [hW] at HZ HT HB ⊢
        clear hz hW
        refine any1 (i := 0) (by kernel_rfl) ?_
        refine wpOp_callE (fun v W' => ∃ g, v = .slice (some ⟨g, 0, none⟩) 64 64 ∧ W'.heap[g]? = some (.cells kindCells 120 (0, 0)) ∧ Below W32.heap.size W32 W') rfl rfl (by kernel_rfl) (kinds_of _) ?_
        rintro v W33 ⟨g, rfl, hk, hbk⟩
        simp only [ps]
        have HT := hid ((hbk.block _ (blk_lt' HT.out)).trans HT.out)
        have HB := hid (HB.out.trans (hbk.mono HB.out.size))
        have HZ := hid ((hbk.block _ (blk_lt' HZ.out)).trans HZ.out)
        have HK := hid hk
        clear hk hbk
        refine any1 (i := 3) (by kernel_rfl) ?_
        refine wpOp_val (w' := W33) (v := .pointer (some ⟨g, i * 5, none⟩)) rfl rfl (by go_simp; intro hh; omega) ?_
        simp only [ps]
        refine any1 (i := 4) (by kernel_rfl) ?_
        obtain ⟨k0, k1, k2, k3, k4⟩ := kcells HK hi Hrow.out
        refine wpOp_val (w' := W33) (v := .agg #[.string ⟨nm.toArray⟩, .string ⟨#[letterB l]⟩, .int .u32 (o : Nat), .int .u32 (f3 : Nat), .int .u32 (f7 : Nat)]) rfl rfl (by go_simp) ?_
        simp only [ps]
        clear k0 k1 k2 k3 k4
        refine any1 (i := 6) (by kernel_rfl) ?_
        refine wpOp_store_row rfl rfl 120 (.tmp 14) (.tmp 65) rfl z #[.string ⟨nm.toArray⟩, .string ⟨#[letterB l]⟩, .int .u32 (o : Nat), .int .u32 (f3 : Nat), .int .u32 (f7 : Nat)] rfl rfl 120 _ HZ.out infoKind rfl (kind_one ..) ?_
        simp only [ps]
        refine ⟨by kernel_rfl, ?_⟩
        go_wp2_with fail
        go_meet
        case rel => exact tame_met HT HZ hzw HB #[.string ⟨nm.toArray⟩, .string ⟨#[letterB l]⟩, .int .u32 (o : Nat), .int .u32 (f3 : Nat), .int .u32 (f7 : Nat)]
    · refine wpOp_val (w' := D.alloc (.cells #[.string ⟨#[]⟩, .string ⟨#[]⟩, .int .u32 0, .int .u32 0, .int .u32 0] 120)) (v := .pointer (some ⟨D.heap.size, 0, none⟩)) rfl rfl (by kernel_rfl) ?_
      simp only [ps]
      have HZ := hid (heap_alloc_new D (.cells #[.string ⟨#[]⟩, .string ⟨#[]⟩, .int .u32 0, .int .u32 0, .int .u32 0] 120))
      have HT := hid ((Below.heap_alloc D (.cells #[.string ⟨#[]⟩, .string ⟨#[]⟩, .int .u32 0, .int .u32 0, .int .u32 0] 120) _ (blk_lt' HT.out)).trans HT.out)
      have hzw : w.heap.size ≤ D.heap.size := HB.out.size
      have HB := hid (HB.out.alloc HB.out.size (.cells #[.string ⟨#[]⟩, .string ⟨#[]⟩, .int .u32 0, .int .u32 0, .int .u32 0] 120))
      obtain ⟨z, hz⟩ : ∃ z, D.heap.size = z := ⟨_, rfl⟩
      obtain ⟨W37, hW⟩ : ∃ W, D.alloc (.cells #[.string ⟨#[]⟩, .string ⟨#[]⟩, .int .u32 0, .int .u32 0, .int .u32 0] 120) = W := ⟨_, rfl⟩
      rw [hz] at HZ hzw ⊢
      rw [hW] at HZ HT HB ⊢
      clear hz hW
      refine any2 (i := 0) (j := 2) (by kernel_rfl) ?_ ?_
      · refine wpOp_callE (fun v W' => ∃ g, v = .slice (some ⟨g, 0, none⟩) 64 64 ∧ W'.heap[g]? = some (.cells kindCells 120 (0, 0)) ∧ Below W37.heap.size W37 W') rfl rfl (by kernel_rfl) (kinds_of _) ?_
        rintro v W38 ⟨g, rfl, hk, hbk⟩
        simp only [ps]
        have HT := hid ((hbk.block _ (blk_lt' HT.out)).trans HT.out)
        have HB := hid (HB.out.trans (hbk.mono HB.out.size))
        have HZ := hid ((hbk.block _ (blk_lt' HZ.out)).trans HZ.out)
        have HK := hid hk
        clear hk hbk
        refine any1 (i := 2) (by kernel_rfl) ?_
        have c0 := icell HT
        refine wpOp_val (w' := W38) (v := .int .i64 i) rfl rfl (by go_simp) ?_
        simp only [ps]
        clear c0
        refine any1 (i := 3) (by kernel_rfl) ?_
        refine wpOp_val (w' := W38) (v := .pointer (some ⟨g, i * 5, none⟩)) rfl rfl (by go_simp; intro hh; omega) ?_
        simp only [ps]
        refine any1 (i := 4) (by kernel_rfl) ?_
        obtain ⟨k0, k1, k2, k3, k4⟩ := kcells HK hi Hrow.out
        refine wpOp_val (w' := W38) (v := .agg #[.string ⟨nm.toArray⟩, .string ⟨#[letterB l]⟩, .int .u32 (o : Nat), .int .u32 (f3 : Nat), .int .u32 (f7 : Nat)]) rfl rfl (by go_simp) ?_
        simp only [ps]
        clear k0 k1 k2 k3 k4
        refine any1 (i := 6) (by kernel_rfl) ?_
        refine wpOp_store_row rfl rfl 120 (.tmp 14) (.tmp 65) rfl z #[.string ⟨nm.toArray⟩, .string ⟨#[letterB l]⟩, .int .u32 (o : Nat), .int .u32 (f3 : Nat), .int .u32 (f7 : Nat)] rfl rfl 120 _ HZ.out infoKind rfl (kind_one ..) ?_
        simp only [ps]
        refine ⟨by kernel_rfl, ?_⟩
        go_wp2_with fail
        go_meet
        case rel => exact tame_met HT HZ hzw HB #[.string ⟨nm.toArray⟩, .string ⟨#[letterB l]⟩, .int .u32 (o : Nat), .int .u32 (f3 : Nat), .int .u32 (f7 : Nat)]
      · have c0 := icell HT
        refine wpOp_val (w' := W37) (v := .int .i64 i) rfl rfl (by go_simp) ?_
        simp only [ps]
        clear c0
        refine any1 (i := 0) (by kernel_rfl) ?_
        refine wpOp_callE (fun v W' => ∃ g, v = .slice (some ⟨g, 0, none⟩) 64 64 ∧ W'.heap[g]? = some (.cells kindCells 120 (0, 0)) ∧ Below W37.heap.size W37 W') rfl rfl (by kernel_rfl) (kinds_of _) ?_
        rintro v W44 ⟨g, rfl, hk, hbk⟩
        simp only [ps]
        have HT := hid ((hbk.block _ (blk_lt' HT.out)).trans HT.out)
        have HB := hid (HB.out.trans (hbk.mono HB.out.size))
        have HZ := hid ((hbk.block _ (blk_lt' HZ.out)).trans HZ.out)
        have HK := hid hk
        clear hk hbk
        refine any1 (i := 3) (by kernel_rfl) ?_
        refine wpOp_val (w' := W44) (v := .pointer (some ⟨g, i * 5, none⟩)) rfl rfl (by go_simp; intro hh; omega) ?_
        simp only [ps]
        refine any1 (i := 4) (by kernel_rfl) ?_
        obtain ⟨k0, k1, k2, k3, k4⟩ := kcells HK hi Hrow.out
        refine wpOp_val (w' := W44) (v := .agg #[.string ⟨nm.toArray⟩, .string ⟨#[letterB l]⟩, .int .u32 (o : Nat), .int .u32 (f3 : Nat), .int .u32 (f7 : Nat)]) rfl rfl (by go_simp) ?_
        simp only [ps]
        clear k0 k1 k2 k3 k4
        refine any1 (i := 6) (by kernel_rfl) ?_
        refine wpOp_store_row rfl rfl 120 (.tmp 14) (.tmp 65) rfl z #[.string ⟨nm.toArray⟩, .string ⟨#[letterB l]⟩, .int .u32 (o : Nat), .int .u32 (f3 : Nat), .int .u32 (f7 : Nat)] rfl rfl 120 _ HZ.out infoKind rfl (kind_one ..) ?_
        simp only [ps]
        refine ⟨by kernel_rfl, ?_⟩
        go_wp2_with fail
        go_meet
        case rel => exact tame_met HT HZ hzw HB #[.string ⟨nm.toArray⟩, .string ⟨#[letterB l]⟩, .int .u32 (o : Nat), .int .u32 (f3 : Nat), .int .u32 (f7 : Nat)]
  case rest =>
  obtain ⟨z, rfl, HK, HT2, HB2⟩ := hcut
  have I4 := hid (I3.out.below HB2.out)
  clear HT HB HB2 I3 hWG
  go_wp2_with fail
  refine HK3.out _ _ ⟨z, I4.out, HK.out, HT2.out, ?_⟩
  unfold FrameD FrameOf
  (repeat apply Exists.intro); rfl
set_option maxHeartbeats 4000000 in
set_option maxRecDepth 100000 in
theorem refStep_main (sl : Value) (M : List Pg) (q : Int) (X : List Nat) (pc : Nat) (u W1 : World) (act : Act) (hI : StepI u sl q (X.set 0 0) pc W1) (hF : FrameA (.pointer (some ⟨u.heap.size, 0, none⟩)) (.pointer (some ⟨u.heap.size + 1, 0, none⟩)) (.pointer (some ⟨u.heap.size + 2, 0, none⟩)) (.pointer (some ⟨u.heap.size + 3, 0, none⟩)) act) (hX : Regs X) (hS : ∀ W, SpAt u W sl M) (hG : Good M) (hM2 : M.length ≤ 4096) (hp : pc < 1099511627776) (v f : Nat) (hv : v < 4294967296) (hf : fetchN M pc = (v, 0, f)) (h4p : pc % 4 = 0) (i d a b : Nat) (n : Int) (hdec : decN v = (((i : Int), (d : Int), (a : Int), (b : Int), n), true)) (hi : i < 64) (hd : d < 32) (ha : a < 32) (hb : b < 32)
    (k : ∀ nm l o f3 f7 A Bv im p4 G z O W6 act, Mid u sl M q X pc i d a b n nm l o f3 f7 A Bv im p4 G z O W6 → FrameOf (.pointer (some ⟨u.heap.size, 0, none⟩)) (.pointer (some ⟨u.heap.size + 1, 0, none⟩)) (.pointer (some ⟨u.heap.size + 2, 0, none⟩)) (.pointer (some ⟨u.heap.size + 3, 0, none⟩)) (.pointer (some ⟨G, 0, none⟩)) (.pointer (some ⟨z, 0, none⟩)) (.int .u64 A) (.int .u64 Bv) (.int .u64 im) (.int .u64 p4) (.pointer (some ⟨O, 0, none⟩)) (.int .i64 0) act → (stepC 12).wp Tryz.prog (bodyPost Tryz.prog Tryz.f18 (RefPost q (stepN M X pc) u)) act W6) :
    (stepC 2).wp Tryz.prog (bodyPost Tryz.prog Tryz.f18 (RefPost q (stepN M X pc) u)) act W1 := by
  have hs : stepN M X pc = execN M (X.set 0 0) pc i d a b n := by
    unfold stepN
    rw [if_neg (by omega), hf]
    simp only [if_true]
    rw [hdec]
    simp only [if_true, Int.toNat_natCast]
  have Hs := hid hs
  have Hi := hid hi
  obtain ⟨nm, l, o, f3, f7, hrow, ho, h3, h7, hl⟩ := row_letter i hi
  have Hrow := hid hrow
  have hpi : ¬ (1099511627776 : Int) ≤ (pc : Int) := by omega
  have hp64 : pc < 18446744073709551616 := by omega
  refine refStep_main1 sl M q X pc u W1 act hI hF hX hS hG hp v f hv hf i d a b n hdec _ (fun G W act1 hI1 hT1 hF1 => ?_)
  clear hI hF act
  refine refStep_main2 sl q (X.set 0 0) pc u W act1 i d a b n nm l o f3 f7 G hI1 hT1 hF1 hi Hrow _ (fun z wc act hI hK0 hT0 hF => ?_)
  clear hI1 hT1 hF1 act1 W1 hs hf hdec hrow ho h3 h7 hl
  have hpi : ¬ (1099511627776 : Int) ≤ (pc : Int) := by omega
  have hp64 : pc < 18446744073709551616 := by omega
  have HG := hid hG
  have Hk := hid k
  have HX0 := hid (hX.set 0 0 (by decide))
  have I4 := hid hI
  have HS := hid hS
  have HK := hid hK0
  have HT2 := hid hT0
  clear hG k hX hI hS hK0 hT0
  obtain ⟨_, _, _, _, _, _, hF⟩ := hF
  unfold FrameOf at hF
  iterate 71 (obtain ⟨_, hF⟩ := hF)
  subst hF
  conv => arg 2; whnf
  have hA := HX0.out.get a
  have hBv := HX0.out.get b
  have sa := I4.out.b3.cell HX0.out ha
  have sb := I4.out.b3.cell HX0.out hb
  obtain ⟨A, hAe⟩ : ∃ A, getR (X.set 0 0) a = A := ⟨_, rfl⟩
  obtain ⟨Bv, hBe⟩ : ∃ Bv, getR (X.set 0 0) b = Bv := ⟨_, rfl⟩
  rw [hAe] at hA sa
  rw [hBe] at hBv sb
  have HAe := hid hAe
  have HBe := hid hBe
  clear hAe hBe
  obtain ⟨im, him⟩ : ∃ im, u64N n = im := ⟨_, rfl⟩
  have Him := hid him
  have himl : im < 18446744073709551616 := by rw [← him]; exact u64N_lt n
  have hwn : IntKind.u64.wrap n = (im : Int) := by rw [← him, u64w]; unfold u64N; omega
  clear him
  have j2 : wc.cell? ⟨G, 2, none⟩ = some (.int .i64 a) := by rw [cell_of_row wc _ _ _ _ _ HT2.out]; rfl
  have j3 : wc.cell? ⟨G, 3, none⟩ = some (.int .i64 b) := by rw [cell_of_row wc _ _ _ _ _ HT2.out]; rfl
  have j4 : wc.cell? ⟨G, 4, none⟩ = some (.int .i64 n) := by rw [cell_of_row wc _ _ _ _ _ HT2.out]; rfl
  have lG := blk_lt' HT2.out
  have lS := blk_lt' I4.out.b3
  have hai : (a : Int) < 32 := by omega
  have hbi : (b : Int) < 32 := by omega
  go_upto_region 12 with (first | (go_quiet (fail)))
  obtain ⟨W5, hW5⟩ : ∃ W5, wc.drewN nq = W5 := ⟨_, rfl⟩
  have bq : Below wc.heap.size wc W5 := by rw [← hW5]; exact below_drewN (Below.refl _ _) nq
  rw [hW5]
  have I5 := hid (I4.out.below bq)
  have HK5 := hid ((bq.block _ (blk_lt' HK.out)).trans HK.out)
  have HT5 := hid ((bq.block _ (blk_lt' HT2.out)).trans HT2.out)
  clear hW5 bq I4 HK HT2 j2 j3 j4 lG lS sa sb hwn
  have cpc := I5.out.b3.cellPc HX0.out
  have lS := blk_lt' I5.out.b3
  obtain ⟨p4, hp4⟩ : ∃ p4, pc + 4 = p4 := ⟨_, rfl⟩
  have hp4i : (pc : Int) + 4 = (p4 : Int) := by omega
  have hp4l : p4 < 18446744073709551616 := by omega
  have hp4m : (p4 : Int) % 4 = 0 := by omega
  have Hp4 : Hid (adr pc 4 = p4) := hid (by unfold adr; omega)
  clear hp4
  go_upto_region 13 with (fail)
  apply wp_region_lit
  refine wpList_load_row rfl 58 (.tmp 3) rfl (u.heap.size + 1) rfl 58 (stCells (X.set 0 0) pc) (0, 0) _ I5.out.b3 Tryz.underlying58 rfl (infoState7 HX0.out pc) ?_
  simp only [ps]
  refine wpList_val (w' := W5.alloc (.cells zst 58)) (.pointer (some ⟨W5.heap.size, 0, none⟩)) rfl (by kernel_rfl) ?_
  simp only [ps]
  obtain ⟨W6, hW6, g6, b6⟩ := new_row W5 (stCells (X.set 0 0) pc) zst 58
  refine wpList_store_row rfl 58 (.tmp 19) (.tmp 82) rfl W5.heap.size (stCells (X.set 0 0) pc) rfl rfl 58 zst (heap_alloc_new _ _) (infoState7 HX0.out pc) (stCells_size HX0.out _).symm (stCells_one _ _) ?_
  simp only [ps]
  rw [hW6]
  have I6 := hid (I5.out.below b6)
  have HK6 := hid ((b6.block _ (blk_lt' HK5.out)).trans HK5.out)
  have HT6 := hid ((b6.block _ (blk_lt' HT5.out)).trans HT5.out)
  have OF : Hid (St7 W6 W5.heap.size (X.set 0 0) pc) := hid g6
  have hO : u.heap.size + 4 ≤ W5.heap.size := blk_lt' I5.out.b5
  have hGO : G ≠ W5.heap.size := by have := blk_lt' HT5.out; omega
  have hzO : z ≠ W5.heap.size := by have := blk_lt' HK5.out; omega
  clear hW6 g6 b6 I5 HK5 HT5 cpc lS
  generalize W5.heap.size = O at OF hO hGO hzO ⊢
  have lG := blk_lt' HT6.out
  have lz := blk_lt' HK6.out
  have lS := blk_lt' I6.out.b3
  have lO := blk_lt' OF.out
  have cpc := I6.out.b3.cellPc HX0.out
  have jd : W6.cell? ⟨G, 1, none⟩ = some (.int .i64 d) := by rw [cell_of_row W6 _ _ _ _ _ HT6.out]; rfl
  have kn : W6.cell? ⟨z, 0, none⟩ = some (.string ⟨nm.toArray⟩) := by rw [cell_of_row W6 _ _ _ _ _ HK6.out]; rfl
  have kl : W6.cell? ⟨z, 1, none⟩ = some (.string ⟨#[letterB l]⟩) := by rw [cell_of_row W6 _ _ _ _ _ HK6.out]; rfl
  have ko : W6.cell? ⟨z, 2, none⟩ = some (.int .u32 o) := by rw [cell_of_row W6 _ _ _ _ _ HK6.out]; rfl
  go_upto_region 14 with (fail)
  rename_i hK
  refine wp_cut (fun a' W => ∃ O W6, W = W6 ∧ Mid u sl M q X pc i d a b n nm l o f3 f7 A Bv im p4 G z O W6 ∧ FrameOf (.pointer (some ⟨u.heap.size, 0, none⟩)) (.pointer (some ⟨u.heap.size + 1, 0, none⟩)) (.pointer (some ⟨u.heap.size + 2, 0, none⟩)) (.pointer (some ⟨u.heap.size + 3, 0, none⟩)) (.pointer (some ⟨G, 0, none⟩)) (.pointer (some ⟨z, 0, none⟩)) (.int .u64 A) (.int .u64 Bv) (.int .u64 im) (.int .u64 p4) (.pointer (some ⟨O, 0, none⟩)) (.int .i64 0) a') (fun a' W hh => by obtain ⟨O, W6, rfl, h1, h2⟩ := hh; exact hK _ _ (Hk.out _ _ _ _ _ _ _ _ _ _ _ _ _ _ h1 h2)) ?_
  clear hK Hk
  intro _ _ _ _
  go_wp2_with fail
  refine Met.intro ?_
  go_step
  refine ⟨O, W6, rfl, ⟨hM2, hp, h4p, hi, hd, ha, hb, Hs, Hrow, HX0, HG, HS, hA, hBv, HAe, HBe, Him, himl, hp4i, hp4l, hp4m, Hp4, I6, HK6, HT6, OF, hO, hGO, hzO, lG, lz, lS, lO, cpc, jd, kn, kl, ko⟩, ?_⟩
  unfold FrameOf
  (repeat apply Exists.intro); rfl
end
end Go.Proofs.YtiemingpbommeaaGreatDoor
