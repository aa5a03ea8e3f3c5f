/- As Mono, where operations of the head stand behind the block's maker too: operation n makes the block, the head are the operations ks below T, the tail begins at T. -/
import Derived.Test.YtiemingpbommeaaGreatDoorGb
import Derived.Test.YtiemingpbommeaaGreatDoorGe
import Derived.RangeFuncNested
import Derived.RangeFuncBound
import Derived.RangeFuncCalls
import Derived.RangeFuncLeaves
import Derived.Shelf.Abstract
import Derived.Shelf.RegionOpen
import Derived.WalkKit
import Derived.OwnWalkIn
import Derived.TacticsInMore
import Derived.LoopNIn
import Derived.LoopIn
import Derived.OrdersIn
namespace Go.Proofs.YtiemingpbommeaaGreatDoor
open Go Go.RowKit
section
variable {P : Program} {ops : Array Oper} {W : World}
def headN (P : Program) (ops : Array Oper) (W : World) (n T : Nat) (L : Array Bool → Act → Prop) : Nat → Array Bool → Act → Prop
  | 0, listed, a => L listed a
  | f + 1, listed, a => Region.ready .any ops listed ≠ [] ∧ ∀ i ∈ Region.ready .any ops listed, (i < T ∧ i ≠ n) ∧ mOp P ops W i (headN P ops W n T L f (listed.setIfInBounds i true)) a
structure HeadOkN (ops : Array Oper) (n T : Nat) : Prop where
  sink : Region.sinkB .any ops T = true
  chain : Region.chainB .any ops T = true
  lt : T < ops.size
  nlt : n < T
  waits : Region.waitsFor .any ops T n = true
theorem headN_lt {n T : Nat} (hk : HeadOkN ops n T) {listed : Array Bool} (inv : HeadInv .any ops T listed) {i : Nat} (hi : i < T) (hun : listed.getD i true = false) {j : Nat} (hj : j ∈ Region.ready .any ops listed) (hl : listed.getD n false = true) : j < T ∧ j ≠ n := by
  refine ⟨Nat.lt_of_not_le fun h => tail_waits hk.sink hk.chain hk.lt inv _ i rfl hi hun j h hj, ?_⟩
  rintro rfl
  have h0 := (mem_ready.1 hj).1
  have hs : j < listed.size := by rw [inv.size]; have := hk.lt; have := hk.nlt; omega
  simp [hs] at h0 hl
  rw [h0] at hl; cases hl
theorem headN_first {n T i : Nat} {oi : Oper} {v : Value} {L : Array Bool → Act → Prop} (hk : HeadOkN ops n T) (hi : ops[i]? = some oi) (hsel : ∀ (j : Nat) (o : Oper) cs b, ops[j]? = some o → o.op ≠ .select cs b)
    (hin : i < T) (hdone : ∀ listed a, L listed a → ∀ j ∈ Region.ready .any ops listed, T ≤ j) :
    ∀ (f : Nat) (listed : Array Bool) (a : Act), HeadInv .any ops T listed → listed.getD n false = true →
      (∀ j oj, ops[j]? = some oj → j ≠ i → listed.getD j true = false → (∀ e ∈ oj.after, Region.binds .any e = true → e.on ≠ i) → oi.apart ops oj = true) →
      i ∈ Region.ready .any ops listed → MonoIn P ops W oi v a →
      headN P ops W n T L f (listed.setIfInBounds i true) (a.put oi.dst v) → headN P ops W n T L (f + 1) listed a := by
  intro f
  induction f with
  | zero =>
    intro listed a inv hl _ hr hy H
    refine ⟨List.ne_nil_of_mem hr, fun j hj => ?_⟩
    have hun := (mem_ready.1 hr).1
    have h2 := headN_lt hk inv hin hun hj hl
    refine ⟨h2, ?_⟩
    by_cases hji : j = i
    · subst hji; exact hy.mOp hi H
    · have h1 := hdone _ _ H j (ready_mono hj hji)
      omega
  | succ f ih =>
    intro listed a inv hl hfree hr hy H
    refine ⟨List.ne_nil_of_mem hr, fun j hj => ?_⟩
    have hun := (mem_ready.1 hr).1
    have hjn := headN_lt hk inv hin hun hj hl
    refine ⟨hjn, ?_⟩
    by_cases hji : j = i
    · subst hji; exact hy.mOp hi H
    · have h1 := (H.2 j (ready_mono hj hji)).2
      obtain ⟨hjun, oj, hoj, hall⟩ := mem_ready.1 hj
      have hnot : ∀ e ∈ oj.after, Region.binds .any e = true → e.on ≠ i := fun e he hb heq => by
        have h1 := hall e he hb
        rw [heq, getD_both hun] at h1
        cases h1
      have h2 := mOp_put hoj (hfree j oj hoj hji hjun hnot) (fun cs b => hsel i oi cs b hi) (fun cs b => hsel j oj cs b hoj) hy h1
      have hfree' : ∀ k ok, ops[k]? = some ok → k ≠ i → (listed.setIfInBounds j true).getD k true = false →
          (∀ e ∈ ok.after, Region.binds .any e = true → e.on ≠ i) → oi.apart ops ok = true := fun k ok hk hki hun hno => by
        refine hfree k ok hk hki ?_ hno
        by_cases hjk : j = k
        · subst hjk; exact hjun
        · rw [getD_set_ne true hjk] at hun; exact hun
      refine mOp_mono (fun a' h3 => ih (listed.setIfInBounds j true) a' (inv.set hj hjn.1) (getD_set_true hl) hfree' (ready_mono hr (Ne.symm hji)) h3.1 ?_) h2
      rw [Array.setIfInBounds_comm _ _ hji]
      exact h3.2
def lexHeadN (ops : Array Oper) (T g : Nat) : List Nat → Array Bool → Bool
  | [], listed => Region.seqB .any ops g T listed
  | k :: ks, listed => decide (k < T) && (Region.ready .any ops listed).contains k && Region.free .any ops listed k && lexHeadN ops T g ks (listed.setIfInBounds k true)
/-- one walk of the head, by the operations' numbers -/
def wpMonoN (P : Program) (ops : Array Oper) (W : World) (K : Act → Prop) : List Nat → Act → Prop
  | [], a => K a
  | k :: ks, a => mOp P ops W k (wpMonoN P ops W K ks) a
theorem headN_lex {n T g : Nat} {Lq : Act → Prop} (hk : HeadOkN ops n T) (hsel : Region.noSelect ops = true) :
    ∀ (ks : List Nat) (listed : Array Bool) (a : Act), HeadInv .any ops T listed → listed.getD n false = true →
    lexHeadN ops T g ks listed = true → wpMonoN P ops W Lq ks a →
    headN P ops W n T (fun listed' a' => Region.seqB .any ops g T listed' = true ∧ Lq a') ks.length listed a
  | [], listed, a, _, _, hB, h => ⟨by simpa [lexHeadN] using hB, h⟩
  | k :: ks, listed, a, inv, hln, hB, h => by
    simp only [lexHeadN, Bool.and_eq_true, decide_eq_true_eq] at hB
    obtain ⟨⟨⟨hkT, hr⟩, hf⟩, hB'⟩ := hB
    have hr' : k ∈ Region.ready .any ops listed := by simpa using hr
    obtain ⟨_, o, h0, _⟩ := mem_ready.1 hr'
    obtain ⟨v, hy, hK⟩ := monoIn_of_mOp h0 h
    exact headN_first hk h0 (Region.noSelect_spec hsel) hkT (fun listed' a' hL => seqB_ready hL.1) ks.length listed a inv hln (Region.free_spec h0 hf) hr' hy
      (headN_lex hk hsel ks _ _ (inv.set hr' hkT) (getD_set_true hln) hB' hK)
theorem wpAnyN_done {n T g : Nat} {oa : Oper} {p : Value} {C : World → Prop} {L : Array Bool → Act → Prop} {Q : Exit → Act → World → Prop} (hC : Closed W C) (hsel : ∀ (j : Nat) (o : Oper) cs b, ops[j]? = some o → o.op ≠ .select cs b)
    (hap : ∀ j o, ops[j]? = some o → j < T → j ≠ n → oa.apart ops o = true) (hL : ∀ listed a, L listed a → ∀ w, C w → wpAny P .any ops Q g listed (a.put oa.dst p) w) :
    ∀ (f : Nat) (listed : Array Bool) (a : Act), headN P ops W n T L f listed a → ∀ w, C w → wpAny P .any ops Q (f + g) listed (a.put oa.dst p) w
  | 0, listed, a, h, w, hw => by rw [Nat.zero_add]; exact hL _ _ h w hw
  | f + 1, listed, a, h, w, hw => by
    rw [show f + 1 + g = (f + g) + 1 by omega]
    refine ⟨fun h0 => absurd h0 h.1, fun i hi => ?_⟩
    obtain ⟨hin, hm⟩ := h.2 i hi
    obtain ⟨_, o, ho, _⟩ := mem_ready.1 hi
    refine wpOp_of_qOp hw (fun a'' w' hw' h' => ?_) (qOp_of_mOp hC (mOp_shift ho (hap i o ho hin.1 hin.2) (fun cs b => hsel i o cs b ho) p hm))
    obtain ⟨a', rfl, hK⟩ := h'
    exact wpAnyN_done hC hsel hap hL f _ a' hK w' hw'
theorem wpAnyN_pending {n T g : Nat} {oa : Oper} {L : Array Bool → Act → Prop} {Q : Exit → Act → World → Prop} (hk : HeadOkN ops n T) (hoa : ops[n]? = some oa) (hg : oa.guard = none) (obj : Obj)
    (hrun : ∀ (a : Act) (w : World), (execOp a.eval oa).run P w = .ok (.value (.pointer (some ⟨w.heap.size, 0, none⟩))) (w.alloc obj))
    (hsel : ∀ (j : Nat) (o : Oper) cs b, ops[j]? = some o → o.op ≠ .select cs b)
    (hap : ∀ j o, ops[j]? = some o → j < T → j ≠ n → oa.apart ops o = true)
    (hLr : ∀ listed a, L listed a → ∀ j ∈ Region.ready .any ops listed, j = T)
    (hfree : ∀ e ∈ oa.after, Region.binds .any e = false)
    (hL : ∀ listed a, L listed a → ∀ g' w, Below W.heap.size W w → W.heap.size ≤ g' → w.heap[g']? = some obj → wpAny P .any ops Q g listed (a.put oa.dst (.pointer (some ⟨g', 0, none⟩))) w) :
    ∀ (f : Nat) (listed : Array Bool) (a : Act), listed.getD n true = false → headN P ops W n T L f (listed.setIfInBounds n true) a → ∀ w, Below W.heap.size W w → wpAny P .any ops Q (f + g + 1) listed a w
  | f, listed, a, hn, h, w, hw => by
    have hrn : n ∈ Region.ready .any ops listed := mem_ready.2 ⟨hn, oa, hoa, fun e he hb => by rw [hfree e he] at hb; cases hb⟩
    refine ⟨fun h0 => (by rw [h0] at hrn; cases hrn), fun i hi => ?_⟩
    by_cases hin : i = n
    · subst hin
      unfold wpOp
      simp only [hoa]
      rw [if_pos (by simp [Region.wanted, hg])]
      refine .inl ?_
      show oa.upon P a _ Q _
      rw [hrun, Oper.upon_value]
      have hC : Closed W (fun w' => Below W.heap.size W w' ∧ w'.heap[w.heap.size]? = some obj) :=
        ⟨fun w' h => h.1, fun w' w'' h hb => ⟨h.1.trans (hb.mono h.1.size), (hb.block _ (Array.getElem?_eq_some_iff.1 h.2).1).trans h.2⟩⟩
      exact wpAnyN_done hC hsel hap (fun listed' a' hl w' hw' => hL listed' a' hl _ w' hw'.1 hw.size hw'.2) f _ a h _ ⟨hw.alloc hw.size _, heap_alloc_new _ _⟩
    · have hr' : i ∈ Region.ready .any ops (listed.setIfInBounds n true) := ready_mono hi hin
      cases f with
      | zero =>
        have := hLr _ _ h i hr'
        subst this
        obtain ⟨o, ho, e, he, hb, hon⟩ := Region.waitsFor_spec hk.waits
        obtain ⟨_, o', ho', hall⟩ := mem_ready.1 hi
        obtain rfl : o = o' := Option.some.inj (ho.symm.trans ho')
        have := hall e he hb
        rw [hon, getD_both hn] at this
        cases this
      | succ f =>
        obtain ⟨hlt, hm⟩ := h.2 i hr'
        have hC : Closed W (fun w' => Below W.heap.size W w') := ⟨fun w' h => h, fun w' w'' h hb => h.trans (hb.mono h.size)⟩
        rw [show f + 1 + g = f + g + 1 by omega]
        refine wpOp_of_qOp hw (fun a' w' hw' h' => ?_) (qOp_of_mOp hC hm)
        rw [Array.setIfInBounds_comm _ _ (Ne.symm hin)] at h'
        exact wpAnyN_pending hk hoa hg obj hrun hsel hap hLr hfree hL f _ a' (by rw [getD_set_ne true hin]; exact hn) h' w' hw'
/-- all that is asked of the region's form -/
def monoNB (ops : Array Oper) (n T : Nat) (ks : List Nat) : Bool :=
  Region.noSelect ops && decide (T < ops.size) && decide (n < T) && decide (ks.length + 1 = T) && Region.sinkB .any ops T && Region.chainB .any ops T && Region.waitsFor .any ops T n &&
  (match ops[n]? with
    | some oa => oa.guard.isNone && oa.after.all (fun e => !Region.binds .any e) && (List.range T).all (fun j => j == n || (match ops[j]? with | some o => oa.apart ops o | none => true))
    | none => false) &&
  lexHeadN ops T (ops.size - T) ks ((Array.replicate ops.size false).setIfInBounds n true)
theorem wp_region_allocN {id : Nat} {Q : Exit → Act → World → Prop} {a : Act} {w : World} {l : List Oper} (n T : Nat) (ks : List Nat) (t : Tmp) (obj : Obj) (hm : P.follows .mixedOrders = true) (hB : monoNB l.toArray n T ks = true)
    (oa : Oper) (hoa : l[n]? = some oa) (ht : oa.dst = some t)
    (hrun : ∀ (a : Act) (w : World), (execOp a.eval oa).run P w = .ok (.value (.pointer (some ⟨w.heap.size, 0, none⟩))) (w.alloc obj))
    (h : wpMonoN P l.toArray w.drew (fun a' => ∀ g w', Below w.heap.size w w' → w.heap.size ≤ g → w'.heap[g]? = some obj →
      wpList P l.toArray Q (l.drop T) (a'.put (some t) (.pointer (some ⟨g, 0, none⟩))) w') ks a) : (Code.region id l.toArray true).wp P Q a w := by
  have hoa' : l.toArray[n]? = some oa := by simpa using hoa
  simp only [monoNB, Bool.and_eq_true, decide_eq_true_eq, hoa'] at hB
  obtain ⟨⟨⟨⟨⟨⟨⟨⟨hsel, hT⟩, hn⟩, hlen⟩, hs⟩, hc⟩, hw⟩, ⟨hg, hfree⟩, hap⟩, hlex⟩ := hB
  have hk : HeadOkN l.toArray n T := ⟨hs, hc, hT, hn, hw⟩
  have hT' : T < l.length := by simpa using hT
  have hdl : (l.drop T).length = l.toArray.size - T := by simp
  have hln : ((Array.replicate l.toArray.size false).setIfInBounds n true).getD n false = true := by
    have : n < l.length := by omega
    simp [this]
  have hfree' : ∀ e ∈ oa.after, Region.binds .any e = false := fun e he => by
    have := Array.all_eq_true_iff_forall_mem.1 hfree e he
    simpa using this
  have inv0 : HeadInv .any l.toArray T ((Array.replicate l.toArray.size false).setIfInBounds n true) := by
    refine ⟨by simp, fun j oj hj hl e he hb => ?_, fun t ht ht' => ?_⟩
    · by_cases hjn : n = j
      · subst hjn
        obtain rfl : oj = oa := Option.some.inj (hj.symm.trans hoa')
        rw [hfree' e he] at hb; cases hb
      · rw [getD_set_ne false hjn, getD_replicate_false] at hl; cases hl
    · rw [getD_set_ne true (by omega)]
      exact getD_in (by simpa using ht') (getD_replicate_false _ _)
  have H := headN_lex (g := l.toArray.size - T) hk hsel ks _ a inv0 hln hlex h
  refine wp_region_any hm ?_
  have hap' : ∀ j o, l.toArray[j]? = some o → j < T → j ≠ n → oa.apart l.toArray o = true := fun j o ho hj hjn => by
    have := List.all_eq_true.1 hap j (List.mem_range.2 hj)
    simpa [ho, hjn] using this
  have := wpAnyN_pending (Q := Q) (g := l.toArray.size - T) hk hoa' (by simpa using hg) obj hrun (Region.noSelect_spec hsel) hap' (fun listed a' hL j hj => by
      have := hL.1
      rw [show l.toArray.size - T = (l.toArray.size - T - 1) + 1 by omega] at this
      simp only [Region.seqB, Bool.and_eq_true, decide_eq_true_eq] at this
      rw [this.1] at hj
      simpa using hj) hfree' (fun listed a' hL g' w' hw' hg' hb' => by
      have := wpAny_of_seq (ops := l.toArray) (md := .any) (Q' := Q) (l.drop T) T listed (a'.put oa.dst (.pointer (some ⟨g', 0, none⟩))) w' (fun j => by simp [List.getElem?_drop]) (by rw [hdl]; exact hL.1) (by rw [ht]; exact hL.2 g' w' ⟨hw'.os, hw'.tape, hw'.output, hw'.size, hw'.block⟩ hg' hb')
      rwa [hdl] at this) ks.length (Array.replicate l.toArray.size false) a (getD_in (by simpa using (by omega : n < l.length)) (getD_replicate_false _ _)) H { w with drawn := w.drawn + 1 } (Below.refl _ _)
  rwa [show ks.length + (l.toArray.size - T) + 1 = l.toArray.size by omega] at this
theorem wpMonoN_of_list {K : Act → Prop} : ∀ (l : List Oper) (ks : List Nat) (a : Act), l.map some = ks.map (ops[·]?) → wpMono P ops W K l a → wpMonoN P ops W K ks a
  | [], [], _, _, h => h
  | [], _ :: _, _, e, _ => by cases e
  | _ :: _, [], _, e, _ => by cases e
  | o :: l, k :: ks, a, e, h => by
    simp only [List.map_cons, List.cons.injEq] at e
    unfold wpMono at h
    unfold wpMonoN mOp
    simp only [← e.1]
    split
    · rename_i hw
      rw [if_pos hw] at h
      obtain ⟨v, h1, h2⟩ := h
      exact ⟨v, h1, wpMonoN_of_list l ks _ e.2 h2⟩
    · rename_i hw
      rw [if_neg hw] at h
      exact wpMonoN_of_list l ks _ e.2 h
/-- the region, its head written as a list: what stands ahead of the maker, what stands behind it below T -/
theorem wp_region_allocL {id : Nat} {Q : Exit → Act → World → Prop} {a : Act} {w : World} {l : List Oper} (n T : Nat) (ks : List Nat) (t : Tmp) (obj : Obj) (hm : P.follows .mixedOrders = true) (hB : monoNB l.toArray n T ks = true)
    (oa : Oper) (hoa : l[n]? = some oa) (ht : oa.dst = some t) (hks : (l.take n ++ (l.drop (n + 1)).take (T - n - 1)).map some = ks.map (l.toArray[·]?))
    (hrun : ∀ (a : Act) (w : World), (execOp a.eval oa).run P w = .ok (.value (.pointer (some ⟨w.heap.size, 0, none⟩))) (w.alloc obj))
    (h : wpMono P l.toArray w.drew (fun a' => ∀ g w', Below w.heap.size w w' → w.heap.size ≤ g → w'.heap[g]? = some obj →
      wpList P l.toArray Q (l.drop T) (a'.put (some t) (.pointer (some ⟨g, 0, none⟩))) w') (l.take n ++ (l.drop (n + 1)).take (T - n - 1)) a) : (Code.region id l.toArray true).wp P Q a w :=
  wp_region_allocN n T ks t obj hm hB oa hoa ht hrun (wpMonoN_of_list _ ks a hks h)
end
end Go.Proofs.YtiemingpbommeaaGreatDoor

/- The processor: a load. -/
namespace Go.Proofs.YtiemingpbommeaaGreatDoor
open Go Go.RowKit
noncomputable section
set_option linter.unusedVariables false
set_option linter.unusedSimpArgs false
theorem load_at (sp m : Nat) (sl : Value) (q : Int) (ps : List (Pg × Nat)) (x : Nat) (xi : Int) (h : xi = x) (size : Int) (w : World) (hx : x < 18446744073709551616) (hS : SpaceIs w sp m sl q ps) :
    Calls Tryz.prog 106 #[.pointer (some ⟨sp, 0, none⟩), .int .u64 xi, .int .i64 size] w (LoadPost (pgs ps) x size w) := by subst h; exact load_any sp m sl q ps x size w hx hS
theorem adr_wrap (x : Nat) (n : Int) : IntKind.u64.wrap ((x : Int) + IntKind.u64.wrap n) = (adr x (u64N n) : Int) := by
  rw [IntKind.wrap_u64, IntKind.wrap_u64]; unfold adr u64N; omega
theorem widthN_le (o : Int) : (widthN o).1 ≤ 8 := by unfold widthN; repeat (first | split | decide)
theorem loadN_zero {M : List Pg} {x : Nat} {s : Int} (h : (loadN M x s).2.1 = 0) : (loadN M x s).2.2 = 0 := by
  unfold loadN at *
  split at h
  · rename_i h1
    rw [if_pos h1]
    split at h
    · rename_i h2; rw [if_pos h2]
    · rename_i h2; exact absurd h h2
  · exact absurd h (by simp)
theorem loadN_lt (M : List Pg) (x : Nat) (s : Int) : (loadN M x s).1 < 18446744073709551616 := by
  unfold loadN
  split
  · rename_i h
    obtain ⟨n, rfl, hn, _⟩ := sizeOk_nat h
    split
    · exact getL_lt64 _ (by simp [bytesN]; omega)
    · exact Nat.zero_lt_succ _
  · exact Nat.zero_lt_succ _
theorem extend_at (n : Nat) (b bi : Int) (h : bi = b) (w : World) (hn : n < 18446744073709551616) :
    Calls Tryz.prog 105 #[.int .u64 n, .int .i64 bi] w fun e w' => e = .returned (.int .u64 (extendN n b)) ∧ ∃ m, w' = w.drewN m := by subst h; exact extend_any n bi w hn
/-- what a load of a register leaves -/
def CpuLoadPost (M : List Pg) (g : Nat) (X : List Nat) (pc : Nat) (o : Int) (d a : Nat) (n : Int) (w : World) (e : Ending) (w' : World) : Prop :=
  e = .returned (fltV (loadN M (adr (getR X a) (u64N n)) (widthN o).1).2.1 (loadN M (adr (getR X a) (u64N n)) (widthN o).1).2.2) ∧ Keep [g] w w' ∧
    StIs w' g (if (loadN M (adr (getR X a) (u64N n)) (widthN o).1).2.1 = 0 then setR X d (if (widthN o).2 then extendN (loadN M (adr (getR X a) (u64N n)) (widthN o).1).1 (8 * (widthN o).1) else (loadN M (adr (getR X a) (u64N n)) (widthN o).1).1) else X) pc
set_option maxHeartbeats 2000000 in
set_option maxRecDepth 100000 in
theorem cpuLoad_any (sp m : Nat) (sl : Value) (q : Int) (ps : List (Pg × Nat)) (g : Nat) (X : List Nat) (pc : Nat) (o : Int) (d a : Nat) (b n : Int) (w : World) (hS : SpaceIs w sp m sl q ps) (hT : StIs w g X pc) (hX : Regs X) (hd : d < 32) (ha : a < 32) :
    Calls Tryz.prog 76 #[.pointer (some ⟨g, 0, none⟩), .pointer (some ⟨sp, 0, none⟩), .agg (instCells o d a b n)] w (CpuLoadPost (pgs ps) g X pc o d a n w) := by
  have HX := hid hX
  have HS := hid hS
  have HT := hid hT
  have hgl := hT.lt
  have hA := hX.get a
  have hc := hT.cell hX ha
  clear hX hS hT
  rcases hwd : widthN o with ⟨k, x⟩
  have Hwd := hid hwd
  clear hwd
  have hk8 : k ≤ 8 := by have := widthN_le o; rw [Hwd.out] at this; exact this
  obtain ⟨A, hAe⟩ : ∃ A, getR X a = A := ⟨_, rfl⟩
  have HAe := hid hAe
  rw [hAe] at hA hc
  clear hAe
  unfold instCells
  go_enter Tryz.func76, Tryz.ntmps76
  go_wp2_with fail
  refine (width_any o _).mono ?_
  rintro e w1 ⟨rfl, rfl⟩
  rw [Hwd.out]
  go_wp2_with fail
  obtain ⟨W, hW⟩ : ∃ W, (w.alloc (.cells #[.int .i64 o, .int .i64 d, .int .i64 a, .int .i64 b, .int .i64 n] 44)).alloc (.cells #[.int .i64 0, .int .u64 0, .string ⟨#[]⟩] 31) = W := ⟨_, rfl⟩
  have B1 : Hid (Below w.heap.size w W) := hid (by rw [← hW]; exact ((Below.refl _ _).alloc (Nat.le_refl _) _).alloc (by simp) _)
  have M5 : Hid (W.heap[w.heap.size]? = some (.cells #[.int .i64 o, .int .i64 d, .int .i64 a, .int .i64 b, .int .i64 n] 44 (0, 0))) := hid (by rw [← hW]; exact heap_alloc2_old w _ _)
  have M6 : Hid (W.heap[w.heap.size + 1]? = some (.cells #[.int .i64 0, .int .u64 0, .string ⟨#[]⟩] 31 (0, 0))) := hid (by rw [← hW]; exact heap_alloc2_new w _ _)
  have x1 : W.cell? ⟨w.heap.size, 1, none⟩ = some (.int .i64 d) := by rw [cell_of_row W _ _ _ _ _ M5.out]; rfl
  have x2 : W.cell? ⟨w.heap.size, 2, none⟩ = some (.int .i64 a) := by rw [cell_of_row W _ _ _ _ _ M5.out]; rfl
  have x4 : W.cell? ⟨w.heap.size, 4, none⟩ = some (.int .i64 n) := by rw [cell_of_row W _ _ _ _ _ M5.out]; rfl
  have hcW : W.cell? ⟨g, a, none⟩ = some (.int .u64 A) := by rw [← hc]; exact World.cell?_of_block (B1.out.block _ hgl)
  have HSW := hid (HS.out.below B1.out)
  have l5 := blk_lt' M5.out
  have lg : g < W.heap.size := Nat.lt_of_lt_of_le hgl B1.out.size
  rw [hW]
  clear hW
  refine wp_region_allocL 17 19 [0, 1, 2, 3, 4, 5, 6, 7, 8, 9, 10, 11, 12, 13, 14, 15, 16, 18] 10 (.cells #[.int .i64 0, .int .u64 0, .string ⟨#[]⟩] 31) (by kernel_rfl) (by kernel_rfl) _ rfl rfl rfl (fun a w => by kernel_rfl) ?_
  simp only [List.take_succ_cons, List.take_zero, List.drop_succ_cons, List.drop_zero, Nat.reduceSub, List.cons_append, List.nil_append, Nat.reduceAdd]
  obtain ⟨D, hD⟩ : ∃ D, W.drew = D := ⟨_, rfl⟩
  have y1 : D.cell? ⟨w.heap.size, 1, none⟩ = some (.int .i64 d) := by rw [← hD]; exact x1
  have y2 : D.cell? ⟨w.heap.size, 2, none⟩ = some (.int .i64 a) := by rw [← hD]; exact x2
  have y4 : D.cell? ⟨w.heap.size, 4, none⟩ = some (.int .i64 n) := by rw [← hD]; exact x4
  have yc : D.cell? ⟨g, a, none⟩ = some (.int .u64 A) := by rw [← hD]; exact hcW
  have m5 : w.heap.size < D.heap.size := by rw [← hD]; exact l5
  have mg : g < D.heap.size := by rw [← hD]; exact lg
  have HSD : Hid (SpaceIs D sp m sl q ps) := hid (by rw [← hD]; exact HSW.out.drew1)
  have BD : Hid (Below W.heap.size W D) := hid (by rw [← hD]; exact (Below.refl _ _).drew)
  rw [hD]
  clear hD x1 x2 x4 hcW l5 lg
  iterate 13 (refine mono_val _ rfl (fun u => by first | (go_simp; done) | (go_simp; rfl) | (go_simp; rw [if_pos (by omega)])) ?_; simp only [Act.put, List.setIfInBounds_toArray, List.set_cons_zero, List.set_cons_succ])
  rcases hld : loadN (pgs ps) (adr A (u64N n)) k with ⟨v, c, f⟩
  have Hld := hid hld
  clear hld
  refine mono_call (.tuple #[.int .u64 v, fltV c f]) 106 #[.pointer (some ⟨sp, 0, none⟩), .int .u64 (IntKind.u64.wrap ((A : Int) + IntKind.u64.wrap n)), .int .i64 k] rfl (fun u => by kernel_rfl) (fun u => ((load_at sp m sl q ps (adr A (u64N n)) _ (adr_wrap A n) k _ (Nat.mod_lt _ (by decide)) (HSD.out.below (aft_below D u))).mono (by rintro e w' ⟨rfl, hb⟩; exact ⟨by rw [Hld.out], hb⟩))) ?_
  (try simp only [Act.put, List.setIfInBounds_toArray, List.set_cons_zero, List.set_cons_succ])
  iterate 4 (refine mono_val _ rfl (fun u => by first | (go_simp; done) | (go_simp; rfl) | (go_simp; rw [if_pos (by omega)])) ?_; simp only [Act.put, List.setIfInBounds_toArray, List.set_cons_zero, List.set_cons_succ])
  refine mono_nil ?_
  intro G wc hB hG hb
  simp only [Act.put, List.setIfInBounds_toArray, List.set_cons_zero, List.set_cons_succ]
  have HB : Hid (Below w.heap.size w wc) := hid (B1.out.trans (hB.mono B1.out.size))
  have P5 := hid ((hB.block _ (blk_lt' M5.out)).trans M5.out)
  have P6 := hid ((hB.block _ (blk_lt' M6.out)).trans M6.out)
  clear hB
  have hGn : w.heap.size + 1 < G := Nat.lt_of_lt_of_le (blk_lt' M6.out) hG
  have R0 : Hid ((wc.setRow G #[.int .i64 c, .int .u64 f, .string ⟨#[]⟩]).heap[G]? = some (.cells #[.int .i64 c, .int .u64 f, .string ⟨#[]⟩] 31 (0, 0))) := hid (setRow_heap _ _ _ _ _ _ hb)
  have R5 : Hid ((wc.setRow G #[.int .i64 c, .int .u64 f, .string ⟨#[]⟩]).heap[w.heap.size]? = _) := hid ((setRow_other wc G _ _ (by omega)).trans P5.out)
  have R6 : Hid ((wc.setRow G #[.int .i64 c, .int .u64 f, .string ⟨#[]⟩]).heap[w.heap.size + 1]? = _) := hid ((setRow_other wc G _ _ (by omega)).trans P6.out)
  have RB := hid (below_setRow HB.out (show w.heap.size ≤ G by omega) #[.int .i64 c, .int .u64 f, .string ⟨#[]⟩])
  obtain ⟨W3, h3⟩ : ∃ W3, wc.setRow G #[.int .i64 c, .int .u64 f, .string ⟨#[]⟩] = W3 := ⟨_, rfl⟩
  rw [h3] at R0 R5 R6 RB
  have q0 : W3.cell? ⟨G, 0, none⟩ = some (.int .i64 c) := by rw [cell_of_row W3 _ _ _ _ _ R0.out]; rfl
  have q1 : W3.cell? ⟨G, 1, none⟩ = some (.int .u64 f) := by rw [cell_of_row W3 _ _ _ _ _ R0.out]; rfl
  have q2 : W3.cell? ⟨G, 2, none⟩ = some (.string ⟨#[]⟩) := by rw [cell_of_row W3 _ _ _ _ _ R0.out]; rfl
  clear P5 P6 HSW HSD BD M5 M6 y1 y2 y4 yc m5 mg B1
  by_cases hc0 : c = 0
  · subst hc0
    go_wp2_with (refine wpList_store_row rfl 31 (.tmp 10) (.tmp 33) rfl G #[.int .i64 ((0 : Nat) : Int), .int .u64 f, .string ⟨#[]⟩] rfl rfl 31 _ hb infoFault rfl (faultRow_one ..) ?_; rw [h3]; clear h3 hb)
    have hf0 : f = 0 := by have := loadN_zero (M := pgs ps) (x := adr A (u64N n)) (s := k) (by rw [Hld.out]); rw [Hld.out] at this; exact this
    subst hf0
    refine (ok_zero _ _ _).mono ?_
    rintro e W4 ⟨rfl, hb4⟩
    have T4 := hid (((HT.out.below RB.out).below (hb4.mono (Nat.le_refl _))))
    have S5 := hid ((hb4.block _ (blk_lt' R5.out)).trans R5.out)
    have S6 := hid ((hb4.block _ (blk_lt' R6.out)).trans R6.out)
    have RB4 := hid (RB.out.trans (hb4.mono RB.out.size))
    have z1 : W4.cell? ⟨w.heap.size, 1, none⟩ = some (.int .i64 d) := by rw [cell_of_row W4 _ _ _ _ _ S5.out]; rfl
    clear hb4 R0 R5 R6 RB q0 q1 q2
    cases x with
    | false =>
      go_wp2_with fail
      refine (set_any g X pc d v _ T4.out HX.out hd).mono ?_
      rintro e W5 ⟨rfl, hst, hkp⟩
      have V6 := hkp.row S6.out (by simp; omega)
      have Hst := hid hst
      have Hkp := hid hkp
      clear hst hkp
      go_wp2_with (refine wpList_store_row rfl 31 (.tmp 6) (.tmp 48) rfl (w.heap.size + 1) _ rfl rfl 31 _ V6 infoFault rfl (faultRow_one ..) ?_)
      refine bodyPost_ret (results_cell_row rfl _ _ (w.heap.size + 1) 31 _ (0, 0) _ rfl (setRow_heap _ _ _ _ _ _ V6) Tryz.underlying31 rfl infoFault) rfl ?_
      unfold CpuLoadPost
      rw [HAe.out, Hwd.out, Hld.out]
      exact ⟨rfl, ((Keep.of_below RB4.out).trans Hkp.out).setRow _ _ (.inl (by omega)), (setRow_other _ _ _ _ (by omega)).trans Hst.out⟩
    | true =>
      go_wp2_with fail
      refine (extend_at v (8 * k) _ (by first | rfl | (unfold wrap64; omega)) _ (by have := loadN_lt (pgs ps) (adr A (u64N n)) k; rw [Hld.out] at this; exact this)).mono ?_
      rintro e w5 ⟨rfl, m5, rfl⟩
      have T5 := hid (T4.out.below (below_drewN (Below.refl _ _) m5))
      have U6 : Hid ((W4.drewN m5).heap[w.heap.size + 1]? = _) := hid S6.out
      have UB := hid (below_drewN RB4.out m5)
      have z2 : (W4.drewN m5).cell? ⟨w.heap.size, 1, none⟩ = some (.int .i64 d) := z1
      obtain ⟨W5, hW5⟩ : ∃ W5, W4.drewN m5 = W5 := ⟨_, rfl⟩
      rw [hW5] at T5 U6 UB z2
      rw [hW5]
      clear hW5 z1 S5 S6 T4 RB4
      have S6 := U6
      have RB4 := UB
      go_wp2_with fail
      refine (set_any g X pc d (extendN v (8 * k)) _ T5.out HX.out hd).mono ?_
      rintro e W6 ⟨rfl, hst, hkp⟩
      have V6 := hkp.row S6.out (by simp; omega)
      have Hst := hid hst
      have Hkp := hid hkp
      clear hst hkp
      go_wp2_with (refine wpList_store_row rfl 31 (.tmp 6) (.tmp 48) rfl (w.heap.size + 1) _ rfl rfl 31 _ V6 infoFault rfl (faultRow_one ..) ?_)
      refine bodyPost_ret (results_cell_row rfl _ _ (w.heap.size + 1) 31 _ (0, 0) _ rfl (setRow_heap _ _ _ _ _ _ V6) Tryz.underlying31 rfl infoFault) rfl ?_
      unfold CpuLoadPost
      rw [HAe.out, Hwd.out, Hld.out]
      exact ⟨rfl, ((Keep.of_below RB4.out).trans Hkp.out).setRow _ _ (.inl (by omega)), (setRow_other _ _ _ _ (by omega)).trans Hst.out⟩
  · go_wp2_with (refine wpList_store_row rfl 31 (.tmp 10) (.tmp 33) rfl G #[.int .i64 c, .int .u64 f, .string ⟨#[]⟩] rfl rfl 31 _ hb infoFault rfl (faultRow_one ..) ?_; rw [h3]; clear h3 hb)
    refine (ok_not _ _ _ _ (by omega)).mono ?_
    rintro e W4 ⟨rfl, hb4⟩
    have T4 := hid (((HT.out.below RB.out).below (hb4.mono (Nat.le_refl _))))
    have S0 := hid ((hb4.block _ (blk_lt' R0.out)).trans R0.out)
    have S6 := hid ((hb4.block _ (blk_lt' R6.out)).trans R6.out)
    have RB4 := hid (RB.out.trans (hb4.mono RB.out.size))
    have z0 : W4.cell? ⟨G, 0, none⟩ = some (.int .i64 c) := by rw [cell_of_row W4 _ _ _ _ _ S0.out]; rfl
    have z1 : W4.cell? ⟨G, 1, none⟩ = some (.int .u64 f) := by rw [cell_of_row W4 _ _ _ _ _ S0.out]; rfl
    have z2 : W4.cell? ⟨G, 2, none⟩ = some (.string ⟨#[]⟩) := by rw [cell_of_row W4 _ _ _ _ _ S0.out]; rfl
    clear hb4 R0 R5 R6 RB q0 q1 q2
    have V6 := S6.out
    go_wp2_with (refine wpList_store_row rfl 31 (.tmp 6) (.tmp 37) rfl (w.heap.size + 1) #[.int .i64 c, .int .u64 f, .string ⟨#[]⟩] rfl rfl 31 _ V6 infoFault rfl (faultRow_one ..) ?_)
    refine bodyPost_ret (results_cell_row rfl _ _ (w.heap.size + 1) 31 _ (0, 0) _ rfl (setRow_heap _ _ _ _ _ _ V6) Tryz.underlying31 rfl infoFault) rfl ?_
    unfold CpuLoadPost
    rw [HAe.out, Hwd.out, Hld.out]
    refine ⟨rfl, (Keep.of_below RB4.out).setRow _ _ (.inl (by omega)), ?_⟩
    rw [if_neg hc0]
    exact (setRow_other _ _ _ _ (by omega)).trans T4.out
end
end Go.Proofs.YtiemingpbommeaaGreatDoor

/- A region inside a round of a range over a function, at the wide fence: what is shown of it outside holds inside. -/
namespace Go.Proofs.YtiemingpbommeaaGreatDoor
open Go Go.RowKit
section
variable {P : Program} {Q : Exit → Act → World → Prop}
theorem rowsIn_wide {n l : Nat} {row : String} {args : Array Value} {w : World} {R : Value → World → Prop} (h : Rows P row args w R) : RowsIn (Fence.wide.inRound l) n P row args w R :=
  fun c cs _ => let ⟨v, w', r, s⟩ := h c cs; ⟨v, w', r, stepsIn_wide.2 s⟩
theorem uponIn_of_upon {n l : Nat} {o : Oper} {a : Act} {K : Act → World → Prop} : ∀ {r : Result Next}, o.upon P a K Q r → o.uponIn (Fence.wide.inRound l) n P a K Q r
  | .ok (.value _) _, h => h
  | .ok .skip _, h => h
  | .ok (.defer _) _, h => h
  | .ok (.enter _ _) _, h => ⟨fun e => (by cases e), CallsIn.inRound l (callsIn_wide.2 h)⟩
  | .ok (.row _ _) _, h => ⟨fun e => (by cases e), rowsIn_wide h⟩
  | .halt (.panic _) _, h => h
theorem operIn_of_wp {n l : Nat} {o : Oper} {a : Act} {w : World} {K : Act → World → Prop} (hd : ∀ c, o.op ≠ .defer c) (h : o.wp P a w K Q) : o.wpIn (Fence.wide.inRound l) n P a w K Q := by
  refine ⟨fun _ _ => trivial, ?_⟩
  rw [Oper.semAt_eq _ _ _ hd]
  exact uponIn_of_upon h
/-- no operation that defers -/
def noDefer (ops : Array Oper) : Bool := ops.all fun o => match o.op with | .defer _ => false | _ => true
theorem noDefer_at {ops : Array Oper} (h : noDefer ops = true) {i : Nat} {o : Oper} (ho : ops[i]? = some o) : ∀ c, o.op ≠ .defer c := fun c e => by
  obtain ⟨hi, rfl⟩ := Array.getElem?_eq_some_iff.1 ho
  have := (Array.all_eq_true.1 h) i hi
  rw [e] at this
  cases this
theorem anyIn_of_any {n l : Nat} {md : Region.Mode} {ops : Array Oper} (hd : noDefer ops = true) (hQ : ¬LetsOut Q) :
    ∀ (f : Nat) (listed : Array Bool) (a : Act) (w : World), wpAny P md ops Q f listed a w → wpAnyIn (Fence.wide.inRound l) n P md ops Q f listed a w
  | 0, _, _, _, h => h
  | f + 1, listed, a, w, h => by
    refine ⟨h.1, fun i hi => ?_⟩
    have h2 := h.2 i hi
    unfold wpOp at h2
    unfold wpOpIn
    cases ho : ops[i]? with
    | none => rw [ho] at h2; exact anyIn_of_any hd hQ f _ _ _ h2
    | some o =>
      rw [ho] at h2
      dsimp only at h2 ⊢
      split at h2
      · rename_i hw
        rw [if_pos hw]
        rcases h2 with h2 | ⟨_, h2⟩
        · exact operIn_of_wp (noDefer_at hd ho) (Oper.wp_mono (fun a w h => anyIn_of_any hd hQ f _ a w h) h2)
        · exact absurd h2 hQ
      · rename_i hw
        rw [if_neg hw]
        exact ⟨fun _ _ => trivial, anyIn_of_any hd hQ f _ _ _ h2⟩
theorem region_round {n l id : Nat} {l' : List Oper} {a : Act} {w : World} (hm : P.follows .mixedOrders = true) (hd : noDefer l'.toArray = true) (hQ : ¬LetsOut Q)
    (h : wpAny P .any l'.toArray Q l'.length (Array.replicate l'.length false) a { w with drawn := w.drawn + 1 }) : (Code.region id l'.toArray true).wpIn (Fence.wide.inRound l) n P Q a w :=
  wpIn_region_any hm (anyIn_of_any hd hQ _ _ _ _ (by simpa using h))
/-! ### a region's orders, step by step -/
variable {ops : Array Oper} {md : Region.Mode}
theorem wpOp_val {i : Nat} {o : Oper} {v : Value} {K : Act → World → Prop} {a : Act} {w w' : World} (ho : ops[i]? = some o) (hg : o.guard = none) (hr : (execOp a.eval o).run P w = .ok (.value v) w') (hK : K (a.put o.dst v) w') : wpOp P ops Q i K a w := by
  unfold wpOp
  rw [ho]
  dsimp only
  rw [if_pos (by simp [Region.wanted, hg])]
  refine .inl ?_
  show o.upon P a K Q _
  rw [hr]
  exact hK
theorem wpOp_none {i : Nat} {o : Oper} {K : Act → World → Prop} {a : Act} {w w' : World} (ho : ops[i]? = some o) (hg : o.guard = none) (hr : (execOp a.eval o).run P w = .ok .skip w') (hK : K (a.put o.dst undef) w') : wpOp P ops Q i K a w := by
  unfold wpOp
  rw [ho]
  dsimp only
  rw [if_pos (by simp [Region.wanted, hg])]
  refine .inl ?_
  show o.upon P a K Q _
  rw [hr]
  exact hK
theorem any1 {i : Nat} {f : Nat} {listed : Array Bool} {a : Act} {w : World} (hr : Region.ready md ops listed = [i]) (h : wpOp P ops Q i (wpAny P md ops Q f (listed.setIfInBounds i true)) a w) : wpAny P md ops Q (f + 1) listed a w :=
  wpAny_all hr (by simp) fun j hj => by obtain rfl := List.mem_singleton.1 hj; exact h
theorem any2 {i j : Nat} {f : Nat} {listed : Array Bool} {a : Act} {w : World} (hr : Region.ready md ops listed = [i, j]) (h : wpOp P ops Q i (wpAny P md ops Q f (listed.setIfInBounds i true)) a w)
    (h' : wpOp P ops Q j (wpAny P md ops Q f (listed.setIfInBounds j true)) a w) : wpAny P md ops Q (f + 1) listed a w :=
  wpAny_all hr (by simp) fun k hk => by
    rcases List.mem_cons.1 hk with rfl | hk
    · exact h
    · obtain rfl := List.mem_singleton.1 hk; exact h'
end
end Go.Proofs.YtiemingpbommeaaGreatDoor

/- As MonoB, where the maker may stand behind the head, and what follows the head is shown for each order by hand: behind a head of quiet operations (in any order, the block's maker at any place among them) the region is shown where the maker has come up and where it hasn't. -/
namespace Go.Proofs.YtiemingpbommeaaGreatDoor
open Go Go.RowKit
section
variable {P : Program} {ops : Array Oper} {W : World}
def chainX (ops : Array Oper) (n T : Nat) : Bool :=
  (List.range ops.size).all fun t => decide (t ≤ T) || decide (t = n) || (List.range t).any fun j => decide (T ≤ j) && decide (j ≠ n) && Region.waitsFor .any ops t j
structure HeadX (ops : Array Oper) (n T : Nat) (listed : Array Bool) : Prop where
  size : listed.size = ops.size
  closed : ∀ j oj, ops[j]? = some oj → listed.getD j false = true → ∀ e ∈ oj.after, Region.binds .any e = true → listed.getD e.on false = true
  tail : ∀ t, T ≤ t → t < ops.size → t ≠ n → listed.getD t true = false
theorem HeadX.set {n T i : Nat} {listed : Array Bool} (inv : HeadX ops n T listed) (hi : i ∈ Region.ready .any ops listed) (hin : i < T) : HeadX ops n T (listed.setIfInBounds i true) := by
  obtain ⟨_, oi, hoi, hall⟩ := mem_ready.1 hi
  refine ⟨by simp [inv.size], fun j oj hj hl e he hb => ?_, fun t ht ht' htn => by rw [getD_set_ne true (by omega)]; exact inv.tail t ht ht' htn⟩
  by_cases hij : i = j
  · subst hij
    have : oj = oi := Option.some.inj (hj.symm.trans hoi)
    subst this
    exact getD_set_true (hall e he hb)
  · rw [getD_set_ne false hij] at hl
    exact getD_set_true (inv.closed j oj hj hl e he hb)
theorem tailX_waits {n T : Nat} {listed : Array Bool} (hs : Region.sinkB .any ops T = true) (hc : chainX ops n T = true) (hn : T < ops.size) (inv : HeadX ops n T listed) :
    ∀ (d i : Nat), T - i = d → i < T → listed.getD i true = false → ∀ (m t : Nat), t ≤ m → T ≤ t → t ≠ n → t ∉ Region.ready .any ops listed := by
  intro d
  induction d using Nat.strongRecOn with
  | _ d ih =>
    intro i hd hi hun m
    induction m with
    | zero =>
      intro t hm ht; omega
    | succ m ihm =>
      intro t hm ht htne hr
      obtain ⟨_, ot, hot, hall⟩ := mem_ready.1 hr
      have htlt : t < ops.size := (Array.getElem?_eq_some_iff.1 hot).1
      by_cases htn : t = T
      · subst htn
        have h1 := List.all_eq_true.1 hs i (List.mem_range.2 hi)
        obtain ⟨j, hj, hj2⟩ := List.any_eq_true.1 h1
        simp only [Bool.and_eq_true, decide_eq_true_eq] at hj2
        obtain ⟨oj, hoj, e, he, hb, hon⟩ := Region.waitsFor_spec hj2.2
        have hjle : j ≤ t := by have := List.mem_range.1 hj; omega
        by_cases hjt : j = t
        · subst hjt
          have : oj = ot := Option.some.inj (hoj.symm.trans hot)
          subst this
          have h2 := hall e he hb
          rw [hon, getD_both hun] at h2
          cases h2
        · cases hl : listed.getD j false with
          | true =>
            have h2 := inv.closed j oj hoj hl e he hb
            rw [hon, getD_both hun] at h2
            cases h2
          | false =>
            have hjs : j < listed.size := by rw [inv.size]; omega
            exact ih (t - j) (by omega) j rfl (by omega) (getD_in hjs hl) (m + 1) t hm (Nat.le_refl _) htne hr
      · have h1 := List.all_eq_true.1 hc t (List.mem_range.2 htlt)
        simp only [Bool.or_eq_true, decide_eq_true_eq] at h1
        rcases h1 with (h1 | h1) | h1
        · omega
        · exact absurd h1 htne
        · obtain ⟨j, hj, hj2⟩ := List.any_eq_true.1 h1
          simp only [Bool.and_eq_true, decide_eq_true_eq] at hj2
          have hjt := List.mem_range.1 hj
          obtain ⟨o', ho', e, he, hb, hon⟩ := Region.waitsFor_spec hj2.2
          have : o' = ot := Option.some.inj (ho'.symm.trans hot)
          subst this
          have h2 := hall e he hb
          rw [hon] at h2
          have h3 := inv.tail j hj2.1.1 (by omega) hj2.1.2
          rw [getD_both h3] at h2
          cases h2
def headX (P : Program) (ops : Array Oper) (W : World) (n T : Nat) (L : Array Bool → Act → Prop) : Nat → Array Bool → Act → Prop
  | 0, listed, a => L listed a
  | f + 1, listed, a => Region.ready .any ops listed ≠ [] ∧ ∀ i ∈ Region.ready .any ops listed, (i < T ∧ i ≠ n) ∧ mOp P ops W i (headX P ops W n T L f (listed.setIfInBounds i true)) a
structure HeadOkX (ops : Array Oper) (n T : Nat) : Prop where
  sink : Region.sinkB .any ops T = true
  chain : chainX ops n T = true
  lt : T < ops.size
  nlt : n < ops.size
theorem headX_lt {n T : Nat} (hk : HeadOkX ops n T) {listed : Array Bool} (inv : HeadX ops n T listed) {i : Nat} (hi : i < T) (hun : listed.getD i true = false) {j : Nat} (hj : j ∈ Region.ready .any ops listed) (hl : listed.getD n false = true) : j < T ∧ j ≠ n := by
  have hjn : j ≠ n := by
    rintro rfl
    have h0 := (mem_ready.1 hj).1
    have hs : j < listed.size := by rw [inv.size]; exact hk.nlt
    simp [hs] at h0 hl
    rw [h0] at hl; cases hl
  exact ⟨Nat.lt_of_not_le fun h => tailX_waits hk.sink hk.chain hk.lt inv _ i rfl hi hun j j (Nat.le_refl _) h hjn hj, hjn⟩
theorem headX_first {n T i : Nat} {oi : Oper} {v : Value} {L : Array Bool → Act → Prop} (hk : HeadOkX ops n T) (hi : ops[i]? = some oi) (hsel : ∀ (j : Nat) (o : Oper) cs b, ops[j]? = some o → o.op ≠ .select cs b)
    (hin : i < T) (hdone : ∀ listed a, L listed a → ∀ j ∈ Region.ready .any ops listed, T ≤ j) :
    ∀ (f : Nat) (listed : Array Bool) (a : Act), HeadX ops n T listed → listed.getD n false = true →
      (∀ j oj, ops[j]? = some oj → j ≠ i → listed.getD j true = false → (∀ e ∈ oj.after, Region.binds .any e = true → e.on ≠ i) → oi.apart ops oj = true) →
      i ∈ Region.ready .any ops listed → MonoIn P ops W oi v a →
      headX P ops W n T L f (listed.setIfInBounds i true) (a.put oi.dst v) → headX P ops W n T L (f + 1) listed a := by
  intro f
  induction f with
  | zero =>
    intro listed a inv hl _ hr hy H
    refine ⟨List.ne_nil_of_mem hr, fun j hj => ?_⟩
    have hun := (mem_ready.1 hr).1
    have h2 := headX_lt hk inv hin hun hj hl
    refine ⟨h2, ?_⟩
    by_cases hji : j = i
    · subst hji; exact hy.mOp hi H
    · have h1 := hdone _ _ H j (ready_mono hj hji)
      omega
  | succ f ih =>
    intro listed a inv hl hfree hr hy H
    refine ⟨List.ne_nil_of_mem hr, fun j hj => ?_⟩
    have hun := (mem_ready.1 hr).1
    have hjn := headX_lt hk inv hin hun hj hl
    refine ⟨hjn, ?_⟩
    by_cases hji : j = i
    · subst hji; exact hy.mOp hi H
    · have h1 := (H.2 j (ready_mono hj hji)).2
      obtain ⟨hjun, oj, hoj, hall⟩ := mem_ready.1 hj
      have hnot : ∀ e ∈ oj.after, Region.binds .any e = true → e.on ≠ i := fun e he hb heq => by
        have h1 := hall e he hb
        rw [heq, getD_both hun] at h1
        cases h1
      have h2 := mOp_put hoj (hfree j oj hoj hji hjun hnot) (fun cs b => hsel i oi cs b hi) (fun cs b => hsel j oj cs b hoj) hy h1
      have hfree' : ∀ k ok, ops[k]? = some ok → k ≠ i → (listed.setIfInBounds j true).getD k true = false →
          (∀ e ∈ ok.after, Region.binds .any e = true → e.on ≠ i) → oi.apart ops ok = true := fun k ok hk hki hun hno => by
        refine hfree k ok hk hki ?_ hno
        by_cases hjk : j = k
        · subst hjk; exact hjun
        · rw [getD_set_ne true hjk] at hun; exact hun
      refine mOp_mono (fun a' h3 => ih (listed.setIfInBounds j true) a' (inv.set hj hjn.1) (getD_set_true hl) hfree' (ready_mono hr (Ne.symm hji)) h3.1 ?_) h2
      rw [Array.setIfInBounds_comm _ _ hji]
      exact h3.2
def lexHeadX (ops : Array Oper) (T : Nat) : List Nat → Array Bool → Bool
  | [], listed => (Region.ready .any ops listed).all fun j => decide (T ≤ j)
  | k :: ks, listed => decide (k < T) && (Region.ready .any ops listed).contains k && Region.free .any ops listed k && lexHeadX ops T ks (listed.setIfInBounds k true)
def listX (ks : List Nat) (listed : Array Bool) : Array Bool := ks.foldl (fun l k => l.setIfInBounds k true) listed
theorem lexX_end {T : Nat} : ∀ (ks : List Nat) (listed : Array Bool), lexHeadX ops T ks listed = true → ∀ j ∈ Region.ready .any ops (listX ks listed), T ≤ j
  | [], listed, h, j, hj => by simpa using List.all_eq_true.1 h j hj
  | k :: ks, listed, h, j, hj => by
    simp only [lexHeadX, Bool.and_eq_true] at h
    exact lexX_end ks _ h.2 j hj
theorem headX_lex {n T : Nat} {Lq : Act → Prop} (hk : HeadOkX ops n T) (hsel : Region.noSelect ops = true) :
    ∀ (ks : List Nat) (listed : Array Bool) (a : Act), HeadX ops n T listed → listed.getD n false = true →
    lexHeadX ops T ks listed = true → wpMonoN P ops W Lq ks a →
    headX P ops W n T (fun listed' a' => listed' = listX ks listed ∧ Lq a') ks.length listed a
  | [], listed, a, _, _, hB, h => ⟨rfl, h⟩
  | k :: ks, listed, a, inv, hln, hB, h => by
    have hB0 := hB
    simp only [lexHeadX, Bool.and_eq_true, decide_eq_true_eq] at hB
    obtain ⟨⟨⟨hkT, hr⟩, hf⟩, hB'⟩ := hB
    have hr' : k ∈ Region.ready .any ops listed := by simpa using hr
    obtain ⟨_, o, h0, _⟩ := mem_ready.1 hr'
    obtain ⟨v, hy, hK⟩ := monoIn_of_mOp h0 h
    exact headX_first hk h0 (Region.noSelect_spec hsel) hkT (fun listed' a' hL j hj => by rw [hL.1] at hj; exact lexX_end _ _ hB0 j hj) ks.length listed a inv hln (Region.free_spec h0 hf) hr' hy
      (headX_lex hk hsel ks _ _ (inv.set hr' hkT) (getD_set_true hln) hB' hK)
theorem wpAnyX_done {n T g : Nat} {oa : Oper} {p : Value} {C : World → Prop} {L : Array Bool → Act → Prop} {Q : Exit → Act → World → Prop} (hC : Closed W C) (hsel : ∀ (j : Nat) (o : Oper) cs b, ops[j]? = some o → o.op ≠ .select cs b)
    (hap : ∀ j o, ops[j]? = some o → j < T → j ≠ n → oa.apart ops o = true) (hL : ∀ listed a, L listed a → ∀ w, C w → wpAny P .any ops Q g listed (a.put oa.dst p) w) :
    ∀ (f : Nat) (listed : Array Bool) (a : Act), headX P ops W n T L f listed a → ∀ w, C w → wpAny P .any ops Q (f + g) listed (a.put oa.dst p) w
  | 0, listed, a, h, w, hw => by rw [Nat.zero_add]; exact hL _ _ h w hw
  | f + 1, listed, a, h, w, hw => by
    rw [show f + 1 + g = (f + g) + 1 by omega]
    refine ⟨fun h0 => absurd h0 h.1, fun i hi => ?_⟩
    obtain ⟨hin, hm⟩ := h.2 i hi
    obtain ⟨_, o, ho, _⟩ := mem_ready.1 hi
    refine wpOp_of_qOp hw (fun a'' w' hw' h' => ?_) (qOp_of_mOp hC (mOp_shift ho (hap i o ho hin.1 hin.2) (fun cs b => hsel i o cs b ho) p hm))
    obtain ⟨a', rfl, hK⟩ := h'
    exact wpAnyX_done hC hsel hap hL f _ a' hK w' hw'
theorem wpAnyX_pending {n T g : Nat} {oa : Oper} {L : Array Bool → Act → Prop} {Q : Exit → Act → World → Prop} (hk : HeadOkX ops n T) (hoa : ops[n]? = some oa) (hg : oa.guard = none) (obj : Obj)
    (hrun : ∀ (a : Act) (w : World), (execOp a.eval oa).run P w = .ok (.value (.pointer (some ⟨w.heap.size, 0, none⟩))) (w.alloc obj))
    (hsel : ∀ (j : Nat) (o : Oper) cs b, ops[j]? = some o → o.op ≠ .select cs b)
    (hap : ∀ j o, ops[j]? = some o → j < T → j ≠ n → oa.apart ops o = true)
    (hfree : ∀ e ∈ oa.after, Region.binds .any e = false)
    (hP : ∀ listed a, listed.getD n true = false → L (listed.setIfInBounds n true) a → ∀ w, Below W.heap.size W w → wpAny P .any ops Q (g + 1) listed a w)
    (hL : ∀ listed a, L listed a → ∀ g' w, Below W.heap.size W w → W.heap.size ≤ g' → w.heap[g']? = some obj → wpAny P .any ops Q g listed (a.put oa.dst (.pointer (some ⟨g', 0, none⟩))) w) :
    ∀ (f : Nat) (listed : Array Bool) (a : Act), listed.getD n true = false → headX P ops W n T L f (listed.setIfInBounds n true) a → ∀ w, Below W.heap.size W w → wpAny P .any ops Q (f + g + 1) listed a w
  | 0, listed, a, hn, h, w, hw => by rw [Nat.zero_add]; exact hP _ _ hn h w hw
  | f + 1, listed, a, hn, h, w, hw => by
    rw [show f + 1 + g + 1 = (f + g + 1) + 1 by omega]
    have hrn : n ∈ Region.ready .any ops listed := mem_ready.2 ⟨hn, oa, hoa, fun e he hb => by rw [hfree e he] at hb; cases hb⟩
    refine ⟨fun h0 => (by rw [h0] at hrn; cases hrn), fun i hi => ?_⟩
    by_cases hin : i = n
    · subst hin
      unfold wpOp
      simp only [hoa]
      rw [if_pos (by simp [Region.wanted, hg])]
      refine .inl ?_
      show oa.upon P a _ Q _
      rw [hrun, Oper.upon_value]
      have hC : Closed W (fun w' => Below W.heap.size W w' ∧ w'.heap[w.heap.size]? = some obj) :=
        ⟨fun w' h => h.1, fun w' w'' h hb => ⟨h.1.trans (hb.mono h.1.size), (hb.block _ (Array.getElem?_eq_some_iff.1 h.2).1).trans h.2⟩⟩
      have H := wpAnyX_done hC hsel hap (fun listed' a' hl w' hw' => hL listed' a' hl _ w' hw'.1 hw.size hw'.2) (f + 1) _ a h _ ⟨hw.alloc hw.size _, heap_alloc_new _ _⟩
      rwa [show f + 1 + g = f + g + 1 by omega] at H
    · have hr' : i ∈ Region.ready .any ops (listed.setIfInBounds n true) := ready_mono hi hin
      obtain ⟨hlt, hm⟩ := h.2 i hr'
      have hC : Closed W (fun w' => Below W.heap.size W w') := ⟨fun w' h => h, fun w' w'' h hb => h.trans (hb.mono h.size)⟩
      skip
      refine wpOp_of_qOp hw (fun a' w' hw' h' => ?_) (qOp_of_mOp hC hm)
      rw [Array.setIfInBounds_comm _ _ (Ne.symm hin)] at h'
      exact wpAnyX_pending hk hoa hg obj hrun hsel hap hfree hP hL f _ a' (by rw [getD_set_ne true hin]; exact hn) h' w' hw'
/-- all that is asked of the region's form -/
def monoXB (ops : Array Oper) (n T : Nat) (ks : List Nat) : Bool :=
  Region.noSelect ops && decide (T < ops.size) && decide (n < ops.size) && decide (ks.length < ops.size) && Region.sinkB .any ops T && chainX ops n T &&
  (match ops[n]? with
    | some oa => oa.guard.isNone && oa.after.all (fun e => !Region.binds .any e) && (List.range T).all (fun j => j == n || (match ops[j]? with | some o => oa.apart ops o | none => true))
    | none => false) &&
  lexHeadX ops T ks ((Array.replicate ops.size false).setIfInBounds n true)
theorem wp_region_allocX {id : Nat} {Q : Exit → Act → World → Prop} {a : Act} {w : World} {l : List Oper} (n T : Nat) (ks : List Nat) (hd : List Oper) (t : Tmp) (obj : Obj) (hm : P.follows .mixedOrders = true) (hB : monoXB l.toArray n T ks = true)
    (oa : Oper) (hoa : l[n]? = some oa) (ht : oa.dst = some t) (hks : hd.map some = ks.map (l.toArray[·]?))
    (hrun : ∀ (a : Act) (w : World), (execOp a.eval oa).run P w = .ok (.value (.pointer (some ⟨w.heap.size, 0, none⟩))) (w.alloc obj))
    (h : wpMono P l.toArray w.drew (fun a' =>
      (∀ g w', Below w.heap.size w w' → w.heap.size ≤ g → w'.heap[g]? = some obj → wpAny P .any l.toArray Q (l.length - ks.length - 1) (listX ks ((Array.replicate l.length false).setIfInBounds n true)) (a'.put (some t) (.pointer (some ⟨g, 0, none⟩))) w') ∧
      (∀ w', Below w.heap.size w w' → wpAny P .any l.toArray Q (l.length - ks.length - 1 + 1) ((listX ks ((Array.replicate l.length false).setIfInBounds n true)).setIfInBounds n false) a' w')) hd a) :
    (Code.region id l.toArray true).wp P Q a w := by
  have hoa' : l.toArray[n]? = some oa := by simpa using hoa
  simp only [monoXB, Bool.and_eq_true, decide_eq_true_eq, hoa'] at hB
  obtain ⟨⟨⟨⟨⟨⟨⟨hsel, hT⟩, hn⟩, hlen⟩, hs⟩, hc⟩, ⟨hg, hfree⟩, hap⟩, hlex⟩ := hB
  have hk : HeadOkX l.toArray n T := ⟨hs, hc, hT, hn⟩
  have hnl : n < l.length := by simpa using hn
  have hll : ks.length < l.length := by simpa using hlen
  have hln : ((Array.replicate l.toArray.size false).setIfInBounds n true).getD n false = true := by simp [hnl]
  have hfree' : ∀ e ∈ oa.after, Region.binds .any e = false := fun e he => by
    have := Array.all_eq_true_iff_forall_mem.1 hfree e he
    simpa using this
  have inv0 : HeadX l.toArray n T ((Array.replicate l.toArray.size false).setIfInBounds n true) := by
    refine ⟨by simp, fun j oj hj hl e he hb => ?_, fun t ht ht' htn => ?_⟩
    · by_cases hjn : n = j
      · subst hjn
        obtain rfl : oj = oa := Option.some.inj (hj.symm.trans hoa')
        rw [hfree' e he] at hb; cases hb
      · rw [getD_set_ne false hjn, getD_replicate_false] at hl; cases hl
    · rw [getD_set_ne true (Ne.symm htn)]
      exact getD_in (by simpa using ht') (getD_replicate_false _ _)
  have H := headX_lex hk hsel ks _ a inv0 hln hlex (wpMonoN_of_list _ ks a hks h)
  refine wp_region_any hm ?_
  have hap' : ∀ j o, l.toArray[j]? = some o → j < T → j ≠ n → oa.apart l.toArray o = true := fun j o ho hj hjn => by
    have := List.all_eq_true.1 hap j (List.mem_range.2 hj)
    simpa [ho, hjn] using this
  have := wpAnyX_pending (Q := Q) (g := l.length - ks.length - 1) hk hoa' (by simpa using hg) obj hrun (Region.noSelect_spec hsel) hap' hfree' (fun listed a' hun hL w' hw' => by
      have e : listed = (listX ks ((Array.replicate l.length false).setIfInBounds n true)).setIfInBounds n false := by
        rw [show (Array.replicate l.length false).setIfInBounds n true = (Array.replicate l.toArray.size false).setIfInBounds n true by simp, ← hL.1]
        apply Array.ext_getElem?
        intro i
        by_cases hin : n = i
        · subst hin
          have hs : n < listed.size := by
            rcases Nat.lt_or_ge n listed.size with h | h
            · exact h
            · simp [Array.getElem?_eq_none h] at hun
          simp [hs] at hun ⊢
          exact hun
        · simp [hin]
      rw [e]
      exact hL.2.2 w' ⟨hw'.os, hw'.tape, hw'.output, hw'.size, hw'.block⟩) (fun listed a' hL g' w' hw' hg' hb' => by
      have e : listed = listX ks ((Array.replicate l.length false).setIfInBounds n true) := by rw [hL.1]; simp
      rw [e, ht]
      exact hL.2.1 g' w' ⟨hw'.os, hw'.tape, hw'.output, hw'.size, hw'.block⟩ hg' hb') ks.length (Array.replicate l.toArray.size false) a (getD_in (by simpa using hnl) (getD_replicate_false _ _)) H { w with drawn := w.drawn + 1 } (Below.refl _ _)
  rwa [show ks.length + (l.length - ks.length - 1) + 1 = l.toArray.size by simp; omega] at this
theorem take_range (l : List Oper) : ∀ T, T ≤ l.length → (l.take T).map some = (List.range T).map (l.toArray[·]?)
  | T, h => by
    apply List.ext_getElem
    · simp; omega
    · intro i h1 h2
      simp at h1 h2 ⊢
/-- the head is the first T operations -/
theorem wp_region_allocT {id : Nat} {Q : Exit → Act → World → Prop} {a : Act} {w : World} {l : List Oper} (n T : Nat) (t : Tmp) (obj : Obj) (hm : P.follows .mixedOrders = true) (hB : monoXB l.toArray n T (List.range T) = true) (hT : T ≤ l.length)
    (oa : Oper) (hoa : l[n]? = some oa) (ht : oa.dst = some t)
    (hrun : ∀ (a : Act) (w : World), (execOp a.eval oa).run P w = .ok (.value (.pointer (some ⟨w.heap.size, 0, none⟩))) (w.alloc obj))
    (h : wpMono P l.toArray w.drew (fun a' =>
      (∀ g w', Below w.heap.size w w' → w.heap.size ≤ g → w'.heap[g]? = some obj → wpAny P .any l.toArray Q (l.length - T - 1) (listX (List.range T) ((Array.replicate l.length false).setIfInBounds n true)) (a'.put (some t) (.pointer (some ⟨g, 0, none⟩))) w') ∧
      (∀ w', Below w.heap.size w w' → wpAny P .any l.toArray Q (l.length - T - 1 + 1) ((listX (List.range T) ((Array.replicate l.length false).setIfInBounds n true)).setIfInBounds n false) a' w')) (l.take T) a) :
    (Code.region id l.toArray true).wp P Q a w :=
  wp_region_allocX n T (List.range T) (l.take T) t obj hm hB oa hoa ht (take_range l T hT) hrun (by simpa only [List.length_range] using h)
/-- a row is stored, in an order by hand -/
theorem wpOp_store_row {Q : Exit → Act → World → Prop} {i : Nat} {o : Oper} {K : Act → World → Prop} {a : Act} {w : World} (hgo : ops[i]? = some o) (hgd : o.guard = none) (ty : TypeId) (x y : Operand) (ho : o.op = .store ty x y)
    (g : Nat) (cells : Array Value) (hx : a.eval x = .pointer (some ⟨g, 0, none⟩)) (hy : a.eval y = .agg cells)
    (t : TypeId) (old : Array Value) (hg : w.heap[g]? = some (.cells old t (0, 0))) (hi : (P.info? ty).map (·.size) = some cells.size)
    (hold : old.size = cells.size) (h1 : cells.all (·.oneCell') = true) (h : K (a.put o.dst undef) (w.setRow g cells)) : wpOp P ops Q i K a w := by
  unfold wpOp
  rw [hgo]
  dsimp only
  rw [if_pos (by simp [Region.wanted, hgd])]
  exact .inl (wp_store_row ty x y ho g cells hx hy t old hg hi hold h1 h)
/-- a call, in an order by hand -/
theorem wpOp_call {Q : Exit → Act → World → Prop} {i : Nat} {o : Oper} {f : FuncId} {args : Array Value} {K : Act → World → Prop} {a : Act} {w : World} (v : Value) (R : World → Prop) (ho : ops[i]? = some o) (hg : o.guard = none) (hr : (execOp a.eval o).run P w = .ok (.enter f args) w)
    (hc : Calls P f args w (fun e w'' => e = .returned v ∧ R w'')) (hK : ∀ w'', R w'' → K (a.put o.dst v) w'') : wpOp P ops Q i K a w := by
  unfold wpOp
  rw [ho]
  dsimp only
  rw [if_pos (by simp [Region.wanted, hg])]
  refine .inl ?_
  show o.upon P a K Q _
  rw [hr]
  exact hc.mono fun e w'' ⟨he, hR⟩ => by subst he; exact hK w'' hR
end
end Go.Proofs.YtiemingpbommeaaGreatDoor
