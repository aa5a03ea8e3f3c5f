/- A region that draws its order and in which a new block is made: its first n operations leave what is there as it is, operation n makes the block, the others follow one behind the other. One walk in the text's order serves. -/
import Derived.Test.YtiemingpbommeaaGreatDoorGa
import Derived.Deep.DeepCutAuto
import Derived.Deep.CutBlock
namespace Go.Proofs.YtiemingpbommeaaGreatDoor
open Go Go.RowKit
section
variable {P : Program} {ops : Array Oper} {W : World}
/-- what an operation yields in w: a value and the same world, or a call that returns it and leaves all that is there as it was -/
def monoUpon (P : Program) (w : World) (v : Value) : Result Next → Prop
  | .ok (.value u) w' => w' = w ∧ u = v
  | .ok .skip w' => w' = w ∧ v = undef
  | .ok (.enter f args) w' => w' = w ∧ Calls P f args w (fun e w'' => e = .returned v ∧ Below w.heap.size w w'')
  | _ => False
/-- in every world behind W the operation yields v -/
def monoAt (P : Program) (W : World) (o : Oper) (a : Act) (v : Value) : Prop := ∀ w, Below W.heap.size W w → monoUpon P w v ((execOp a.eval o).run P w)
def wpMono (P : Program) (ops : Array Oper) (W : World) (K : Act → Prop) : List Oper → Act → Prop
  | [], a => K a
  | o :: rest, a => if Region.wanted o (yielded ops a.tmps) then ∃ v, monoAt P W o a v ∧ wpMono P ops W K rest (a.put o.dst v) else wpMono P ops W K rest (a.put o.dst undef)
def mOp (P : Program) (ops : Array Oper) (W : World) (i : Nat) (K : Act → Prop) (a : Act) : Prop :=
  match ops[i]? with
  | none => K a
  | some o => if Region.wanted o (yielded ops a.tmps) then ∃ v, monoAt P W o a v ∧ K (a.put o.dst v) else K (a.put o.dst undef)
theorem mOp_mono {i : Nat} {a : Act} {K K' : Act → Prop} (h : ∀ a, K a → K' a) (hh : mOp P ops W i K a) : mOp P ops W i K' a := by
  unfold mOp at *
  split
  · exact h _ (by simpa [*] using hh)
  · rename_i o ho
    simp only [ho] at hh
    split
    · rename_i hw; rw [if_pos hw] at hh; obtain ⟨v, h1, h2⟩ := hh; exact ⟨v, h1, h _ h2⟩
    · rename_i hw; rw [if_neg hw] at hh; exact h _ hh
/-- a class of worlds behind W that every callee keeps -/
structure Closed (W : World) (C : World → Prop) : Prop where
  below : ∀ w, C w → Below W.heap.size W w
  keep : ∀ w w', C w → Below w.heap.size w w' → C w'
theorem monoUpon_quiet {C : World → Prop} (hC : Closed W C) {w : World} (hw : C w) {v : Value} {r : Result Next} (h : monoUpon P w v r) : Oper.quietUpon P C w v r := by
  cases r with
  | halt x w' => exact h.elim
  | ok n w' =>
    cases n with
    | enter f args => exact ⟨h.1, h.2.mono fun e w'' q => ⟨q.1, hC.keep _ _ hw q.2⟩⟩
    | _ => exact h
theorem qOp_of_mOp {C : World → Prop} (hC : Closed W C) {i : Nat} {K : Act → Prop} {a : Act} (h : mOp P ops W i K a) : qOp P ops C i K a := by
  unfold mOp at h
  unfold qOp
  split
  · rename_i ho; simp only [ho] at h; exact h
  · rename_i o ho
    simp only [ho] at h
    split
    · rename_i hw
      rw [if_pos hw] at h
      obtain ⟨v, h1, h2⟩ := h
      exact ⟨v, fun w hw' => monoUpon_quiet hC hw' (h1 w (hC.below w hw')), h2⟩
    · rename_i hw; rw [if_neg hw] at h; exact h
/-- in state a the operation yields v, or its guard says no -/
def MonoIn (P : Program) (ops : Array Oper) (W : World) (o : Oper) (v : Value) (a : Act) : Prop :=
  (Region.wanted o (yielded ops a.tmps) = true ∧ monoAt P W o a v) ∨ (Region.wanted o (yielded ops a.tmps) = false ∧ v = undef)
theorem MonoIn.mOp {i : Nat} {o : Oper} {v : Value} {a : Act} (hi : ops[i]? = some o) (hy : MonoIn P ops W o v a) {K : Act → Prop} (h : K (a.put o.dst v)) : mOp P ops W i K a := by
  unfold Go.Proofs.YtiemingpbommeaaGreatDoor.mOp
  simp only [hi]
  rcases hy with ⟨hw, hv⟩ | ⟨hw, rfl⟩
  · rw [if_pos hw]; exact ⟨v, hv, h⟩
  · rw [if_neg (by simp [hw])]; exact h
theorem monoIn_of_mOp {i : Nat} {o : Oper} {a : Act} {K : Act → Prop} (hi : ops[i]? = some o) (h : mOp P ops W i K a) : ∃ v, MonoIn P ops W o v a ∧ K (a.put o.dst v) := by
  unfold mOp at h
  simp only [hi] at h
  by_cases hw : Region.wanted o (yielded ops a.tmps) = true
  · rw [if_pos hw] at h
    obtain ⟨v, h1, h2⟩ := h
    exact ⟨v, .inl ⟨hw, h1⟩, h2⟩
  · rw [if_neg hw] at h
    exact ⟨undef, .inr ⟨by simpa using hw, rfl⟩, h⟩
theorem MonoIn.of_same {o : Oper} {v : Value} {a a' : Act} (hy : MonoIn P ops W o v a) (he : execOp a'.eval o = execOp a.eval o)
    (hw : Region.wanted o (yielded ops a'.tmps) = Region.wanted o (yielded ops a.tmps)) : MonoIn P ops W o v a' := by
  unfold MonoIn monoAt at *
  rw [he, hw]
  exact hy
theorem mOp_put {j : Nat} {oi oj : Oper} {v : Value} (hj : ops[j]? = some oj) (hap : oi.apart ops oj = true)
    (hsi : ∀ cs b, oi.op ≠ .select cs b) (hsj : ∀ cs b, oj.op ≠ .select cs b) {K : Act → Prop} {a : Act}
    (hy : MonoIn P ops W oi v a) (h : mOp P ops W j K (a.put oi.dst v)) : mOp P ops W j (fun a' => MonoIn P ops W oi v a' ∧ K (a'.put oi.dst v)) a := by
  obtain ⟨h1, h2, h3⟩ := Oper.apart_spec hap
  have keep : ∀ u, MonoIn P ops W oi v (a.put oj.dst u) := fun u => hy.of_same (execOp_put oi hsi a oj.dst u h3) (wanted_put oi a oj.dst u h3)
  obtain ⟨u, hu, hk⟩ := monoIn_of_mOp hj h
  have hu' : MonoIn P ops W oj u a := by
    unfold MonoIn monoAt at *
    rwa [wanted_put oj a oi.dst v h1, execOp_put oj hsj a oi.dst v h1] at hu
  exact hu'.mOp hj ⟨keep u, by rw [← Act.put_comm a v u h2]; exact hk⟩
/-- the head's operations in any order, the block's maker taken as come up; behind them L -/
def headM (P : Program) (ops : Array Oper) (W : World) (n : Nat) (L : Array Bool → Act → Prop) : Nat → Array Bool → Act → Prop
  | 0, listed, a => L listed a
  | f + 1, listed, a => Region.ready .any ops listed ≠ [] ∧ ∀ i ∈ Region.ready .any ops listed, i < n ∧ mOp P ops W i (headM P ops W n L f (listed.setIfInBounds i true)) a
/-- who is ready is of the head, while one of the head hasn't come up: asked of the listing as closed facts -/
structure HeadOk (ops : Array Oper) (n : Nat) : Prop where
  sink : Region.sinkB .any ops (n + 1) = true
  chain : Region.chainB .any ops (n + 1) = true
  lt : n + 1 < ops.size
  waits : Region.waitsFor .any ops (n + 1) n = true
/-- the listing's form: closed under what each waits for, but that the maker is listed; the tail is not -/
theorem head_lt {n : Nat} (hk : HeadOk ops n) {listed : Array Bool} (inv : HeadInv .any ops (n + 1) listed) {i : Nat} (hi : i < n) (hun : listed.getD i true = false) {j : Nat} (hj : j ∈ Region.ready .any ops listed) (hl : listed.getD n false = true) : j < n := by
  have h1 : j < n + 1 := Nat.lt_of_not_le fun h => tail_waits hk.sink hk.chain hk.lt inv _ i rfl (by omega) hun j h hj
  rcases Nat.lt_or_eq_of_le (Nat.le_of_lt_succ h1) with h | rfl
  · exact h
  · have h0 := (mem_ready.1 hj).1
    have hs : j < listed.size := by rw [inv.size]; have := hk.lt; omega
    simp [hs] at h0 hl
    rw [h0] at hl; cases hl
theorem headM_first {n i : Nat} {oi : Oper} {v : Value} {L : Array Bool → Act → Prop} (hk : HeadOk ops n) (hi : ops[i]? = some oi) (hsel : ∀ (j : Nat) (o : Oper) cs b, ops[j]? = some o → o.op ≠ .select cs b)
    (hin : i < n) (hdone : ∀ listed a, L listed a → ∀ j ∈ Region.ready .any ops listed, n + 1 ≤ j) :
    ∀ (f : Nat) (listed : Array Bool) (a : Act), HeadInv .any ops (n + 1) listed → listed.getD n false = true →
      (∀ j oj, ops[j]? = some oj → j ≠ i → listed.getD j true = false → (∀ e ∈ oj.after, Region.binds .any e = true → e.on ≠ i) → oi.apart ops oj = true) →
      i ∈ Region.ready .any ops listed → MonoIn P ops W oi v a →
      headM P ops W n L f (listed.setIfInBounds i true) (a.put oi.dst v) → headM P ops W n L (f + 1) listed a := by
  intro f
  induction f with
  | zero =>
    intro listed a inv hl _ hr hy H
    refine ⟨List.ne_nil_of_mem hr, fun j hj => ?_⟩
    have hun := (mem_ready.1 hr).1
    refine ⟨head_lt hk inv hin hun hj hl, ?_⟩
    by_cases hji : j = i
    · subst hji; exact hy.mOp hi H
    · have h1 := hdone _ _ H j (ready_mono hj hji)
      have h2 := head_lt hk inv hin hun hj hl
      omega
  | succ f ih =>
    intro listed a inv hl hfree hr hy H
    refine ⟨List.ne_nil_of_mem hr, fun j hj => ?_⟩
    have hun := (mem_ready.1 hr).1
    have hjn := head_lt hk inv hin hun hj hl
    refine ⟨hjn, ?_⟩
    by_cases hji : j = i
    · subst hji; exact hy.mOp hi H
    · have h1 := (H.2 j (ready_mono hj hji)).2
      obtain ⟨hjun, oj, hoj, hall⟩ := mem_ready.1 hj
      have hnot : ∀ e ∈ oj.after, Region.binds .any e = true → e.on ≠ i := fun e he hb heq => by
        have h1 := hall e he hb
        rw [heq, getD_both hun] at h1
        cases h1
      have h2 := mOp_put hoj (hfree j oj hoj hji hjun hnot) (fun cs b => hsel i oi cs b hi) (fun cs b => hsel j oj cs b hoj) hy h1
      have hfree' : ∀ k ok, ops[k]? = some ok → k ≠ i → (listed.setIfInBounds j true).getD k true = false →
          (∀ e ∈ ok.after, Region.binds .any e = true → e.on ≠ i) → oi.apart ops ok = true := fun k ok hk hki hun hno => by
        refine hfree k ok hk hki ?_ hno
        by_cases hjk : j = k
        · subst hjk; exact hjun
        · rw [getD_set_ne true hjk] at hun; exact hun
      refine mOp_mono (fun a' h3 => ih (listed.setIfInBounds j true) a' (inv.set hj (by omega)) (getD_set_true hl) hfree' (ready_mono hr (Ne.symm hji)) h3.1 ?_) h2
      rw [Array.setIfInBounds_comm _ _ hji]
      exact h3.2
/-- the text's order is one of the orders -/
def lexHeadM (ops : Array Oper) (n g : Nat) : Nat → Nat → Array Bool → Bool
  | 0, _, listed => Region.seqB .any ops g (n + 1) listed
  | f + 1, k, listed => (Region.ready .any ops listed).contains k && Region.free .any ops listed k && lexHeadM ops n g f (k + 1) (listed.setIfInBounds k true)
theorem headM_lex {n g : Nat} {Lq : Act → Prop} (hk : HeadOk ops n) (hsel : Region.noSelect ops = true) :
    ∀ (l : List Oper) (k : Nat) (listed : Array Bool) (a : Act), (∀ j, j < l.length → l[j]? = ops[k + j]?) → k + l.length = n → HeadInv .any ops (n + 1) listed → listed.getD n false = true →
    lexHeadM ops n g l.length k listed = true → wpMono P ops W Lq l a →
    headM P ops W n (fun listed' a' => Region.seqB .any ops g (n + 1) listed' = true ∧ Lq a') l.length listed a
  | [], k, listed, a, _, hkn, _, _, hB, h => ⟨by simpa [lexHeadM] using hB, h⟩
  | o :: l, k, listed, a, hl, hkn, inv, hln, hB, h => by
    have h0 : ops[k]? = some o := by simpa using (hl 0 (by simp)).symm
    simp only [List.length_cons, lexHeadM, Bool.and_eq_true] at hB
    obtain ⟨⟨hr, hf⟩, hB'⟩ := hB
    have hkn' : k < n := by simp only [List.length_cons] at hkn; omega
    have hr' : k ∈ Region.ready .any ops listed := by simpa using hr
    have hst : mOp P ops W k (wpMono P ops W Lq l) a := by unfold mOp; simp only [h0]; exact h
    obtain ⟨v, hy, hK⟩ := monoIn_of_mOp h0 hst
    exact headM_first hk h0 (Region.noSelect_spec hsel) hkn' (fun listed' a' hL => seqB_ready hL.1) l.length listed a inv hln (Region.free_spec h0 hf) hr' hy
      (headM_lex hk hsel l (k + 1) _ _ (fun j hj => by have := hl (j + 1) (by simp; omega); simpa [Nat.add_assoc, Nat.add_comm 1 j] using this) (by simp only [List.length_cons] at hkn; omega) (inv.set hr' (by omega)) (getD_set_true hln) hB' hK)
/-- an operation that doesn't look at t does as it did, whatever lies in t -/
theorem mOp_shift {i : Nat} {o oa : Oper} {K : Act → Prop} {a : Act} (hi : ops[i]? = some o) (hap : oa.apart ops o = true) (hs : ∀ cs b, o.op ≠ .select cs b) (p : Value)
    (h : mOp P ops W i K a) : mOp P ops W i (fun a'' => ∃ a', a'' = a'.put oa.dst p ∧ K a') (a.put oa.dst p) := by
  obtain ⟨h1, h2, h3⟩ := Oper.apart_spec hap
  obtain ⟨u, hu, hk⟩ := monoIn_of_mOp hi h
  have hu' : MonoIn P ops W o u (a.put oa.dst p) := hu.of_same (execOp_put o hs a oa.dst p h1) (wanted_put o a oa.dst p h1)
  exact hu'.mOp hi ⟨_, by rw [← Act.put_comm a p u h2], hk⟩
/-- the block's maker has come up -/
theorem wpAny_done {n g : Nat} {oa : Oper} {p : Value} {C : World → Prop} {L : Array Bool → Act → Prop} {Q : Exit → Act → World → Prop} (hC : Closed W C) (hsel : ∀ (j : Nat) (o : Oper) cs b, ops[j]? = some o → o.op ≠ .select cs b)
    (hap : ∀ j o, ops[j]? = some o → j < n → oa.apart ops o = true) (hL : ∀ listed a, L listed a → ∀ w, C w → wpAny P .any ops Q g listed (a.put oa.dst p) w) :
    ∀ (f : Nat) (listed : Array Bool) (a : Act), headM P ops W n L f listed a → ∀ w, C w → wpAny P .any ops Q (f + g) listed (a.put oa.dst p) w
  | 0, listed, a, h, w, hw => by rw [Nat.zero_add]; exact hL _ _ h w hw
  | f + 1, listed, a, h, w, hw => by
    rw [show f + 1 + g = (f + g) + 1 by omega]
    refine ⟨fun h0 => absurd h0 h.1, fun i hi => ?_⟩
    obtain ⟨hin, hm⟩ := h.2 i hi
    obtain ⟨_, o, ho, _⟩ := mem_ready.1 hi
    refine wpOp_of_qOp hw (fun a'' w' hw' h' => ?_) (qOp_of_mOp hC (mOp_shift ho (hap i o ho hin) (fun cs b => hsel i o cs b ho) p hm))
    obtain ⟨a', rfl, hK⟩ := h'
    exact wpAny_done hC hsel hap hL f _ a' hK w' hw'
/-- the block's maker has not come up yet -/
theorem wpAny_pending {n g : Nat} {oa : Oper} {L : Array Bool → Act → Prop} {Q : Exit → Act → World → Prop} (hk : HeadOk ops n) (hoa : ops[n]? = some oa) (hg : oa.guard = none) (obj : Obj)
    (hrun : ∀ (a : Act) (w : World), (execOp a.eval oa).run P w = .ok (.value (.pointer (some ⟨w.heap.size, 0, none⟩))) (w.alloc obj))
    (hsel : ∀ (j : Nat) (o : Oper) cs b, ops[j]? = some o → o.op ≠ .select cs b)
    (hap : ∀ j o, ops[j]? = some o → j < n → oa.apart ops o = true)
    (hLr : ∀ listed a, L listed a → ∀ j ∈ Region.ready .any ops listed, j = n + 1)
    (hfree : ∀ e ∈ oa.after, Region.binds .any e = false)
    (hL : ∀ listed a, L listed a → ∀ g' w, Below W.heap.size W w → W.heap.size ≤ g' → w.heap[g']? = some obj → wpAny P .any ops Q g listed (a.put oa.dst (.pointer (some ⟨g', 0, none⟩))) w) :
    ∀ (f : Nat) (listed : Array Bool) (a : Act), listed.getD n true = false → headM P ops W n L f (listed.setIfInBounds n true) a → ∀ w, Below W.heap.size W w → wpAny P .any ops Q (f + g + 1) listed a w
  | f, listed, a, hn, h, w, hw => by
    have hrn : n ∈ Region.ready .any ops listed := mem_ready.2 ⟨hn, oa, hoa, fun e he hb => by rw [hfree e he] at hb; cases hb⟩
    refine ⟨fun h0 => (by rw [h0] at hrn; cases hrn), fun i hi => ?_⟩
    by_cases hin : i = n
    · subst hin
      unfold wpOp
      simp only [hoa]
      rw [if_pos (by simp [Region.wanted, hg])]
      refine .inl ?_
      show oa.upon P a _ Q _
      rw [hrun, Oper.upon_value]
      have hC : Closed W (fun w' => Below W.heap.size W w' ∧ w'.heap[w.heap.size]? = some obj) :=
        ⟨fun w' h => h.1, fun w' w'' h hb => ⟨h.1.trans (hb.mono h.1.size), (hb.block _ (Array.getElem?_eq_some_iff.1 h.2).1).trans h.2⟩⟩
      exact wpAny_done hC hsel hap (fun listed' a' hl w' hw' => hL listed' a' hl _ w' hw'.1 hw.size hw'.2) f _ a h _ ⟨hw.alloc hw.size _, heap_alloc_new _ _⟩
    · have hr' : i ∈ Region.ready .any ops (listed.setIfInBounds n true) := ready_mono hi hin
      cases f with
      | zero =>
        have := hLr _ _ h i hr'
        subst this
        obtain ⟨o, ho, e, he, hb, hon⟩ := Region.waitsFor_spec hk.waits
        obtain ⟨_, o', ho', hall⟩ := mem_ready.1 hi
        obtain rfl : o = o' := Option.some.inj (ho.symm.trans ho')
        have := hall e he hb
        rw [hon, getD_both hn] at this
        cases this
      | succ f =>
        obtain ⟨hlt, hm⟩ := h.2 i hr'
        have hC : Closed W (fun w' => Below W.heap.size W w') := ⟨fun w' h => h, fun w' w'' h hb => h.trans (hb.mono h.size)⟩
        rw [show f + 1 + g = f + g + 1 by omega]
        refine wpOp_of_qOp hw (fun a' w' hw' h' => ?_) (qOp_of_mOp hC hm)
        rw [Array.setIfInBounds_comm _ _ (Ne.symm hin)] at h'
        exact wpAny_pending hk hoa hg obj hrun hsel hap hLr hfree hL f _ a' (by rw [getD_set_ne true hin]; exact hn) h' w' hw'
/-- all that is asked of the region's form -/
def monoB (ops : Array Oper) (n : Nat) : Bool :=
  Region.noSelect ops && decide (n + 1 < ops.size) && Region.sinkB .any ops (n + 1) && Region.chainB .any ops (n + 1) && Region.waitsFor .any ops (n + 1) n &&
  (match ops[n]? with
    | some oa => oa.guard.isNone && oa.after.all (fun e => !Region.binds .any e) && (List.range n).all (fun j => match ops[j]? with | some o => oa.apart ops o | none => true)
    | none => false) &&
  lexHeadM ops n (ops.size - (n + 1)) n 0 ((Array.replicate ops.size false).setIfInBounds n true)
theorem wp_region_alloc {id : Nat} {Q : Exit → Act → World → Prop} {a : Act} {w : World} {l : List Oper} (n : Nat) (t : Tmp) (obj : Obj) (hm : P.follows .mixedOrders = true) (hB : monoB l.toArray n = true)
    (oa : Oper) (hoa : l[n]? = some oa) (ht : oa.dst = some t)
    (hrun : ∀ (a : Act) (w : World), (execOp a.eval oa).run P w = .ok (.value (.pointer (some ⟨w.heap.size, 0, none⟩))) (w.alloc obj))
    (h : wpMono P l.toArray w.drew (fun a' => ∀ g w', Below w.heap.size w w' → w.heap.size ≤ g → w'.heap[g]? = some obj →
      wpList P l.toArray Q (l.drop (n + 1)) (a'.put (some t) (.pointer (some ⟨g, 0, none⟩))) w') (l.take n) a) : (Code.region id l.toArray true).wp P Q a w := by
  have hoa' : l.toArray[n]? = some oa := by simpa using hoa
  simp only [monoB, Bool.and_eq_true, decide_eq_true_eq, hoa'] at hB
  obtain ⟨⟨⟨⟨⟨⟨hsel, hn⟩, hs⟩, hc⟩, hw⟩, ⟨hg, hfree⟩, hap⟩, hlex⟩ := hB
  have hk : HeadOk l.toArray n := ⟨hs, hc, hn, hw⟩
  have hn' : n + 1 < l.length := by simpa using hn
  have htl : (l.take n).length = n := by simp; omega
  have hdl : (l.drop (n + 1)).length = l.toArray.size - (n + 1) := by simp
  have hln : ((Array.replicate l.toArray.size false).setIfInBounds n true).getD n false = true := by
    have : n < l.length := by omega
    simp [this]
  have hfree' : ∀ e ∈ oa.after, Region.binds .any e = false := fun e he => by
    have := Array.all_eq_true_iff_forall_mem.1 hfree e he
    simpa using this
  have inv0 : HeadInv .any l.toArray (n + 1) ((Array.replicate l.toArray.size false).setIfInBounds n true) := by
    refine ⟨by simp, fun j oj hj hl e he hb => ?_, fun t ht ht' => ?_⟩
    · by_cases hjn : n = j
      · subst hjn
        obtain rfl : oj = oa := Option.some.inj (hj.symm.trans hoa')
        rw [hfree' e he] at hb; cases hb
      · rw [getD_set_ne false hjn, getD_replicate_false] at hl; cases hl
    · rw [getD_set_ne true (by omega)]
      exact getD_in (by simpa using ht') (getD_replicate_false _ _)
  have H := headM_lex (g := l.toArray.size - (n + 1)) hk hsel (l.take n) 0 _ a (fun j hj => by
    have hj' : j < n := by rw [htl] at hj; exact hj
    simp [hj']) (by simpa using htl) inv0 hln (by rw [htl]; exact hlex) h
  refine wp_region_any hm ?_
  have hap' : ∀ j o, l.toArray[j]? = some o → j < n → oa.apart l.toArray o = true := fun j o ho hj => by
    have := List.all_eq_true.1 hap j (List.mem_range.2 hj)
    simpa [ho] using this
  rw [htl] at H
  have := wpAny_pending (Q := Q) (g := l.toArray.size - (n + 1)) hk hoa' (by simpa using hg) obj hrun (Region.noSelect_spec hsel) hap' (fun listed a' hL j hj => by
      have := hL.1
      rw [show l.toArray.size - (n + 1) = (l.toArray.size - (n + 1) - 1) + 1 by omega] at this
      simp only [Region.seqB, Bool.and_eq_true, decide_eq_true_eq] at this
      rw [this.1] at hj
      simpa using hj) hfree' (fun listed a' hL g' w' hw' hg' hb' => by
      have := wpAny_of_seq (ops := l.toArray) (md := .any) (Q' := Q) (l.drop (n + 1)) (n + 1) listed (a'.put oa.dst (.pointer (some ⟨g', 0, none⟩))) w' (fun j => by simp [List.getElem?_drop]) (by rw [hdl]; exact hL.1) (by rw [ht]; exact hL.2 g' w' ⟨hw'.os, hw'.tape, hw'.output, hw'.size, hw'.block⟩ hg' hb')
      rwa [hdl] at this) n (Array.replicate l.toArray.size false) a (getD_in (by simpa using (by omega : n < l.length)) (getD_replicate_false _ _)) H { w with drawn := w.drawn + 1 } (Below.refl _ _)
  rwa [show n + (l.toArray.size - (n + 1)) + 1 = l.toArray.size by omega] at this
/-- one operation: its value -/
theorem mono_val {o : Oper} {rest : List Oper} {K : Act → Prop} {a : Act} (v : Value) (hw : Region.wanted o (yielded ops a.tmps) = true)
    (h : ∀ u : Aft W, (execOp a.eval o).run P (aft W u) = .ok (.value v) (aft W u)) (hk : wpMono P ops W K rest (a.put o.dst v)) : wpMono P ops W K (o :: rest) a := by
  unfold wpMono
  rw [if_pos hw]
  exact ⟨v, fun w hb => by have := h ⟨w, hb⟩; rw [show aft W ⟨w, hb⟩ = w from rfl] at this; rw [this]; exact ⟨rfl, rfl⟩, hk⟩
/-- one call: its value -/
theorem mono_call {o : Oper} {rest : List Oper} {K : Act → Prop} {a : Act} (v : Value) (f : FuncId) (args : Array Value) (hw : Region.wanted o (yielded ops a.tmps) = true)
    (h : ∀ u : Aft W, (execOp a.eval o).run P (aft W u) = .ok (.enter f args) (aft W u))
    (hc : ∀ u : Aft W, Calls P f args (aft W u) (fun e w' => e = .returned v ∧ Below (aft W u).heap.size (aft W u) w')) (hk : wpMono P ops W K rest (a.put o.dst v)) : wpMono P ops W K (o :: rest) a := by
  unfold wpMono
  rw [if_pos hw]
  exact ⟨v, fun w hb => by have := h ⟨w, hb⟩; rw [show aft W ⟨w, hb⟩ = w from rfl] at this; rw [this]; exact ⟨rfl, hc ⟨w, hb⟩⟩, hk⟩
theorem mono_nil {K : Act → Prop} {a : Act} (h : K a) : wpMono P ops W K [] a := h
end
end Go.Proofs.YtiemingpbommeaaGreatDoor

/- Encode: what it answers. -/
namespace Go.Proofs.YtiemingpbommeaaGreatDoor
open Go.RowKit
noncomputable section
set_option linter.unusedVariables false
set_option linter.unusedSimpArgs false
/-- the word that a form lays for an instruction's fields -/
def encI (r : List UInt8 × Int × Int × Int × Int) (d a b n : Int) : Int :=
  let l := r.2.1
  let w := bits .or .u32 (bits .or .u32 (bits .or .u32 (bits .or .u32 r.2.2.1 (laidN l n)) (placedN d 7)) (placedN a 15)) (placedN b 20)
  if l = 82 ∨ l = 72 ∨ l = 75 then bits .or .u32 (bits .or .u32 w (r.2.2.2.2 * 33554432 % 4294967296)) (r.2.2.2.1 * 4096 % 4294967296)
  else if l = 73 ∨ l = 66 ∨ l = 83 then bits .or .u32 w (r.2.2.2.1 * 4096 % 4294967296)
  else if l = 78 then bits .or .u32 w (r.2.2.2.2 * 1048576 % 4294967296)
  else w
/-- as a number of 32 bits -/
def encN (o d a b n : Int) : Nat := (encI (formAt o.toNat) d a b n).toNat
/-- what Encode answers -/
def encV (o d a b n : Int) : Nat × Bool :=
  if 0 ≤ o ∧ o < 64 ∧ decN (encN o d a b n) = ((o, d, a, b, n), true) then (encN o d a b n, true) else (0, false)
theorem encI_range (r : List UInt8 × Int × Int × Int × Int) (d a b n : Int) : 0 ≤ encI r d a b n ∧ encI r d a b n < 4294967296 := by
  unfold encI
  simp only
  have h := fun x y => And.intro (bits_lo_u32 .or x y) (bits_hi_u32 .or x y)
  repeat' split
  all_goals exact ⟨(h _ _).1, Int.lt_of_le_of_lt (h _ _).2 (by decide)⟩
theorem encN_lt (o d a b n : Int) : encN o d a b n < 4294967296 := by
  have := encI_range (formAt o.toNat) d a b n
  unfold encN; omega
theorem decode_at (x : Int) (X : Nat) (o d a b n : Int) (ok : Bool) (hx : x = X) (hlt : X < 4294967296) (hD : decN X = ((o, d, a, b, n), ok)) (w : World) :
    Calls Tryz.prog 32 #[.int .u32 x] w fun e w' => e = .returned (.tuple #[.agg #[.int .i64 o, .int .i64 d, .int .i64 a, .int .i64 b, .int .i64 n], .bool ok]) ∧ Below w.heap.size w w' := by
  subst hx
  have := decode_any X w hlt
  rw [hD] at this
  exact this
theorem info55 : (Tryz.prog.info? 101).map (fun x => x.size) = some 5 := by kernel_rfl
theorem formRow_one (s : ByteArray) (l p f3 f7 : Int) : ((#[.string s, .int .u8 l, .int .u32 p, .int .u32 f3, .int .u32 f7] : Array Value).all fun x => x.oneCell') = true := by simp [Value.oneCell']
set_option maxHeartbeats 4000000 in
set_option maxRecDepth 100000 in
theorem encode_any (o d a b n : Int) (w : World) :
    Calls Tryz.prog 15 #[.agg (instCells o d a b n)] w fun e w' => e = .returned (.tuple #[.int .u32 (encV o d a b n).1, .bool (encV o d a b n).2]) ∧ Below w.heap.size w w' := by
  by_cases h : 0 ≤ o ∧ o < 64
  · have hd : decide (0 ≤ o ∧ o < 64) = true := decide_eq_true h
    have hv : encV o d a b n = if decN (encN o d a b n) = ((o, d, a, b, n), true) then (encN o d a b n, true) else (0, false) := by unfold encV; simp [h.1, h.2]
    unfold instCells
    go_enter Tryz.func15, Tryz.ntmps15
    go_wp2_with (first
      | (go_at_call 37; refine (there_any _ _).mono ?_; rintro e w3 ⟨rfl, rfl⟩))
    obtain ⟨i, rfl⟩ := Int.eq_ofNat_of_zero_le h.1
    have hi : i < 64 := by omega
    have hix := run_index_forms i hi
    obtain ⟨s, l, p, f3, f7, hrow⟩ : ∃ (s : ByteArray) (l p f3 f7 : Int), (rowCells (formAt i)).toArray = #[.string s, .int .u8 l, .int .u32 p, .int .u32 f3, .int .u32 f7] := ⟨_, _, _, _, _, rfl⟩
    rw [hrow] at hix
    go_upto_region 3 with (fail)
    go_cut [4] (fun v4 wc => ∃ g, v4 = .pointer (some ⟨g, 0, none⟩) ∧ wc.heap[g]? = some (.cells #[.string s, .int .u8 l, .int .u32 p, .int .u32 f3, .int .u32 f7] 101 (0, 0)) ∧ w.heap.size < g ∧
      wc.heap[w.heap.size]? = some (.cells (instCells i d a b n) 44 (0, 0)) ∧ Below w.heap.size w wc)
    case first =>
      have hN : w.heap.size < (w.alloc (.cells #[.int .i64 i, .int .i64 d, .int .i64 a, .int .i64 b, .int .i64 n] 44)).heap.size := by simp
      refine wp_region_alloc 4 4 (.cells #[.string ⟨#[]⟩, .int .u8 0, .int .u32 0, .int .u32 0, .int .u32 0] 101) (by kernel_rfl) (by kernel_rfl) _ rfl rfl (fun a w => by kernel_rfl) ?_
      simp only [List.take_succ_cons, List.take_zero, List.drop_succ_cons, List.drop_zero]
      refine mono_call (.agg formCells) 38 #[] rfl (fun u => by kernel_rfl) (fun u => forms_any _) ?_
      simp only [Act.put, List.setIfInBounds_toArray, List.set_cons_zero, List.set_cons_succ]
      refine mono_val ?v1 rfl (fun u => ?h1) ?_
      case h1 => go_simp; rfl
      simp only [Act.put, List.setIfInBounds_toArray, List.set_cons_zero, List.set_cons_succ]
      refine mono_val ?v2 rfl (fun u => ?h2) ?_
      case h2 => go_simp; rfl
      simp only [Act.put, List.setIfInBounds_toArray, List.set_cons_zero, List.set_cons_succ]
      refine mono_val ?v3 rfl (fun u => ?h3) ?_
      case h3 => go_simp; rfl
      simp only [Act.put, List.setIfInBounds_toArray, List.set_cons_zero, List.set_cons_succ]
      refine mono_nil ?_
      intro g wc hB hg hb
      simp only [Act.put, List.setIfInBounds_toArray, List.set_cons_zero, List.set_cons_succ]
      have N1 := (hB.block _ hN).trans (heap_alloc_new _ _)
      have HB : Below w.heap.size w wc := ((Below.refl _ _).alloc (Nat.le_refl _) _).trans (hB.mono (by simp))
      simp only [World.size_alloc] at hg
      clear hB
      have N1' := hid N1
      clear N1 hN
      go_wp2_with (first
        | (refine wpList_store_row rfl 101 (.tmp 4) (.tmp 15) rfl g #[.string s, .int .u8 l, .int .u32 p, .int .u32 f3, .int .u32 f7] rfl rfl 101 _ hb info55 rfl (formRow_one ..) ?_))
      go_meet
      case rel => exact ⟨g, rfl, setRow_heap _ _ _ _ _ _ hb, by omega, by rw [setRow_other _ _ _ _ (by omega)]; exact N1'.out, below_setRow HB (by omega) _⟩
    case rest =>
      obtain ⟨g, rfl, hg, hgs, hN, HB⟩ := hcut
      have L1 : w.heap.size < wc.heap.size := blk_lt' hN
      have L2 : g < wc.heap.size := blk_lt' hg
      have a0 : wc.cell? ⟨w.heap.size, 0, none⟩ = some (.int .i64 i) := by rw [cell_of_row wc _ _ _ _ _ hN]; rfl
      have a1 : wc.cell? ⟨w.heap.size, 1, none⟩ = some (.int .i64 d) := by rw [cell_of_row wc _ _ _ _ _ hN]; rfl
      have a2 : wc.cell? ⟨w.heap.size, 2, none⟩ = some (.int .i64 a) := by rw [cell_of_row wc _ _ _ _ _ hN]; rfl
      have a3 : wc.cell? ⟨w.heap.size, 3, none⟩ = some (.int .i64 b) := by rw [cell_of_row wc _ _ _ _ _ hN]; rfl
      have a4 : wc.cell? ⟨w.heap.size, 4, none⟩ = some (.int .i64 n) := by rw [cell_of_row wc _ _ _ _ _ hN]; rfl
      have b1 : wc.cell? ⟨g, 1, none⟩ = some (.int .u8 l) := by rw [cell_of_row wc _ _ _ _ _ hg]; rfl
      have b2 : wc.cell? ⟨g, 2, none⟩ = some (.int .u32 p) := by rw [cell_of_row wc _ _ _ _ _ hg]; rfl
      have b3 : wc.cell? ⟨g, 3, none⟩ = some (.int .u32 f3) := by rw [cell_of_row wc _ _ _ _ _ hg]; rfl
      have b4 : wc.cell? ⟨g, 4, none⟩ = some (.int .u32 f7) := by rw [cell_of_row wc _ _ _ _ _ hg]; rfl
      have hrow' : ∃ s', formAt i = (s', l, p, f3, f7) := by
        simp only [rowCells, Array.mk.injEq, List.cons.injEq, Value.int.injEq, true_and, and_true] at hrow
        obtain ⟨_, e1, e2, e3, e4⟩ := hrow
        exact ⟨(formAt i).1, by rw [← e1, ← e2, ← e3, ← e4]⟩
      obtain ⟨s', hrow'⟩ := hrow'
      have Hrow := hid hrow'
      have Hv := hid hv
      rcases hD : decN (encN i d a b n) with ⟨⟨o', d', a', b', n'⟩, ok⟩
      have HD := hid hD
      have hXlt := encN_lt i d a b n
      clear hg hN hix hrow hd hrow' hv hD
      go_wp2_with fail
      refine wp_region_quiet_in (fun w' => ∃ u, w' = aft wc u) (by kernel_rfl) (by kernel_rfl) (aft_drew _) ?_
      repeat (go_big_quiet_step (first
        | (go_at_call 39; exact aft_call (laid_any l n _))
        | (go_at_call_of 40 (Value.int IntKind.i64 7); exact aft_callq (placed_any d 7 _ (by omega)))
        | (go_at_call_of 40 (Value.int IntKind.i64 15); exact aft_callq (placed_any a 15 _ (by omega)))
        | (go_at_call_of 40 (Value.int IntKind.i64 20); exact aft_callq (placed_any b 20 _ (by omega)))))
      refine wpQuiet_nil ?_
      rintro w5 ⟨u, rfl⟩
      go_upto_block 0 with (fail)
      go_cut [5] (fun v5 wd => v5 = .int .u32 (encN i d a b n) ∧ ∃ u, wd = aft wc u)
      case first =>
        clear HD
        go_wp2
        all_goals
          go_meet
          case rel =>
            refine ⟨?_, u, rfl⟩
            rw [Value.int.injEq]
            refine ⟨rfl, ?_⟩
            unfold encN
            rw [Int.toNat_of_nonneg (encI_range _ _ _ _ _).1, Int.toNat_natCast, Hrow.out]
            unfold encI
            simp_all
      case rest =>
        obtain ⟨rfl, u, rfl⟩ := hcut
        clear b1 b2 b3 b4 Hrow
        go_wp2_with fail
        refine (decode_at _ (encN i d a b n) _ _ _ _ _ _ rfl hXlt HD.out _).mono ?_
        rintro e w6 ⟨rfl, hb6⟩
        obtain ⟨u6, rfl⟩ := aft_of ((aft_below wc u).trans (hb6.mono (aft_size wc u)))
        have L3 : w.heap.size < (aft wc u6).heap.size := Nat.lt_of_lt_of_le L1 (aft_size wc u6)
        have L4 : (aft wc u6).heap.size ≠ w.heap.size := by omega
        have HB6 : Below w.heap.size w (aft wc u6) := HB.trans ((aft_below wc u6).mono (by omega))
        clear hb6 HB L2 hgs
        cases ok
        · go_wp2
          go_ret2
          exact ⟨by rw [Hv.out, HD.out, if_neg (by simp)]; rfl, HB6.alloc HB6.size _⟩
        · by_cases hq : o' = i ∧ d' = d ∧ a' = a ∧ b' = b ∧ n' = n
          · obtain ⟨rfl, rfl, rfl, rfl, rfl⟩ := hq
            go_wp2
            go_ret2
            exact ⟨by rw [Hv.out, HD.out, if_pos rfl]; rfl, HB6.alloc HB6.size _⟩
          · have hq2 : ¬(((o', d', a', b', n'), true) = (((i : Int), d, a, b, n), true)) := fun e => by
              simp only [Prod.mk.injEq, and_true] at e
              exact hq e
            have Hq2 := hid hq2
            have Hq := hid hq
            clear hq hq2
            go_wp2
            all_goals first
              | exact absurd ⟨‹o' = (i : Int)›, ‹d' = d›, ‹a' = a›, ‹b' = b›, ‹n' = n›⟩ Hq.out
              | (go_ret2; exact ⟨by rw [Hv.out, HD.out, if_neg Hq2.out]; rfl, HB6.alloc HB6.size _⟩)
  · have hd : decide (0 ≤ o ∧ o < 64) = false := decide_eq_false h
    have hv : encV o d a b n = (0, false) := by unfold encV; rw [if_neg (fun q => h ⟨q.1, q.2.1⟩)]
    rw [hv]
    clear hv h
    unfold instCells
    go_enter Tryz.func15, Tryz.ntmps15
    go_wp2_with (first
      | (go_at_call 37; refine (there_any _ _).mono ?_; rintro e w3 ⟨rfl, rfl⟩; rw [hd]))
    go_ret2
    exact ⟨rfl, (Below.refl _ _).alloc (Nat.le_refl _) _⟩
end
end Go.Proofs.YtiemingpbommeaaGreatDoor

/- Plain law: a word that decodes is encoded again to itself. No program in sight but the functions decN and encN. -/
namespace Go.Proofs.YtiemingpbommeaaGreatDoor
open Go.RowKit
noncomputable section
set_option linter.unusedVariables false
set_option linter.unusedSimpArgs false
theorem or_lo (k a b : Nat) (h : a < 2 ^ k) (hb : b % 2 ^ k = 0) : a ||| b = a + b := by
  obtain ⟨q, rfl⟩ : ∃ q, b = 2 ^ k * q := ⟨b / 2 ^ k, by have := Nat.div_add_mod b (2 ^ k); omega⟩
  rw [Nat.or_comm, ← Nat.two_pow_add_eq_or_of_lt h, Nat.add_comm]
theorem acc_J (h s l t : Nat) (hh : h < 1024) (hs : s < 2) (hl : l < 256) :
    ((((0 ||| t * 1048576) ||| l * 4096) ||| s * 2048) ||| h * 2) = h * 2 + s * 2048 + l * 4096 + t * 1048576 := by
  have e : ((((0 ||| t * 1048576) ||| l * 4096) ||| s * 2048) ||| h * 2) = (((h * 2 ||| s * 2048) ||| l * 4096) ||| t * 1048576) := by
    simp only [Nat.zero_or]
    ac_rfl
  rw [e, or_lo 11 (h * 2) (s * 2048) (by omega) (by omega), or_lo 12 (h * 2 + s * 2048) (l * 4096) (by omega) (by omega), or_lo 20 (h * 2 + s * 2048 + l * 4096) (t * 1048576) (by omega) (by omega)]
theorem acc_B (l h s t : Nat) (hl : l < 16) (hh : h < 64) (hs : s < 2) :
    ((((0 ||| t * 4096) ||| s * 2048) ||| h * 32) ||| l * 2) = l * 2 + h * 32 + s * 2048 + t * 4096 := by
  have e : ((((0 ||| t * 4096) ||| s * 2048) ||| h * 32) ||| l * 2) = (((l * 2 ||| h * 32) ||| s * 2048) ||| t * 4096) := by
    simp only [Nat.zero_or]
    ac_rfl
  rw [e, or_lo 5 (l * 2) (h * 32) (by omega) (by omega), or_lo 11 (l * 2 + h * 32) (s * 2048) (by omega) (by omega), or_lo 12 (l * 2 + h * 32 + s * 2048) (t * 4096) (by omega) (by omega)]
theorem acc_S (l h : Nat) (hl : l < 32) :
    ((0 ||| h * 32) ||| l * 1) = l * 1 + h * 32 := by
  have e : ((0 ||| h * 32) ||| l * 1) = (l * 1 ||| h * 32) := by
    simp only [Nat.zero_or]
    ac_rfl
  rw [e, or_lo 5 (l * 1) (h * 32) (by omega) (by omega)]
/-- the table's rows are in their bounds -/
def rowOk (r : List UInt8 × Int × Int × Int × Int) : Bool :=
  decide (0 ≤ r.2.2.1) && decide (r.2.2.1 < 128) && decide (0 ≤ r.2.2.2.1) && decide (r.2.2.2.1 < 8) && decide (0 ≤ r.2.2.2.2) && decide (r.2.2.2.2 < 128) &&
  (r.2.1 == 85 || r.2.1 == 74 || r.2.1 == 73 || r.2.1 == 66 || r.2.1 == 83 || (r.2.1 == 72 && r.2.2.2.2 % 2 == 0) || r.2.1 == 75 || r.2.1 == 82 || (r.2.1 == 78 && decide (r.2.2.2.2 < 2)))
theorem table_rows : table.all rowOk = true := by decide +kernel
theorem row_nat (i : Nat) (hi : i < 64) : ∃ (nm : List UInt8) (l : Int) (o f3 f7 : Nat), formAt i = (nm, l, (o : Int), (f3 : Int), (f7 : Int)) ∧ o < 128 ∧ f3 < 8 ∧ f7 < 128 ∧
    (l = 85 ∨ l = 74 ∨ l = 73 ∨ l = 66 ∨ l = 83 ∨ (l = 72 ∧ f7 % 2 = 0) ∨ l = 75 ∨ l = 82 ∨ (l = 78 ∧ f7 < 2)) := by
  have h := List.all_eq_true.1 table_rows _ (formAt_mem i hi)
  generalize formAt i = r at *
  obtain ⟨nm, l, o, f3, f7⟩ := r
  simp only [rowOk, Bool.and_eq_true, Bool.or_eq_true, decide_eq_true_eq, beq_iff_eq] at h
  obtain ⟨⟨⟨⟨⟨⟨h1, h2⟩, h3⟩, h4⟩, h5⟩, h6⟩, h7⟩ := h
  refine ⟨nm, l, o.toNat, f3.toNat, f7.toNat, ?_, by omega, by omega, by omega, by omega⟩
  rw [Int.toNat_of_nonneg h1, Int.toNat_of_nonneg h3, Int.toNat_of_nonneg h5]
end
end Go.Proofs.YtiemingpbommeaaGreatDoor

/- Plain law: what a fitting form lays out of the word's own fields is the word. -/
namespace Go.Proofs.YtiemingpbommeaaGreatDoor
open Go.RowKit
noncomputable section
set_option linter.unusedVariables false
set_option linter.unusedSimpArgs false
theorem numAcc_g (u : Nat) (ps : List (Nat × Nat × Nat)) : ∃ g : Nat → Nat × Nat × Nat → Nat, (∀ n f m t, g n (f, m, t) = n ||| fieldN u f m * 2 ^ t) ∧ numAcc u ps = ps.foldl g 0 := ⟨_, fun _ _ _ _ => rfl, rfl⟩
theorem numI_eq (l : Int) (x : Nat) (ps : List (Nat × Nat × Nat)) (b : Nat) (h : piecesOf l = (ps, b)) : numI l x = wrap64 (if b = 0 then numAcc x ps else extN (numAcc x ps) b) := by
  unfold numI
  rw [h]
theorem num_J (x : Nat) : numI 74 x = wrap64 (extN ((((0 ||| (x / 2147483648 % 2) * 1048576) ||| (x / 4096 % 256) * 4096) ||| (x / 1048576 % 2) * 2048) ||| (x / 2097152 % 1024) * 2) 21 : Nat) := by
  rw [numI_eq 74 x [(31, 1, 20), (12, 8, 12), (20, 1, 11), (21, 10, 1)] 21 (by simp [piecesOf]), if_neg (by decide)]
  have h31 : fieldN x 31 1 = x / 2147483648 % 2 := by simp [fieldN]
  have h12 : fieldN x 12 8 = x / 4096 % 256 := by simp [fieldN]
  have h20 : fieldN x 20 1 = x / 1048576 % 2 := by simp [fieldN]
  have h21 : fieldN x 21 10 = x / 2097152 % 1024 := by simp [fieldN]
  have p20 : (2 : Nat) ^ 20 = 1048576 := by decide
  have p12 : (2 : Nat) ^ 12 = 4096 := by decide
  have p11 : (2 : Nat) ^ 11 = 2048 := by decide
  have p1 : (2 : Nat) ^ 1 = 2 := by decide
  obtain ⟨g, hg, e⟩ := numAcc_g x [(31, 1, 20), (12, 8, 12), (20, 1, 11), (21, 10, 1)]
  rw [e]
  simp only [List.foldl_cons, List.foldl_nil]
  rw [hg, hg, hg, hg, h31, h12, h20, h21, p20, p12, p11, p1]
theorem num_I (x : Nat) : numI 73 x = wrap64 (extN (0 ||| (x / 1048576 % 4096)) 12 : Nat) := by
  rw [numI_eq 73 x [(20, 12, 0)] 12 (by simp [piecesOf]), if_neg (by decide)]
  have h20 : fieldN x 20 12 = x / 1048576 % 4096 := by simp [fieldN]
  have p0 : (2 : Nat) ^ 0 = 1 := by decide
  obtain ⟨g, hg, e⟩ := numAcc_g x [(20, 12, 0)]
  rw [e]
  simp only [List.foldl_cons, List.foldl_nil]
  rw [hg, h20, p0, Nat.mul_one]
theorem num_B (x : Nat) : numI 66 x = wrap64 (extN ((((0 ||| (x / 2147483648 % 2) * 4096) ||| (x / 128 % 2) * 2048) ||| (x / 33554432 % 64) * 32) ||| (x / 256 % 16) * 2) 13 : Nat) := by
  rw [numI_eq 66 x [(31, 1, 12), (7, 1, 11), (25, 6, 5), (8, 4, 1)] 13 (by simp [piecesOf]), if_neg (by decide)]
  have h31 : fieldN x 31 1 = x / 2147483648 % 2 := by simp [fieldN]
  have h7 : fieldN x 7 1 = x / 128 % 2 := by simp [fieldN]
  have h25 : fieldN x 25 6 = x / 33554432 % 64 := by simp [fieldN]
  have h8 : fieldN x 8 4 = x / 256 % 16 := by simp [fieldN]
  have p12 : (2 : Nat) ^ 12 = 4096 := by decide
  have p11 : (2 : Nat) ^ 11 = 2048 := by decide
  have p5 : (2 : Nat) ^ 5 = 32 := by decide
  have p1 : (2 : Nat) ^ 1 = 2 := by decide
  obtain ⟨g, hg, e⟩ := numAcc_g x [(31, 1, 12), (7, 1, 11), (25, 6, 5), (8, 4, 1)]
  rw [e]
  simp only [List.foldl_cons, List.foldl_nil]
  rw [hg, hg, hg, hg, h31, h7, h25, h8, p12, p11, p5, p1]
theorem num_S (x : Nat) : numI 83 x = wrap64 (extN ((0 ||| (x / 33554432 % 128) * 32) ||| (x / 128 % 32)) 12 : Nat) := by
  rw [numI_eq 83 x [(25, 7, 5), (7, 5, 0)] 12 (by simp [piecesOf]), if_neg (by decide)]
  have h25 : fieldN x 25 7 = x / 33554432 % 128 := by simp [fieldN]
  have h7 : fieldN x 7 5 = x / 128 % 32 := by simp [fieldN]
  have p5 : (2 : Nat) ^ 5 = 32 := by decide
  have p0 : (2 : Nat) ^ 0 = 1 := by decide
  obtain ⟨g, hg, e⟩ := numAcc_g x [(25, 7, 5), (7, 5, 0)]
  rw [e]
  simp only [List.foldl_cons, List.foldl_nil]
  rw [hg, hg, h25, h7, p5, p0, Nat.mul_one]
theorem num_H (x : Nat) : numI 72 x = wrap64 ((0 ||| (x / 1048576 % 64)) : Nat) := by
  rw [numI_eq 72 x [(20, 6, 0)] 0 (by simp [piecesOf]), if_pos rfl]
  have h20 : fieldN x 20 6 = x / 1048576 % 64 := by simp [fieldN]
  have p0 : (2 : Nat) ^ 0 = 1 := by decide
  obtain ⟨g, hg, e⟩ := numAcc_g x [(20, 6, 0)]
  rw [e]
  simp only [List.foldl_cons, List.foldl_nil]
  rw [hg, h20, p0, Nat.mul_one]
theorem num_K (x : Nat) : numI 75 x = wrap64 ((0 ||| (x / 1048576 % 32)) : Nat) := by
  rw [numI_eq 75 x [(20, 5, 0)] 0 (by simp [piecesOf]), if_pos rfl]
  have h20 : fieldN x 20 5 = x / 1048576 % 32 := by simp [fieldN]
  have p0 : (2 : Nat) ^ 0 = 1 := by decide
  obtain ⟨g, hg, e⟩ := numAcc_g x [(20, 5, 0)]
  rw [e]
  simp only [List.foldl_cons, List.foldl_nil]
  rw [hg, h20, p0, Nat.mul_one]
theorem num_U (x : Nat) : numI 85 x = wrap64 (extN (0 ||| (x / 4096 % 1048576) * 4096) 32 : Nat) := by
  rw [numI_eq 85 x [(12, 20, 12)] 32 (by simp [piecesOf]), if_neg (by decide)]
  have h12 : fieldN x 12 20 = x / 4096 % 1048576 := by simp [fieldN]
  have p12 : (2 : Nat) ^ 12 = 4096 := by decide
  obtain ⟨g, hg, e⟩ := numAcc_g x [(12, 20, 12)]
  rw [e]
  simp only [List.foldl_cons, List.foldl_nil]
  rw [hg, h12, p12]
end
end Go.Proofs.YtiemingpbommeaaGreatDoor

/- Plain law: what Decode answers, Encode takes back. -/
namespace Go.Proofs.YtiemingpbommeaaGreatDoor
open Go.RowKit
noncomputable section
set_option linter.unusedVariables false
set_option linter.unusedSimpArgs false
theorem firstOf_cases (p : Nat → Bool) : (firstOf p = -1 ∧ ∀ i, i < 64 → p i = false) ∨ ∃ i : Nat, i < 64 ∧ firstOf p = (i : Int) ∧ p i = true ∧ ∀ j, j < i → p j = false := by
  unfold firstOf
  cases h : (List.range 64).find? p with
  | none =>
    refine .inl ⟨rfl, fun i hi => ?_⟩
    have := List.find?_eq_none.1 h i (List.mem_range.2 hi)
    simpa using this
  | some i =>
    rw [List.find?_range_eq_some] at h
    obtain ⟨hp, hi, hno⟩ := h
    exact .inr ⟨i, List.mem_range.1 hi, rfl, hp, fun j hj => by simpa using hno j hj⟩
theorem firstOf_at (p : Nat → Bool) (i : Nat) (hi : i < 64) (hp : p i = true) (hno : ∀ j, j < i → p j = false) : firstOf p = i := by
  rcases firstOf_cases p with ⟨_, h⟩ | ⟨k, hk, e, hpk, hnk⟩
  · rw [h i hi] at hp; cases hp
  · rw [e]
    rcases Nat.lt_trichotomy i k with h | h | h
    · rw [hnk i h] at hp; cases hp
    · rw [h]
    · rw [hno k h] at hpk; cases hpk
/-- a form's answer for a word -/
def decAt (x i : Nat) : Int × Int × Int × Int × Int :=
  ((i : Int), registerN x 7 (hasB (formAt i).2.1).1, registerN x 15 (hasB (formAt i).2.1).2.1, registerN x 20 (hasB (formAt i).2.1).2.2, numI (formAt i).2.1 x)
theorem decN_at (x i : Nat) (hi : i < 64) (hp : fitsAt x i = true) (hno : ∀ j, j < i → fitsAt x j = false) : decN x = (decAt x i, true) := by
  unfold decN
  rw [firstOf_at _ i hi hp hno, if_neg (by omega)]
  rfl
theorem decN_cases (x : Nat) : (decN x = ((0, 0, 0, 0, 0), false) ∧ ∀ i, i < 64 → fitsAt x i = false) ∨ ∃ i : Nat, i < 64 ∧ fitsAt x i = true ∧ (∀ j, j < i → fitsAt x j = false) ∧ decN x = (decAt x i, true) := by
  rcases firstOf_cases (fitsAt x) with ⟨e, h⟩ | ⟨i, hi, e, hp, hno⟩
  · refine .inl ⟨?_, h⟩
    unfold decN
    rw [e, if_pos (by decide)]
  · exact .inr ⟨i, hi, hp, hno, decN_at x i hi hp hno⟩
end
end Go.Proofs.YtiemingpbommeaaGreatDoor
