/- A region that draws its order and in which a new block is made: its first n operations leave what is there as it is, operation n makes the block, the others follow one behind the other. One walk in the text's order serves. -/
import Derived.Test.YtoljkjnehcbbaaaQtail
namespace Go.Proofs.Ytoljkjnehcbbaaa
open Go Go.RowKit
section
variable {P : Program} {ops : Array Oper} {W : World}

/-- what an operation yields in w: a value and the same world, or a call that returns it and leaves all that is there as it was -/
def monoUpon (P : Program) (w : World) (v : Value) : Result Next → Prop
  | .ok (.value u) w' => w' = w ∧ u = v
  | .ok .skip w' => w' = w ∧ v = undef
  | .ok (.enter f args) w' => w' = w ∧ Calls P f args w (fun e w'' => e = .returned v ∧ Below w.heap.size w w'')
  | _ => False

/-- in every world behind W the operation yields v -/
def monoAt (P : Program) (W : World) (o : Oper) (a : Act) (v : Value) : Prop := ∀ w, Below W.heap.size W w → monoUpon P w v ((execOp a.eval o).run P w)

def wpMono (P : Program) (ops : Array Oper) (W : World) (K : Act → Prop) : List Oper → Act → Prop
  | [], a => K a
  | o :: rest, a => if Region.wanted o (yielded ops a.tmps) then ∃ v, monoAt P W o a v ∧ wpMono P ops W K rest (a.put o.dst v) else wpMono P ops W K rest (a.put o.dst undef)

def mOp (P : Program) (ops : Array Oper) (W : World) (i : Nat) (K : Act → Prop) (a : Act) : Prop :=
  match ops[i]? with
  | none => K a
  | some o => if Region.wanted o (yielded ops a.tmps) then ∃ v, monoAt P W o a v ∧ K (a.put o.dst v) else K (a.put o.dst undef)

theorem mOp_mono {i : Nat} {a : Act} {K K' : Act → Prop} (h : ∀ a, K a → K' a) (hh : mOp P ops W i K a) : mOp P ops W i K' a := by
  unfold mOp at *
  split
  · exact h _ (by simpa [*] using hh)
  · rename_i o ho
    simp only [ho] at hh
    split
    · rename_i hw; rw [if_pos hw] at hh; obtain ⟨v, h1, h2⟩ := hh; exact ⟨v, h1, h _ h2⟩
    · rename_i hw; rw [if_neg hw] at hh; exact h _ hh

/-- a class of worlds behind W that every callee keeps -/
structure Closed (W : World) (C : World → Prop) : Prop where
  below : ∀ w, C w → Below W.heap.size W w
  keep : ∀ w w', C w → Below w.heap.size w w' → C w'

theorem monoUpon_quiet {C : World → Prop} (hC : Closed W C) {w : World} (hw : C w) {v : Value} {r : Result Next} (h : monoUpon P w v r) : Oper.quietUpon P C w v r := by
  cases r with
  | halt x w' => exact h.elim
  | ok n w' =>
    cases n with
    | enter f args => exact ⟨h.1, h.2.mono fun e w'' q => ⟨q.1, hC.keep _ _ hw q.2⟩⟩
    | _ => exact h

theorem qOp_of_mOp {C : World → Prop} (hC : Closed W C) {i : Nat} {K : Act → Prop} {a : Act} (h : mOp P ops W i K a) : qOp P ops C i K a := by
  unfold mOp at h
  unfold qOp
  split
  · rename_i ho; simp only [ho] at h; exact h
  · rename_i o ho
    simp only [ho] at h
    split
    · rename_i hw
      rw [if_pos hw] at h
      obtain ⟨v, h1, h2⟩ := h
      exact ⟨v, fun w hw' => monoUpon_quiet hC hw' (h1 w (hC.below w hw')), h2⟩
    · rename_i hw; rw [if_neg hw] at h; exact h

/-- in state a the operation yields v, or its guard says no -/
def MonoIn (P : Program) (ops : Array Oper) (W : World) (o : Oper) (v : Value) (a : Act) : Prop :=
  (Region.wanted o (yielded ops a.tmps) = true ∧ monoAt P W o a v) ∨ (Region.wanted o (yielded ops a.tmps) = false ∧ v = undef)

theorem MonoIn.mOp {i : Nat} {o : Oper} {v : Value} {a : Act} (hi : ops[i]? = some o) (hy : MonoIn P ops W o v a) {K : Act → Prop} (h : K (a.put o.dst v)) : mOp P ops W i K a := by
  unfold Go.Proofs.Ytoljkjnehcbbaaa.mOp
  simp only [hi]
  rcases hy with ⟨hw, hv⟩ | ⟨hw, rfl⟩
  · rw [if_pos hw]; exact ⟨v, hv, h⟩
  · rw [if_neg (by simp [hw])]; exact h

theorem monoIn_of_mOp {i : Nat} {o : Oper} {a : Act} {K : Act → Prop} (hi : ops[i]? = some o) (h : mOp P ops W i K a) : ∃ v, MonoIn P ops W o v a ∧ K (a.put o.dst v) := by
  unfold mOp at h
  simp only [hi] at h
  by_cases hw : Region.wanted o (yielded ops a.tmps) = true
  · rw [if_pos hw] at h
    obtain ⟨v, h1, h2⟩ := h
    exact ⟨v, .inl ⟨hw, h1⟩, h2⟩
  · rw [if_neg hw] at h
    exact ⟨undef, .inr ⟨by simpa using hw, rfl⟩, h⟩

theorem MonoIn.of_same {o : Oper} {v : Value} {a a' : Act} (hy : MonoIn P ops W o v a) (he : execOp a'.eval o = execOp a.eval o)
    (hw : Region.wanted o (yielded ops a'.tmps) = Region.wanted o (yielded ops a.tmps)) : MonoIn P ops W o v a' := by
  unfold MonoIn monoAt at *
  rw [he, hw]
  exact hy

theorem mOp_put {j : Nat} {oi oj : Oper} {v : Value} (hj : ops[j]? = some oj) (hap : oi.apart ops oj = true)
    (hsi : ∀ cs b, oi.op ≠ .select cs b) (hsj : ∀ cs b, oj.op ≠ .select cs b) {K : Act → Prop} {a : Act}
    (hy : MonoIn P ops W oi v a) (h : mOp P ops W j K (a.put oi.dst v)) : mOp P ops W j (fun a' => MonoIn P ops W oi v a' ∧ K (a'.put oi.dst v)) a := by
  obtain ⟨h1, h2, h3⟩ := Oper.apart_spec hap
  have keep : ∀ u, MonoIn P ops W oi v (a.put oj.dst u) := fun u => hy.of_same (execOp_put oi hsi a oj.dst u h3) (wanted_put oi a oj.dst u h3)
  obtain ⟨u, hu, hk⟩ := monoIn_of_mOp hj h
  have hu' : MonoIn P ops W oj u a := by
    unfold MonoIn monoAt at *
    rwa [wanted_put oj a oi.dst v h1, execOp_put oj hsj a oi.dst v h1] at hu
  exact hu'.mOp hj ⟨keep u, by rw [← Act.put_comm a v u h2]; exact hk⟩

/-- the head's operations in any order, the block's maker taken as come up; behind them L -/
def headM (P : Program) (ops : Array Oper) (W : World) (n : Nat) (L : Array Bool → Act → Prop) : Nat → Array Bool → Act → Prop
  | 0, listed, a => L listed a
  | f + 1, listed, a => Region.ready .any ops listed ≠ [] ∧ ∀ i ∈ Region.ready .any ops listed, i < n ∧ mOp P ops W i (headM P ops W n L f (listed.setIfInBounds i true)) a

/-- who is ready is of the head, while one of the head hasn't come up: asked of the listing as closed facts -/
structure HeadOk (ops : Array Oper) (n : Nat) : Prop where
  sink : Region.sinkB .any ops (n + 1) = true
  chain : Region.chainB .any ops (n + 1) = true
  lt : n + 1 < ops.size
  waits : Region.waitsFor .any ops (n + 1) n = true

/-- the listing's form: closed under what each waits for, but that the maker is listed; the tail is not -/
theorem head_lt {n : Nat} (hk : HeadOk ops n) {listed : Array Bool} (inv : HeadInv .any ops (n + 1) listed) {i : Nat} (hi : i < n) (hun : listed.getD i true = false) {j : Nat} (hj : j ∈ Region.ready .any ops listed) (hl : listed.getD n false = true) : j < n := by
  have h1 : j < n + 1 := Nat.lt_of_not_le fun h => tail_waits hk.sink hk.chain hk.lt inv _ i rfl (by omega) hun j h hj
  rcases Nat.lt_or_eq_of_le (Nat.le_of_lt_succ h1) with h | rfl
  · exact h
  · have h0 := (mem_ready.1 hj).1
    have hs : j < listed.size := by rw [inv.size]; have := hk.lt; omega
    simp [hs] at h0 hl
    rw [h0] at hl; cases hl

theorem headM_first {n i : Nat} {oi : Oper} {v : Value} {L : Array Bool → Act → Prop} (hk : HeadOk ops n) (hi : ops[i]? = some oi) (hsel : ∀ (j : Nat) (o : Oper) cs b, ops[j]? = some o → o.op ≠ .select cs b)
    (hin : i < n) (hdone : ∀ listed a, L listed a → ∀ j ∈ Region.ready .any ops listed, n + 1 ≤ j) :
    ∀ (f : Nat) (listed : Array Bool) (a : Act), HeadInv .any ops (n + 1) listed → listed.getD n false = true →
      (∀ j oj, ops[j]? = some oj → j ≠ i → listed.getD j true = false → (∀ e ∈ oj.after, Region.binds .any e = true → e.on ≠ i) → oi.apart ops oj = true) →
      i ∈ Region.ready .any ops listed → MonoIn P ops W oi v a →
      headM P ops W n L f (listed.setIfInBounds i true) (a.put oi.dst v) → headM P ops W n L (f + 1) listed a := by
  intro f
  induction f with
  | zero =>
    intro listed a inv hl _ hr hy H
    refine ⟨List.ne_nil_of_mem hr, fun j hj => ?_⟩
    have hun := (mem_ready.1 hr).1
    refine ⟨head_lt hk inv hin hun hj hl, ?_⟩
    by_cases hji : j = i
    · subst hji; exact hy.mOp hi H
    · have h1 := hdone _ _ H j (ready_mono hj hji)
      have h2 := head_lt hk inv hin hun hj hl
      omega
  | succ f ih =>
    intro listed a inv hl hfree hr hy H
    refine ⟨List.ne_nil_of_mem hr, fun j hj => ?_⟩
    have hun := (mem_ready.1 hr).1
    have hjn := head_lt hk inv hin hun hj hl
    refine ⟨hjn, ?_⟩
    by_cases hji : j = i
    · subst hji; exact hy.mOp hi H
    · have h1 := (H.2 j (ready_mono hj hji)).2
      obtain ⟨hjun, oj, hoj, hall⟩ := mem_ready.1 hj
      have hnot : ∀ e ∈ oj.after, Region.binds .any e = true → e.on ≠ i := fun e he hb heq => by
        have h1 := hall e he hb
        rw [heq, getD_both hun] at h1
        cases h1
      have h2 := mOp_put hoj (hfree j oj hoj hji hjun hnot) (fun cs b => hsel i oi cs b hi) (fun cs b => hsel j oj cs b hoj) hy h1
      have hfree' : ∀ k ok, ops[k]? = some ok → k ≠ i → (listed.setIfInBounds j true).getD k true = false →
          (∀ e ∈ ok.after, Region.binds .any e = true → e.on ≠ i) → oi.apart ops ok = true := fun k ok hk hki hun hno => by
        refine hfree k ok hk hki ?_ hno
        by_cases hjk : j = k
        · subst hjk; exact hjun
        · rw [getD_set_ne true hjk] at hun; exact hun
      refine mOp_mono (fun a' h3 => ih (listed.setIfInBounds j true) a' (inv.set hj (by omega)) (getD_set_true hl) hfree' (ready_mono hr (Ne.symm hji)) h3.1 ?_) h2
      rw [Array.setIfInBounds_comm _ _ hji]
      exact h3.2

/-- the text's order is one of the orders -/
def lexHeadM (ops : Array Oper) (n g : Nat) : Nat → Nat → Array Bool → Bool
  | 0, _, listed => Region.seqB .any ops g (n + 1) listed
  | f + 1, k, listed => (Region.ready .any ops listed).contains k && Region.free .any ops listed k && lexHeadM ops n g f (k + 1) (listed.setIfInBounds k true)

theorem headM_lex {n g : Nat} {Lq : Act → Prop} (hk : HeadOk ops n) (hsel : Region.noSelect ops = true) :
    ∀ (l : List Oper) (k : Nat) (listed : Array Bool) (a : Act), (∀ j, j < l.length → l[j]? = ops[k + j]?) → k + l.length = n → HeadInv .any ops (n + 1) listed → listed.getD n false = true →
    lexHeadM ops n g l.length k listed = true → wpMono P ops W Lq l a →
    headM P ops W n (fun listed' a' => Region.seqB .any ops g (n + 1) listed' = true ∧ Lq a') l.length listed a
  | [], k, listed, a, _, hkn, _, _, hB, h => ⟨by simpa [lexHeadM] using hB, h⟩
  | o :: l, k, listed, a, hl, hkn, inv, hln, hB, h => by
    have h0 : ops[k]? = some o := by simpa using (hl 0 (by simp)).symm
    simp only [List.length_cons, lexHeadM, Bool.and_eq_true] at hB
    obtain ⟨⟨hr, hf⟩, hB'⟩ := hB
    have hkn' : k < n := by simp only [List.length_cons] at hkn; omega
    have hr' : k ∈ Region.ready .any ops listed := by simpa using hr
    have hst : mOp P ops W k (wpMono P ops W Lq l) a := by unfold mOp; simp only [h0]; exact h
    obtain ⟨v, hy, hK⟩ := monoIn_of_mOp h0 hst
    exact headM_first hk h0 (Region.noSelect_spec hsel) hkn' (fun listed' a' hL => seqB_ready hL.1) l.length listed a inv hln (Region.free_spec h0 hf) hr' hy
      (headM_lex hk hsel l (k + 1) _ _ (fun j hj => by have := hl (j + 1) (by simp; omega); simpa [Nat.add_assoc, Nat.add_comm 1 j] using this) (by simp only [List.length_cons] at hkn; omega) (inv.set hr' (by omega)) (getD_set_true hln) hB' hK)

/-- an operation that doesn't look at t does as it did, whatever lies in t -/
theorem mOp_shift {i : Nat} {o oa : Oper} {K : Act → Prop} {a : Act} (hi : ops[i]? = some o) (hap : oa.apart ops o = true) (hs : ∀ cs b, o.op ≠ .select cs b) (p : Value)
    (h : mOp P ops W i K a) : mOp P ops W i (fun a'' => ∃ a', a'' = a'.put oa.dst p ∧ K a') (a.put oa.dst p) := by
  obtain ⟨h1, h2, h3⟩ := Oper.apart_spec hap
  obtain ⟨u, hu, hk⟩ := monoIn_of_mOp hi h
  have hu' : MonoIn P ops W o u (a.put oa.dst p) := hu.of_same (execOp_put o hs a oa.dst p h1) (wanted_put o a oa.dst p h1)
  exact hu'.mOp hi ⟨_, by rw [← Act.put_comm a p u h2], hk⟩

/-- the block's maker has come up -/
theorem wpAny_done {n g : Nat} {oa : Oper} {p : Value} {C : World → Prop} {L : Array Bool → Act → Prop} {Q : Exit → Act → World → Prop} (hC : Closed W C) (hsel : ∀ (j : Nat) (o : Oper) cs b, ops[j]? = some o → o.op ≠ .select cs b)
    (hap : ∀ j o, ops[j]? = some o → j < n → oa.apart ops o = true) (hL : ∀ listed a, L listed a → ∀ w, C w → wpAny P .any ops Q g listed (a.put oa.dst p) w) :
    ∀ (f : Nat) (listed : Array Bool) (a : Act), headM P ops W n L f listed a → ∀ w, C w → wpAny P .any ops Q (f + g) listed (a.put oa.dst p) w
  | 0, listed, a, h, w, hw => by rw [Nat.zero_add]; exact hL _ _ h w hw
  | f + 1, listed, a, h, w, hw => by
    rw [show f + 1 + g = (f + g) + 1 by omega]
    refine ⟨fun h0 => absurd h0 h.1, fun i hi => ?_⟩
    obtain ⟨hin, hm⟩ := h.2 i hi
    obtain ⟨_, o, ho, _⟩ := mem_ready.1 hi
    refine wpOp_of_qOp hw (fun a'' w' hw' h' => ?_) (qOp_of_mOp hC (mOp_shift ho (hap i o ho hin) (fun cs b => hsel i o cs b ho) p hm))
    obtain ⟨a', rfl, hK⟩ := h'
    exact wpAny_done hC hsel hap hL f _ a' hK w' hw'

/-- the block's maker has not come up yet -/
theorem wpAny_pending {n g : Nat} {oa : Oper} {L : Array Bool → Act → Prop} {Q : Exit → Act → World → Prop} (hk : HeadOk ops n) (hoa : ops[n]? = some oa) (hg : oa.guard = none) (obj : Obj)
    (hrun : ∀ (a : Act) (w : World), (execOp a.eval oa).run P w = .ok (.value (.pointer (some ⟨w.heap.size, 0, none⟩))) (w.alloc obj))
    (hsel : ∀ (j : Nat) (o : Oper) cs b, ops[j]? = some o → o.op ≠ .select cs b)
    (hap : ∀ j o, ops[j]? = some o → j < n → oa.apart ops o = true)
    (hLr : ∀ listed a, L listed a → ∀ j ∈ Region.ready .any ops listed, j = n + 1)
    (hfree : ∀ e ∈ oa.after, Region.binds .any e = false)
    (hL : ∀ listed a, L listed a → ∀ g' w, Below W.heap.size W w → W.heap.size ≤ g' → w.heap[g']? = some obj → wpAny P .any ops Q g listed (a.put oa.dst (.pointer (some ⟨g', 0, none⟩))) w) :
    ∀ (f : Nat) (listed : Array Bool) (a : Act), listed.getD n true = false → headM P ops W n L f (listed.setIfInBounds n true) a → ∀ w, Below W.heap.size W w → wpAny P .any ops Q (f + g + 1) listed a w
  | f, listed, a, hn, h, w, hw => by
    have hrn : n ∈ Region.ready .any ops listed := mem_ready.2 ⟨hn, oa, hoa, fun e he hb => by rw [hfree e he] at hb; cases hb⟩
    refine ⟨fun h0 => (by rw [h0] at hrn; cases hrn), fun i hi => ?_⟩
    by_cases hin : i = n
    · subst hin
      unfold wpOp
      simp only [hoa]
      rw [if_pos (by simp [Region.wanted, hg])]
      refine .inl ?_
      show oa.upon P a _ Q _
      rw [hrun, Oper.upon_value]
      have hC : Closed W (fun w' => Below W.heap.size W w' ∧ w'.heap[w.heap.size]? = some obj) :=
        ⟨fun w' h => h.1, fun w' w'' h hb => ⟨h.1.trans (hb.mono h.1.size), (hb.block _ (Array.getElem?_eq_some_iff.1 h.2).1).trans h.2⟩⟩
      exact wpAny_done hC hsel hap (fun listed' a' hl w' hw' => hL listed' a' hl _ w' hw'.1 hw.size hw'.2) f _ a h _ ⟨hw.alloc hw.size _, heap_alloc_new _ _⟩
    · have hr' : i ∈ Region.ready .any ops (listed.setIfInBounds n true) := ready_mono hi hin
      cases f with
      | zero =>
        have := hLr _ _ h i hr'
        subst this
        obtain ⟨o, ho, e, he, hb, hon⟩ := Region.waitsFor_spec hk.waits
        obtain ⟨_, o', ho', hall⟩ := mem_ready.1 hi
        obtain rfl : o = o' := Option.some.inj (ho.symm.trans ho')
        have := hall e he hb
        rw [hon, getD_both hn] at this
        cases this
      | succ f =>
        obtain ⟨hlt, hm⟩ := h.2 i hr'
        have hC : Closed W (fun w' => Below W.heap.size W w') := ⟨fun w' h => h, fun w' w'' h hb => h.trans (hb.mono h.size)⟩
        rw [show f + 1 + g = f + g + 1 by omega]
        refine wpOp_of_qOp hw (fun a' w' hw' h' => ?_) (qOp_of_mOp hC hm)
        rw [Array.setIfInBounds_comm _ _ (Ne.symm hin)] at h'
        exact wpAny_pending hk hoa hg obj hrun hsel hap hLr hfree hL f _ a' (by rw [getD_set_ne true hin]; exact hn) h' w' hw'

/-- all that is asked of the region's form -/
def monoB (ops : Array Oper) (n : Nat) : Bool :=
  Region.noSelect ops && decide (n + 1 < ops.size) && Region.sinkB .any ops (n + 1) && Region.chainB .any ops (n + 1) && Region.waitsFor .any ops (n + 1) n &&
  (match ops[n]? with
    | some oa => oa.guard.isNone && oa.after.all (fun e => !Region.binds .any e) && (List.range n).all (fun j => match ops[j]? with | some o => oa.apart ops o | none => true)
    | none => false) &&
  lexHeadM ops n (ops.size - (n + 1)) n 0 ((Array.replicate ops.size false).setIfInBounds n true)

theorem wp_region_alloc {id : Nat} {Q : Exit → Act → World → Prop} {a : Act} {w : World} {l : List Oper} (n : Nat) (t : Tmp) (obj : Obj) (hm : P.follows .mixedOrders = true) (hB : monoB l.toArray n = true)
    (oa : Oper) (hoa : l[n]? = some oa) (ht : oa.dst = some t)
    (hrun : ∀ (a : Act) (w : World), (execOp a.eval oa).run P w = .ok (.value (.pointer (some ⟨w.heap.size, 0, none⟩))) (w.alloc obj))
    (h : wpMono P l.toArray w.drew (fun a' => ∀ g w', Below w.heap.size w w' → w.heap.size ≤ g → w'.heap[g]? = some obj →
      wpList P l.toArray Q (l.drop (n + 1)) (a'.put (some t) (.pointer (some ⟨g, 0, none⟩))) w') (l.take n) a) : (Code.region id l.toArray true).wp P Q a w := by
  have hoa' : l.toArray[n]? = some oa := by simpa using hoa
  simp only [monoB, Bool.and_eq_true, decide_eq_true_eq, hoa'] at hB
  obtain ⟨⟨⟨⟨⟨⟨hsel, hn⟩, hs⟩, hc⟩, hw⟩, ⟨hg, hfree⟩, hap⟩, hlex⟩ := hB
  have hk : HeadOk l.toArray n := ⟨hs, hc, hn, hw⟩
  have hn' : n + 1 < l.length := by simpa using hn
  have htl : (l.take n).length = n := by simp; omega
  have hdl : (l.drop (n + 1)).length = l.toArray.size - (n + 1) := by simp
  have hln : ((Array.replicate l.toArray.size false).setIfInBounds n true).getD n false = true := by
    have : n < l.length := by omega
    simp [this]
  have hfree' : ∀ e ∈ oa.after, Region.binds .any e = false := fun e he => by
    have := Array.all_eq_true_iff_forall_mem.1 hfree e he
    simpa using this
  have inv0 : HeadInv .any l.toArray (n + 1) ((Array.replicate l.toArray.size false).setIfInBounds n true) := by
    refine ⟨by simp, fun j oj hj hl e he hb => ?_, fun t ht ht' => ?_⟩
    · by_cases hjn : n = j
      · subst hjn
        obtain rfl : oj = oa := Option.some.inj (hj.symm.trans hoa')
        rw [hfree' e he] at hb; cases hb
      · rw [getD_set_ne false hjn, getD_replicate_false] at hl; cases hl
    · rw [getD_set_ne true (by omega)]
      exact getD_in (by simpa using ht') (getD_replicate_false _ _)
  have H := headM_lex (g := l.toArray.size - (n + 1)) hk hsel (l.take n) 0 _ a (fun j hj => by
    have hj' : j < n := by rw [htl] at hj; exact hj
    simp [hj']) (by simpa using htl) inv0 hln (by rw [htl]; exact hlex) h
  refine wp_region_any hm ?_
  have hap' : ∀ j o, l.toArray[j]? = some o → j < n → oa.apart l.toArray o = true := fun j o ho hj => by
    have := List.all_eq_true.1 hap j (List.mem_range.2 hj)
    simpa [ho] using this
  rw [htl] at H
  have := wpAny_pending (Q := Q) (g := l.toArray.size - (n + 1)) hk hoa' (by simpa using hg) obj hrun (Region.noSelect_spec hsel) hap' (fun listed a' hL j hj => by
      have := hL.1
      rw [show l.toArray.size - (n + 1) = (l.toArray.size - (n + 1) - 1) + 1 by omega] at this
      simp only [Region.seqB, Bool.and_eq_true, decide_eq_true_eq] at this
      rw [this.1] at hj
      simpa using hj) hfree' (fun listed a' hL g' w' hw' hg' hb' => by
      have := wpAny_of_seq (ops := l.toArray) (md := .any) (Q' := Q) (l.drop (n + 1)) (n + 1) listed (a'.put oa.dst (.pointer (some ⟨g', 0, none⟩))) w' (fun j => by simp [List.getElem?_drop]) (by rw [hdl]; exact hL.1) (by rw [ht]; exact hL.2 g' w' ⟨hw'.os, hw'.tape, hw'.output, hw'.size, hw'.block⟩ hg' hb')
      rwa [hdl] at this) n (Array.replicate l.toArray.size false) a (getD_in (by simpa using (by omega : n < l.length)) (getD_replicate_false _ _)) H { w with drawn := w.drawn + 1 } (Below.refl _ _)
  rwa [show n + (l.toArray.size - (n + 1)) + 1 = l.toArray.size by omega] at this

/-- one operation: its value -/
theorem mono_val {o : Oper} {rest : List Oper} {K : Act → Prop} {a : Act} (v : Value) (hw : Region.wanted o (yielded ops a.tmps) = true)
    (h : ∀ u : Aft W, (execOp a.eval o).run P (aft W u) = .ok (.value v) (aft W u)) (hk : wpMono P ops W K rest (a.put o.dst v)) : wpMono P ops W K (o :: rest) a := by
  unfold wpMono
  rw [if_pos hw]
  exact ⟨v, fun w hb => by have := h ⟨w, hb⟩; rw [show aft W ⟨w, hb⟩ = w from rfl] at this; rw [this]; exact ⟨rfl, rfl⟩, hk⟩
/-- one call: its value -/
theorem mono_call {o : Oper} {rest : List Oper} {K : Act → Prop} {a : Act} (v : Value) (f : FuncId) (args : Array Value) (hw : Region.wanted o (yielded ops a.tmps) = true)
    (h : ∀ u : Aft W, (execOp a.eval o).run P (aft W u) = .ok (.enter f args) (aft W u))
    (hc : ∀ u : Aft W, Calls P f args (aft W u) (fun e w' => e = .returned v ∧ Below (aft W u).heap.size (aft W u) w')) (hk : wpMono P ops W K rest (a.put o.dst v)) : wpMono P ops W K (o :: rest) a := by
  unfold wpMono
  rw [if_pos hw]
  exact ⟨v, fun w hb => by have := h ⟨w, hb⟩; rw [show aft W ⟨w, hb⟩ = w from rfl] at this; rw [this]; exact ⟨rfl, hc ⟨w, hb⟩⟩, hk⟩
theorem mono_nil {K : Act → Prop} {a : Act} (h : K a) : wpMono P ops W K [] a := h
end
end Go.Proofs.Ytoljkjnehcbbaaa
