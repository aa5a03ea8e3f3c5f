/- The words that this seat's walks share: a region of closed operations run at once, what stays below, a whole row stored. -/
import Derived.Test.YtoljkjnehcbbaaaProg
import Derived.WalkKit
import Derived.WalkSpells
import Derived.WalkLawsBesides
import Derived.KernelRfl
import Derived.Deep.RegionHeld3
import Derived.Deep.QuietTactic
import Derived.BigQuiet
namespace Go.Proofs.Ytoljkjnehcbbaaa
open Go.RowKit
noncomputable section

/-- a list of operations run at once; each has no guard and yields a value -/
def evalList (P : Program) : List Oper → Act → World → Option (Act × World)
  | [], a, w => some (a, w)
  | o :: r, a, w =>
    match o.guard with
    | some _ => none
    | none =>
      match (execOp a.eval o).run P w with
      | .ok (.value v) w' => evalList P r (a.put o.dst v) w'
      | .ok .skip w' => evalList P r (a.put o.dst undef) w'
      | _ => none

theorem wpList_evalList {P : Program} {ops : Array Oper} {Q : Exit → Act → World → Prop} : ∀ (l rest : List Oper) (a : Act) (w : World) (a' : Act) (w' : World),
    evalList P l a w = some (a', w') → wpList P ops Q rest a' w' → wpList P ops Q (l ++ rest) a w := by
  intro l
  induction l with
  | nil =>
    intro rest a w a' w' h hk
    simp only [evalList, Option.some.injEq, Prod.mk.injEq] at h
    obtain ⟨rfl, rfl⟩ := h
    exact hk
  | cons o l ih =>
    intro rest a w a' w' h hk
    simp only [evalList] at h
    cases hg : o.guard with
    | some x => simp [hg] at h
    | none =>
      simp only [hg] at h
      refine wpList_plain hg fun K hK => ?_
      show (o.upon P a K Q ((execOp a.eval o).run P w))
      split at h
      · rename_i v w1 hr
        rw [hr, Oper.upon_value]
        exact hK _ _ (ih rest _ _ a' w' h hk)
      · rename_i w1 hr
        rw [hr, Oper.upon_skip]
        exact hK _ _ (ih rest _ _ a' w' h hk)
      · cases h

theorem wpList_take {P : Program} {ops : Array Oper} {Q : Exit → Act → World → Prop} (n : Nat) {l : List Oper} {a : Act} {w : World} (a' : Act) (w' : World)
    (h : evalList P (l.take n) a w = some (a', w')) (hk : wpList P ops Q (l.drop n) a' w') : wpList P ops Q l a w := by
  have := wpList_evalList (l.take n) (l.drop n) a w a' w' h hk
  rwa [List.take_append_drop] at this

/-- a fact kept from the walk -/
theorem hid {p : Prop} (h : p) : Hid p := h

theorem bcell {W w1 : World} (hb : Below W.heap.size W w1) : (∀ b o, b < W.heap.size → w1.cell? ⟨b, o, none⟩ = W.cell? ⟨b, o, none⟩) ∧ (∀ b o, b < W.heap.size → w1.frozen? ⟨b, o, none⟩ = W.frozen? ⟨b, o, none⟩) :=
  ⟨fun b o h => hb.cell (p := ⟨b, o, none⟩) h, fun b o h => hb.frozen (p := ⟨b, o, none⟩) h⟩

theorem blk_lt' {w : World} {g : Nat} {o : Obj} (h : w.heap[g]? = some o) : g < w.heap.size := (Array.getElem?_eq_some_iff.1 h).1

theorem below_setRow {B : Nat} {a w : World} (h : Below B a w) {g : Nat} (hg : B ≤ g) (cs : Array Value) : Below B a (w.setRow g cs) :=
  h.trans ⟨rfl, rfl, rfl, by simp [World.setRow], fun k hk => by simp only [World.setRow, Array.getElem?_modify]; rw [if_neg (by omega)]⟩

end
end Go.Proofs.Ytoljkjnehcbbaaa
