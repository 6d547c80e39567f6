/-
  An operation of a region that draws its order is taken: the kit's law in a short form (the walks of regions are long texts).
-/
import Derived.OrdersHeld
import Derived.KernelRfl
namespace Go.Proofs.Ytohdljcpaogokaa


variable {P : Program} {md : Region.Mode} {ops : Array Oper} {Q : Exit → Act → World → Prop} {S : World → Prop}
theorem takeW (i : Nat) (oi : Oper) (v : Value) {fuel : Nat} {listed : Array Bool} {a : Act} {w : World} (hy : YieldsIf P ops S oi v a) (hS : S w) (h : wpAnyH P md ops Q S fuel (listed.setIfInBounds i true) (a.put oi.dst v) w)
    (hi : ops[i]? = some oi := by rfl) (hs : Region.noSelect ops = true := by kernel_rfl) (hf : Region.free md ops listed i = true := by kernel_rfl) (hr : (Region.ready md ops listed).contains i = true := by kernel_rfl)
    (hQ : ∀ c a w, Q (.panic c) (a.put oi.dst v) w → Q (.panic c) a w := by exact fun _ _ _ h => h) : wpAnyH P md ops Q S (fuel + 1) listed a w :=
  wpAnyH_take hi hs hf hr hQ hy hS h
theorem sz {α : Type} (a : α) (xs : List α) (n : Nat) (x : α) : (a :: xs).set (n + 1) x = a :: xs.set n x := rfl
theorem s0 {α : Type} (a : α) (xs : List α) (x : α) : (a :: xs).set 0 x = x :: xs := rfl
theorem sb {α : Type} (xs : List α) (n : Nat) (x : α) : xs.toArray.setIfInBounds n x = (xs.set n x).toArray := by simp
end Go.Proofs.Ytohdljcpaogokaa
