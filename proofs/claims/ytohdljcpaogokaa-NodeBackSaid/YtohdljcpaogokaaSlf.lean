/-
  An owned row laid open as its block, and a cell of it written. Conditions: none; plain lemmas over any program.
-/
import Derived.Test.YtohdljcpaogokaaSlb
namespace Go.SL
section
variable {w : World} {l : List HProp}

theorem Ent.fromRow (hE : Ent l w) (i : Nat) {e : TypeId} {size n : Nat} {v : Value} {xs : List Value} (hi : l[i]? = some (row e size v n xs)) (h0 : 0 < n) :
    ∃ (g cap : Nat) (cur : Array Value), v = .slice (some ⟨g, 0, none⟩) n cap ∧ n ≤ cap ∧ cap ≤ maxLen ∧ cur.size = cap * size ∧ cur.toList.take (n * size) = xs ∧ Ent (l.set i (pt g (.cells cur e (0, 0)))) w := by
  have ho := hE.owns i hi
  rcases ho.2 with ⟨rfl, rfl⟩ | ⟨g, cap, cur, rfl, hb, hg, hn, hm, hs, ht⟩
  · exact absurd h0 (by omega)
  · refine ⟨g, cap, cur, rfl, hn, hm, hs, ht, Ent.put ((hE.front i hi).step (Bs := [pt g (.cells cur e (0, 0))]) (Same.refl w) (Nat.le_refl _) fun F hF => ⟨fun _ _ _ => rfl, F, on_single ?_, fun _ h => .inl h⟩) (List.getElem?_eq_some_iff.1 hi).1⟩
    unfold row at hF
    unfold pt
    exact ⟨hg, fun x => by rw [hF.2]; simp [Value.ownBlock, eq_comm]⟩

/-- a cell of a row of one-cell elements is written -/
theorem Ent.backRow (hE : Ent l w) (i : Nat) {g cap n k : Nat} {cur : Array Value} {e : TypeId} {u : Value} {xs : List Value} (hi : l[i]? = some (pt g (.cells (cur.setIfInBounds k u) e (0, 0))))
    (hn : n ≤ cap) (hm : cap ≤ maxLen) (hs : cur.size = cap * 1) (ht : cur.toList.take (n * 1) = xs) : Ent (l.set i (row e 1 (.slice (some ⟨g, 0, none⟩) n cap) n (xs.set k u))) w := by
  refine hE.toRow i hi ?_ hn hm (by simpa using hs) ?_
  · rw [List.length_set, ← ht, List.length_take, Array.length_toList, hs]
    omega
  · rw [Array.toList_setIfInBounds, ← ht, List.take_set]
end
end Go.SL
