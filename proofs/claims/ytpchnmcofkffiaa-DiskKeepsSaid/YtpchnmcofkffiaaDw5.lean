/-
  An act in both disks, whatever it is; what it does to the sizes.
-/
import Derived.Test.YtpchnmcofkffiaaDw2
import Derived.Test.YtpchnmcofkffiaaDw3
namespace Go.Proofs.Ytpchnmcofkffiaa
open Go.RowKit Go.SL

theorem u8_is {a b : UInt8} (h : a = b) : ((a.toNat : Int) == (b.toNat : Int)) = true := by rw [h]; simp
theorem u8_isnt {a b : UInt8} (h : a ≠ b) : ((a.toNat : Int) == (b.toNat : Int)) = false := by
  rw [beq_eq_false_iff_ne]
  intro e
  exact h (UInt8.toNat_inj.1 (by omega))

theorem does_any {F R : List HProp} {w : World} {p : Nat} {s : DS} {xs : List Value} {x : DAct} (hg : s.good) (hw : s.wait.length ≤ 999999) (hx : refIs R xs s) (hE : Ent (disk p s :: (F ++ R)) w) :
    Calls Try.prog 45 #[.pointer (some ⟨p, 0, none⟩), .agg xs.toArray, .agg x.cells.toArray] w (Ret fun v w' => ∃ m ys, v = .tuple #[.agg ys.toArray, .bool true] ∧ refIs (m ++ R) ys (s.does x) ∧ Ent (disk p (s.does x) :: (F ++ (m ++ R))) w') := by
  unfold DS.does
  by_cases e0 : x.do_ = 0
  · rw [if_pos e0]; exact does0 hg hw (u8_is e0) hx hE
  · rw [if_neg e0]
    by_cases e1 : x.do_ = 1
    · rw [if_pos e1]; exact does1 hg hw (u8_isnt e0) (u8_is e1) hx hE
    · rw [if_neg e1]
      by_cases e2 : x.do_ = 2
      · rw [if_pos e2]; exact does2 hg hw (u8_isnt e0) (u8_isnt e1) (u8_is e2) hx hE
      · rw [if_neg e2]
        by_cases e3 : x.do_ = 3
        · rw [if_pos e3]; exact does3 hg hw (u8_isnt e0) (u8_isnt e1) (u8_isnt e2) (u8_is e3) hx hE
        · rw [if_neg e3]
          by_cases e4 : x.do_ = 4
          · rw [if_pos e4]; exact does4 hg hw (u8_isnt e0) (u8_isnt e1) (u8_isnt e2) (u8_isnt e3) (u8_is e4) hx hE
          · rw [if_neg e4]; exact does5 hg hw (u8_isnt e0) (u8_isnt e1) (u8_isnt e2) (u8_isnt e3) (u8_isnt e4) hx hE

theorem DS.good.does {s : DS} (h : s.good) (x : DAct) (hx : x.good) : (s.does x).good := by
  unfold DS.does
  split
  · exact h.flushS
  · split
    · exact h.fuseS _ hx.2 _
    · split
      · exact h.crashS _
      · split
        · exact h.startS
        · split
          · exact h
          · exact h.writeS _ _

theorem on_does (s : DS) (x : DAct) : (s.does x).on.length = s.on.length ∧ (s.does x).wait.length ≤ s.wait.length + 1 := by
  have hgo : ∀ k, (s.goes k).on.length = s.on.length ∧ (s.goes k).wait.length ≤ s.wait.length + 1 := fun k => ⟨goesFrom_length _ _ _ _, by simp [DS.goes]⟩
  unfold DS.does
  split
  · unfold DS.flushS
    split
    · exact ⟨rfl, by omega⟩
    · split
      · exact hgo _
      · exact ⟨flushOn_length _ _, by simp⟩
  · split
    · unfold DS.fuseS
      split <;> exact ⟨rfl, by simp⟩
    · split
      · unfold DS.crashS
        split
        · exact ⟨rfl, by omega⟩
        · exact hgo _
      · split
        · exact ⟨rfl, by simp [DS.startS]⟩
        · split
          · exact ⟨rfl, by omega⟩
          · unfold DS.writeS
            split
            · exact ⟨rfl, by omega⟩
            · split
              · split
                · exact hgo _
                · exact ⟨rfl, by simp⟩
              · exact ⟨rfl, by omega⟩
theorem great4_is {b : Bool} {w : World} {xs : List DAct} {ao : Option Addr} {c : Nat} (hg : great4V xs = b) (hr : reads (.slice ao xs.length c) xs.length (actCells xs) w) :
    Calls Try.prog 30 #[.slice ao xs.length c] w (fun e w' => e = .returned (.bool b) ∧ w = w') := hg ▸ great4_any hr

theorem act5k {l : List HProp} {w : World} {xs : List DAct} {ab off n c k : Nat} {x : DAct} (hk : Knows l (reads (.slice (some ⟨ab, off, none⟩) n c) n (actCells xs))) (hlt : k < xs.length) (hx : xs[k] = x) (hE : Ent l w) :
    (fun w' : World => w'.cell? ⟨ab, off + k * 5, none⟩ = some (.int .u8 x.do_.toNat) ∧ w'.cell? ⟨ab, off + k * 5 + 1, none⟩ = some (.int .i64 x.n) ∧ w'.cell? ⟨ab, off + k * 5 + 2, none⟩ = some (.string x.keep) ∧ w'.cell? ⟨ab, off + k * 5 + 3, none⟩ = some (.int .u8 x.c.toNat) ∧ w'.cell? ⟨ab, off + k * 5 + 4, none⟩ = some (.bool x.short)) w := by
  obtain ⟨_, _, e, _, h⟩ := hk _ hE
  cases e
  subst hx
  have g : ∀ j u, (xs[k]).cells[j]? = some u → w.cell? ⟨ab, off + (k * 5 + j), none⟩ = some u := fun j u hu => by
    have := h _ rfl _ _ (act_at hlt j u hu)
    rwa [Addr.add_lit] at this
  exact ⟨g 0 _ rfl, g 1 _ rfl, g 2 _ rfl, g 3 _ rfl, g 4 _ rfl⟩
end Go.Proofs.Ytpchnmcofkffiaa
