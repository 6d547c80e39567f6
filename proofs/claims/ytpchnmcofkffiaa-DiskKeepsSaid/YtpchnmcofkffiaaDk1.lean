/-
  Plain facts of a disk of sectors, writes that wait and a fuse: what an act makes of it, and what a sector may be behind any acts.
-/
import Derived.Test.YtpchnmcofkffiaaBt
namespace Go.Proofs.Ytpchnmcofkffiaa

structure Wt where
  b : List UInt8
  at_ : Nat

structure DS where
  left : Int
  keep : ByteArray
  on : List (List UInt8)
  wait : List Wt
  dead : Bool
  acts : Int

def keepBit (keep : ByteArray) (i : Nat) : Bool := if h : i / 8 < keep.size then (keep[i / 8]'h).toNat / 2 ^ (i % 8) % 2 == 1 else false

def goesFrom (keep : ByteArray) : Nat → List Wt → List (List UInt8) → List (List UInt8)
  | _, [], on => on
  | i, w :: ws, on => goesFrom keep (i + 1) ws (if keepBit keep i then on.set w.at_ w.b else on)

def DS.goes (s : DS) (keep : ByteArray) : DS := ⟨-1, ⟨#[]⟩, goesFrom keep 0 s.wait s.on, [], true, s.acts⟩
def DS.acted (s : DS) : DS := ⟨if 0 < s.left then s.left - 1 else s.left, s.keep, s.on, s.wait, s.dead, (s.acts + 1) % 18446744073709551616⟩
def flushOn (on : List (List UInt8)) (ws : List Wt) : List (List UInt8) := ws.foldl (fun on w => on.set w.at_ w.b) on
def lastOf (ws : List Wt) (k : Nat) (d : List UInt8) : List UInt8 := ws.foldl (fun x w => if w.at_ = k then w.b else x) d
def DS.readAt (s : DS) (k : Nat) : List UInt8 := lastOf s.wait k (s.on.getD k [])

/-- the errors: 0 is none, 2 an argument, 4 no power -/
def DS.powerE (s : DS) : Int := if s.dead then 4 else 0
def DS.hasE (s : DS) (k : Int) : Int := if 0 ≤ k ∧ k < s.on.length then 0 else 2
def DS.writeE (s : DS) (k : Int) (n : Nat) : Int := if s.dead then 4 else if 0 ≤ k ∧ k < s.on.length ∧ n = 512 then (if s.left = 0 then 4 else 0) else 2
def DS.writeS (s : DS) (k : Int) (b : List UInt8) : DS :=
  if s.dead then s else if 0 ≤ k ∧ k < s.on.length ∧ b.length = 512 then (if s.left = 0 then s.goes s.keep else { s.acted with wait := s.wait ++ [⟨b, k.toNat⟩] }) else s
def DS.flushE (s : DS) : Int := if s.dead then 4 else if s.left = 0 then 4 else 0
def DS.flushS (s : DS) : DS := if s.dead then s else if s.left = 0 then s.goes s.keep else { s.acted with on := flushOn s.on s.wait, wait := [] }
def fuseE (n : Int) : Int := if 0 ≤ n then 0 else 2
def DS.fuseS (s : DS) (n : Int) (keep : ByteArray) : DS := if 0 ≤ n then { s with left := n, keep := keep } else s
def DS.crashS (s : DS) (keep : ByteArray) : DS := if s.dead then s else s.goes keep
def DS.startS (s : DS) : DS := { s with dead := false }
def DS.readE (s : DS) (k : Int) : Int := if s.dead then 4 else s.hasE k
def DS.readB (s : DS) (k : Int) : List UInt8 := if s.readE k = 0 then s.readAt k.toNat else []

structure DS.good (s : DS) : Prop where
  left : -1 ≤ s.left
  max : s.left ≤ 9223372036854775807
  on : ∀ b ∈ s.on, b.length = 512
  size : s.on.length ≤ 4096
  wait : ∀ w ∈ s.wait, w.b.length = 512 ∧ w.at_ < s.on.length
  acts : 0 ≤ s.acts ∧ s.acts < 18446744073709551616

theorem goesFrom_length (keep : ByteArray) : ∀ (ws : List Wt) (i : Nat) (on : List (List UInt8)), (goesFrom keep i ws on).length = on.length
  | [], _, _ => rfl
  | w :: ws, i, on => by
    rw [goesFrom, goesFrom_length keep ws]
    split <;> simp

theorem goesFrom_snoc (keep : ByteArray) : ∀ (ws : List Wt) (w : Wt) (i : Nat) (on : List (List UInt8)), goesFrom keep i (ws ++ [w]) on = if keepBit keep (i + ws.length) then (goesFrom keep i ws on).set w.at_ w.b else goesFrom keep i ws on
  | [], w, i, on => by simp [goesFrom]
  | v :: ws, w, i, on => by
    rw [List.cons_append, goesFrom, goesFrom_snoc keep ws w (i + 1), goesFrom, List.length_cons, show i + 1 + ws.length = i + (ws.length + 1) by omega]

theorem goesFrom_all (keep : ByteArray) (q : List UInt8 → Prop) : ∀ (ws : List Wt) (i : Nat) (on : List (List UInt8)), (∀ b ∈ on, q b) → (∀ w ∈ ws, q w.b) → ∀ b ∈ goesFrom keep i ws on, q b
  | [], _, _, h, _ => h
  | w :: ws, i, on, h, hw => by
    refine goesFrom_all keep q ws (i + 1) _ ?_ (fun v hv => hw v (by simp [hv]))
    split
    · intro b hb
      rcases List.mem_or_eq_of_mem_set hb with h1 | rfl
      · exact h b h1
      · exact hw w (by simp)
    · exact h

theorem flushOn_length (ws : List Wt) : ∀ on : List (List UInt8), (flushOn on ws).length = on.length := by
  induction ws with
  | nil => intro on; rfl
  | cons w ws ih => intro on; rw [flushOn, List.foldl_cons]; exact (ih _).trans (by simp)

theorem flushOn_snoc (ws : List Wt) (w : Wt) (on : List (List UInt8)) : flushOn on (ws ++ [w]) = (flushOn on ws).set w.at_ w.b := by simp [flushOn]

theorem flushOn_all (q : List UInt8 → Prop) (ws : List Wt) : ∀ on : List (List UInt8), (∀ b ∈ on, q b) → (∀ w ∈ ws, q w.b) → ∀ b ∈ flushOn on ws, q b := by
  induction ws with
  | nil => intro on h _; exact h
  | cons w ws ih =>
    intro on h hw
    rw [flushOn, List.foldl_cons]
    refine ih _ ?_ (fun v hv => hw v (by simp [hv]))
    intro b hb
    rcases List.mem_or_eq_of_mem_set hb with h1 | rfl
    · exact h b h1
    · exact hw w (by simp)

theorem getD_set (l : List (List UInt8)) (i k : Nat) (x : List UInt8) (hk : k < l.length) : (l.set i x).getD k [] = if i = k then x else l.getD k [] := by
  simp only [List.getD_eq_getElem?_getD, List.getElem?_set]
  split
  · subst_vars; simp [hk]
  · rfl

theorem flushOn_getD (ws : List Wt) : ∀ (on : List (List UInt8)) (k : Nat), k < on.length → (flushOn on ws).getD k [] = lastOf ws k (on.getD k []) := by
  induction ws with
  | nil => intro on k _; rfl
  | cons w ws ih =>
    intro on k hk
    rw [flushOn, List.foldl_cons, lastOf, List.foldl_cons]
    have := ih (on.set w.at_ w.b) k (by simpa using hk)
    rw [getD_set on w.at_ k w.b hk] at this
    exact this

theorem goesFrom_mem (keep : ByteArray) : ∀ (ws : List Wt) (i : Nat) (on : List (List UInt8)) (k : Nat), k < on.length →
    (goesFrom keep i ws on).getD k [] = on.getD k [] ∨ ∃ w ∈ ws, w.at_ = k ∧ (goesFrom keep i ws on).getD k [] = w.b
  | [], _, _, _, _ => .inl rfl
  | w :: ws, i, on, k, hk => by
    rw [goesFrom]
    by_cases hb : keepBit keep i = true
    · rw [if_pos hb]
      rcases goesFrom_mem keep ws (i + 1) (on.set w.at_ w.b) k (by simpa using hk) with h | ⟨v, h1, h2, h3⟩
      · rw [getD_set on w.at_ k w.b hk] at h
        split at h
        · exact .inr ⟨w, by simp, by assumption, h⟩
        · exact .inl h
      · exact .inr ⟨v, by simp [h1], h2, h3⟩
    · rw [if_neg hb]
      rcases goesFrom_mem keep ws (i + 1) on k hk with h | ⟨v, h1, h2, h3⟩
      · exact .inl h
      · exact .inr ⟨v, by simp [h1], h2, h3⟩

theorem lastOf_snoc (ws : List Wt) (w : Wt) (k : Nat) (d : List UInt8) : lastOf (ws ++ [w]) k d = if w.at_ = k then w.b else lastOf ws k d := by simp [lastOf]

theorem DS.good.goes {s : DS} (h : s.good) (keep : ByteArray) : (s.goes keep).good :=
  ⟨by simp [DS.goes], by simp [DS.goes], goesFrom_all keep _ _ _ _ h.on (fun w hw => (h.wait w hw).1), by simp only [DS.goes, goesFrom_length]; exact h.size, by simp [DS.goes], h.acts⟩

theorem DS.good.acted {s : DS} (h : s.good) : s.acted.good := by
  have h1 := h.left
  have h2 := h.max
  refine ⟨?_, ?_, h.on, h.size, h.wait, ?_⟩
  · show -1 ≤ (if 0 < s.left then s.left - 1 else s.left)
    split <;> omega
  · show (if 0 < s.left then s.left - 1 else s.left) ≤ _
    split <;> omega
  · exact ⟨Int.emod_nonneg _ (by omega), Int.emod_lt_of_pos _ (by omega)⟩

theorem DS.good.writeS {s : DS} (h : s.good) (k : Int) (b : List UInt8) : (s.writeS k b).good := by
  unfold DS.writeS
  split
  · exact h
  · split
    · rename_i _ hc
      split
      · exact h.goes _
      · have ha := h.acted
        refine ⟨ha.left, ha.max, ha.on, ha.size, ?_, ha.acts⟩
        intro w hw
        simp only [List.mem_append, List.mem_singleton] at hw
        rcases hw with hw | rfl
        · exact ha.wait w hw
        · exact ⟨hc.2.2, by show k.toNat < s.on.length; omega⟩
    · exact h

theorem DS.good.flushS {s : DS} (h : s.good) : s.flushS.good := by
  unfold DS.flushS
  split
  · exact h
  · split
    · exact h.goes _
    · have ha := h.acted
      exact ⟨ha.left, ha.max, flushOn_all _ _ _ h.on (fun w hw => (h.wait w hw).1), by show (flushOn s.on s.wait).length ≤ _; rw [flushOn_length]; exact h.size, by simp, ha.acts⟩

theorem DS.good.fuseS {s : DS} (h : s.good) (n : Int) (hn : n ≤ 9223372036854775807) (keep : ByteArray) : (s.fuseS n keep).good := by
  unfold DS.fuseS
  split
  · exact ⟨by show -1 ≤ n; omega, hn, h.on, h.size, h.wait, h.acts⟩
  · exact h

theorem DS.good.crashS {s : DS} (h : s.good) (keep : ByteArray) : (s.crashS keep).good := by
  unfold DS.crashS
  split
  · exact h
  · exact h.goes _

theorem DS.good.startS {s : DS} (h : s.good) : s.startS.good := ⟨h.left, h.max, h.on, h.size, h.wait, h.acts⟩

def fullSec (c : UInt8) : List UInt8 := List.replicate 512 c
theorem fullSec_length (c : UInt8) : (fullSec c).length = 512 := List.length_replicate ..
attribute [irreducible] fullSec
def DS.new (n : Nat) : DS := ⟨-1, ⟨#[]⟩, List.replicate n (fullSec 0), [], false, 0⟩
theorem DS.good_new (n : Nat) (h : n ≤ 4096) : (DS.new n).good :=
  ⟨by simp [DS.new], by simp [DS.new], fun b hb => by rw [(List.mem_replicate.1 hb).2]; exact fullSec_length 0, by simpa [DS.new] using h, by simp [DS.new], by simp [DS.new]⟩

/-- what the stage's theorem keeps: what a sector may be, and what is read there -/
structure DKeeps (s : DS) (may : List (List (List UInt8))) (now : List (List UInt8)) : Prop where
  mlen : may.length = s.on.length
  nlen : now.length = s.on.length
  on : ∀ k, k < s.on.length → s.on.getD k [] ∈ may.getD k []
  wait : ∀ w ∈ s.wait, w.b ∈ may.getD w.at_ []
  now : ∀ k, k < s.on.length → now.getD k [] = s.readAt k

theorem DKeeps.new (n : Nat) : DKeeps (DS.new n) (List.replicate n [fullSec 0]) (List.replicate n (fullSec 0)) := by
  refine ⟨by simp [DS.new], by simp [DS.new], ?_, by simp [DS.new], ?_⟩
  · intro k hk
    have hk' : k < n := by simpa [DS.new] using hk
    simp [DS.new, List.getD_eq_getElem?_getD, List.getElem?_replicate, hk']
  · intro k hk
    have hk' : k < n := by simpa [DS.new] using hk
    simp [DS.new, DS.readAt, lastOf]

theorem DKeeps.acted {s : DS} {may : List (List (List UInt8))} {now : List (List UInt8)} (h : DKeeps s may now) : DKeeps s.acted may now := ⟨h.mlen, h.nlen, h.on, h.wait, h.now⟩

/-- behind the power's going: a sector is one of those that it may be -/
theorem DKeeps.gone {s : DS} {may : List (List (List UInt8))} {now : List (List UInt8)} (h : DKeeps s may now) (keep : ByteArray) (k : Nat) (hk : k < s.on.length) : (s.goes keep).on.getD k [] ∈ may.getD k [] := by
  rcases goesFrom_mem keep s.wait 0 s.on k hk with e | ⟨w, h1, h2, e⟩
  · show (goesFrom keep 0 s.wait s.on).getD k [] ∈ _
    rw [e]; exact h.on k hk
  · show (goesFrom keep 0 s.wait s.on).getD k [] ∈ _
    rw [e, ← h2]; exact h.wait w h1

theorem DKeeps.fresh {s : DS} (hw : s.wait = []) {may : List (List (List UInt8))} {now : List (List UInt8)} (hm : may.length = s.on.length) (hn : now.length = s.on.length)
    (h1 : ∀ k, k < s.on.length → s.on.getD k [] ∈ may.getD k []) (h2 : ∀ k, k < s.on.length → now.getD k [] = s.on.getD k []) : DKeeps s may now :=
  ⟨hm, hn, h1, by simp [hw], fun k hk => by rw [h2 k hk, DS.readAt, hw]; rfl⟩
end Go.Proofs.Ytpchnmcofkffiaa
