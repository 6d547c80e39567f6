/-
  Chunks as values: their height, size, bytes, whether they may be, and the chunk of bytes; what was put is taken as itself. Plain law, no program.
-/
import Derived.Test.YtohdljcpaogokaaSt1
namespace Go.Proofs.Ytohdljcpaogokaa
open Go.RowKit Go.SL

structure Kid where
  name : List UInt8
  dir : Bool
  hash : List UInt8
  height : UInt8
  size : Nat

structure Chunk where
  kind : UInt8
  data : List UInt8
  kids : List Kid

def Kid.good (k : Kid) : Prop := k.hash.length = 32 ∧ k.size < 4294967296
def Chunk.good (c : Chunk) : Prop := ∀ k ∈ c.kids, k.good

def hgt1 (ks : List Kid) : Nat := ks.foldl (fun n k => max n (k.height.toNat + 1)) 1
def isTree (u : UInt8) : Bool := u == 2 || u == 3
def hgt (c : Chunk) : Nat := if isTree c.kind then hgt1 c.kids else 0
def sum1 (ks : List Kid) : Nat := (ks.map Kid.size).sum
def csize (c : Chunk) : Nat := if c.kind == 2 then sum1 c.kids else if c.kind == 3 then 0 else c.data.length

/-- is a text behind another one? (as the model tells it) -/
def geS (a b : List UInt8) : Bool := !Op.bytesLess a b

def plainK (k : Kid) : Bool := k.name.isEmpty && !k.dir
def dirOk (ks : List Kid) (i : Nat) : Bool :=
  match ks[i]? with
  | none => true
  | some k => !k.name.isEmpty && decide (k.name.length ≤ 16) && (decide (i = 0) || match ks[i - 1]? with | none => true | some j => !geS j.name k.name)
def mayC (c : Chunk) : Bool :=
  decide (hgt c ≤ 255) && decide (c.kids.length ≤ 6) &&
  (if c.kind == 1 then c.kids.isEmpty && decide (c.data.length ≤ 240)
   else if c.kind == 2 then c.kids.all plainK && !c.kids.isEmpty && c.data.isEmpty && decide (csize c < 4294967296)
   else if c.kind == 3 then (List.range c.kids.length).all (dirOk c.kids) && c.data.isEmpty
   else false)

def kidB (d : Bool) (k : Kid) : List UInt8 :=
  (if d then (if k.dir then 1 else 0) :: UInt8.ofNat k.name.length :: k.name else []) ++ (k.hash ++ ([k.height] ++ be 4 k.size))
def kidsB (d : Bool) (ks : List Kid) : List UInt8 := ks.flatMap (kidB d)
def putC (c : Chunk) : List UInt8 := c.kind :: (if c.kind == 1 then c.data else UInt8.ofNat c.kids.length :: kidsB (c.kind == 3) c.kids)

def pkid (d : Bool) (s : St) : Kid × St :=
  let s1 := if d then nm (tk 1 s) else s
  let s2 := tx 32 s1
  let s3 := tk 1 s2
  (⟨if d then nmV (tk 1 s) else [], d && (tkV 1 s == 1), hxV s1, UInt8.ofNat (tkV 1 s2), tkV 4 s3 % 4294967296⟩, tk 4 s3)
def pkids (d : Bool) : Nat → St → List Kid × St
  | 0, s => ([], s)
  | n + 1, s => ((pkids d n s).1 ++ [(pkid d (pkids d n s).2).1], (pkid d (pkids d n s).2).2)
def pchunk (b : List UInt8) : Chunk × St :=
  let s1 := tk 1 ⟨b, 0⟩
  let u := UInt8.ofNat (tkV 1 ⟨b, 0⟩)
  if u == 1 then (⟨u, txV s1.bs.length s1, []⟩, tx s1.bs.length s1)
  else (⟨u, [], (pkids (u == 3) (tkV 1 s1) (tk 1 s1)).1⟩, (pkids (u == 3) (tkV 1 s1) (tk 1 s1)).2)
def takeC (b : List UInt8) : Option Chunk := if mayC (pchunk b).1 && (putC (pchunk b).1 == b) then some (pchunk b).1 else none

theorem pkid_len (d : Bool) (s : St) : (pkid d s).2.bs.length ≤ s.bs.length := by
  unfold pkid
  simp only
  refine Nat.le_trans (tk_len _ _) (Nat.le_trans (tk_len _ _) (Nat.le_trans (tx_len _ _) ?_))
  split
  · exact Nat.le_trans (nm_len _) (tk_len _ _)
  · exact Nat.le_refl _
theorem pkids_len (d : Bool) (s : St) : ∀ n, (pkids d n s).2.bs.length ≤ s.bs.length
  | 0 => Nat.le_refl _
  | n + 1 => Nat.le_trans (pkid_len d _) (pkids_len d s n)
theorem pkids_count (d : Bool) (s : St) : ∀ n, (pkids d n s).1.length = n
  | 0 => rfl
  | n + 1 => by simp [pkids, pkids_count d s n]
theorem pkid_good (d : Bool) (s : St) : (pkid d s).1.good := ⟨hxV_len _, Nat.mod_lt _ (by omega)⟩
theorem pkids_good (d : Bool) (s : St) : ∀ n, ∀ k ∈ (pkids d n s).1, k.good
  | 0 => by simp [pkids]
  | n + 1 => by
    intro k hk
    simp only [pkids, List.mem_append, List.mem_singleton] at hk
    rcases hk with hk | rfl
    · exact pkids_good d s n k hk
    · exact pkid_good _ _
theorem pchunk_good (b : List UInt8) : (pchunk b).1.good := by
  unfold pchunk
  simp only
  split
  · intro k hk; simp at hk
  · exact pkids_good _ _ _

theorem pkid_put (d : Bool) (k : Kid) (hk : k.good) (hn : k.name.length < 256) (hd : d = true ∨ plainK k = true) (r : List UInt8) : pkid d ⟨kidB d k ++ r, 0⟩ = (k, ⟨r, 0⟩) := by
  obtain ⟨name, dir, hash, height, size⟩ := k
  obtain ⟨h32, hsz⟩ := hk
  simp only at h32 hsz hn
  have h1 := hx_app hash ([height] ++ be 4 size ++ r) h32
  have h2 := tk1_app height.toNat (be 4 size ++ r) height.toNat_lt
  have h3 := tk4_app size r hsz
  rw [be_one'] at h2
  simp only [List.append_assoc] at h1 h2 h3
  cases d with
  | true =>
    have h4 := tk1_app (if dir then 1 else 0) (UInt8.ofNat name.length :: name ++ (hash ++ ([height] ++ be 4 size ++ r))) (by split <;> omega)
    have h5 := nm_app name (hash ++ ([height] ++ be 4 size ++ r)) hn
    have e : be 1 (if dir then 1 else 0) = [if dir then 1 else 0] := by cases dir <;> rfl
    rw [e] at h4
    simp only [List.append_assoc, List.cons_append, List.nil_append] at h1 h2 h3 h4 h5
    simp only [pkid, kidB, if_true, List.append_assoc, List.cons_append, List.nil_append, h4.1, h4.2, h5.1, h5.2, h1.1, h1.2, h2.1, h2.2, h3.1, h3.2, Nat.mod_eq_of_lt hsz]
    cases dir <;> simp
  | false =>
    have hp : plainK ⟨name, dir, hash, height, size⟩ = true := by simpa using hd
    simp only [plainK, Bool.and_eq_true, List.isEmpty_iff, Bool.not_eq_true'] at hp
    obtain ⟨rfl, rfl⟩ := hp
    simp only [List.cons_append, List.nil_append] at h1 h2 h3
    simp only [pkid, kidB, Bool.false_eq_true, if_false, List.append_assoc, List.cons_append, List.nil_append, h1.1, h1.2, h2.1, h2.2, h3.1, h3.2, Nat.mod_eq_of_lt hsz]
    simp

theorem pkids_put (d : Bool) (ks : List Kid) (hg : ∀ k ∈ ks, k.good ∧ k.name.length < 256 ∧ (d = true ∨ plainK k = true)) (r : List UInt8) : pkids d ks.length ⟨kidsB d ks ++ r, 0⟩ = (ks, ⟨r, 0⟩) := by
  have main : ∀ n, n ≤ ks.length → pkids d n ⟨kidsB d ks ++ r, 0⟩ = (ks.take n, ⟨kidsB d (ks.drop n) ++ r, 0⟩) := by
    intro n
    induction n with
    | zero => intro _; simp [pkids]
    | succ n ih =>
      intro hn
      rw [pkids, ih (by omega)]
      have hlt : n < ks.length := hn
      obtain ⟨g1, g2, g3⟩ := hg ks[n] (List.getElem_mem hlt)
      have e : kidsB d (ks.drop n) ++ r = kidB d ks[n] ++ (kidsB d (ks.drop (n + 1)) ++ r) := by
        unfold kidsB
        conv => lhs; rw [List.drop_eq_getElem_cons hlt, List.flatMap_cons]
        rw [List.append_assoc]
      simp only [e, pkid_put d ks[n] g1 g2 g3]
      rw [List.take_succ_eq_append_getElem hlt]
  have h := main ks.length (Nat.le_refl _)
  rw [List.take_length, List.drop_length] at h
  exact h

theorem mayC_dir {c : Chunk} (h : mayC c = true) (h3 : (c.kind == 3) = true) : ∀ k ∈ c.kids, k.name.length ≤ 16 := by
  intro k hk
  have e3 : c.kind = 3 := by simpa using h3
  obtain ⟨i, hi, rfl⟩ := List.getElem_of_mem hk
  simp only [mayC, e3, Bool.and_eq_true] at h
  have h2 := h.2
  simp only [show ((3 : UInt8) == 1) = false from rfl, show ((3 : UInt8) == 2) = false from rfl, show ((3 : UInt8) == 3) = true from rfl, Bool.false_eq_true, if_false, if_true, Bool.and_eq_true, List.all_eq_true, List.mem_range] at h2
  have h4 := h2.1 i hi
  simp only [dirOk, List.getElem?_eq_getElem hi, Bool.and_eq_true, decide_eq_true_eq] at h4
  exact h4.1.2

/-- what was put is taken as itself -/
theorem pchunk_put {c : Chunk} (hg : c.good) (h : mayC c = true) : pchunk (putC c) = (c, ⟨[], 0⟩) := by
  obtain ⟨kind, data, kids⟩ := c
  have hk6 : kids.length ≤ 6 := by
    simp only [mayC, Bool.and_eq_true, decide_eq_true_eq] at h
    exact h.1.2
  have h1 : ∀ r, tk 1 ⟨kind :: r, 0⟩ = ⟨r, 0⟩ ∧ tkV 1 ⟨kind :: r, 0⟩ = kind.toNat := fun r => by
    have := tk1_app kind.toNat r kind.toNat_lt
    rwa [be_one'] at this
  have e0 : UInt8.ofNat kind.toNat = kind := by simp
  cases hk1 : kind == 1 with
  | true =>
    have he : kids = [] := by
      have e1 : kind = 1 := by simpa using hk1
      subst e1
      simp only [mayC, Bool.and_eq_true] at h
      have h2 := h.2
      simp only [show ((1 : UInt8) == 1) = true from rfl, if_true, Bool.and_eq_true, List.isEmpty_iff] at h2
      exact h2.1
    subst he
    have ht := tx_app data []
    rw [List.append_nil] at ht
    simp only [putC, hk1, if_true, pchunk, h1, e0, ht.1, ht.2]
  | false =>
    have hp : ∀ k ∈ kids, k.good ∧ k.name.length < 256 ∧ ((kind == 3) = true ∨ plainK k = true) := by
      intro k hk
      cases h3 : kind == 3 with
      | true =>
        have := mayC_dir h h3 k hk
        exact ⟨hg k hk, by omega, .inl rfl⟩
      | false =>
        simp only [mayC, hk1, h3, Bool.and_eq_true, Bool.false_eq_true, if_false] at h
        have h2 := h.2
        split at h2
        · simp only [Bool.and_eq_true, List.all_eq_true] at h2
          have hpl := h2.1.1.1 k hk
          have hn : k.name = [] := by
            simp only [plainK, Bool.and_eq_true, List.isEmpty_iff] at hpl
            exact hpl.1
          exact ⟨hg k hk, by rw [hn]; simp, .inr hpl⟩
        · cases h2
    have hn := tk1_app kids.length (kidsB (kind == 3) kids) (by omega)
    rw [be_one] at hn
    have hks := pkids_put (kind == 3) kids hp []
    rw [List.append_nil] at hks
    have hd : data = [] := by
      simp only [mayC, hk1, Bool.and_eq_true, Bool.false_eq_true, if_false] at h
      have h2 := h.2
      split at h2
      · simp only [Bool.and_eq_true, List.isEmpty_iff] at h2
        exact h2.1.2
      · split at h2
        · simp only [Bool.and_eq_true, List.isEmpty_iff] at h2
          exact h2.2
        · cases h2
    subst hd
    have hn1 : tk 1 ⟨UInt8.ofNat kids.length :: kidsB (kind == 3) kids, 0⟩ = ⟨kidsB (kind == 3) kids, 0⟩ := hn.1
    have hn2 : tkV 1 ⟨UInt8.ofNat kids.length :: kidsB (kind == 3) kids, 0⟩ = kids.length := hn.2
    simp only [putC, hk1, Bool.false_eq_true, if_false, pchunk, h1, e0, hn1, hn2, hks]

theorem takeC_put {c : Chunk} (hg : c.good) (h : mayC c = true) : takeC (putC c) = some c := by
  unfold takeC
  rw [pchunk_put hg h]
  simp [h]
theorem takeC_some {b : List UInt8} {c : Chunk} (h : takeC b = some c) : mayC c = true ∧ putC c = b ∧ c = (pchunk b).1 ∧ (pchunk b).2 = ⟨[], 0⟩ := by
  unfold takeC at h
  split at h
  · rename_i h1
    simp only [Option.some.injEq] at h
    subst h
    simp only [Bool.and_eq_true, beq_iff_eq] at h1
    refine ⟨h1.1, h1.2, rfl, ?_⟩
    have := pchunk_put (pchunk_good b) h1.1
    rw [h1.2] at this
    exact congrArg Prod.snd this
  · cases h
theorem putC_inj {c d : Chunk} (hc : c.good) (hd : d.good) (h1 : mayC c = true) (h2 : mayC d = true) (h : putC c = putC d) : c = d := by
  have e1 := pchunk_put hc h1
  rw [h, pchunk_put hd h2] at e1
  exact (congrArg Prod.fst e1).symm
theorem foldl_max_ge (ks : List Kid) : ∀ a, a ≤ ks.foldl (fun n k => max n (k.height.toNat + 1)) a ∧ ∀ k ∈ ks, k.height.toNat + 1 ≤ ks.foldl (fun n k => max n (k.height.toNat + 1)) a := by
  induction ks with
  | nil => intro a; simp
  | cons k ks ih =>
    intro a
    have h := ih (max a (k.height.toNat + 1))
    simp only [List.foldl_cons, List.mem_cons, forall_eq_or_imp]
    exact ⟨by omega, by omega, h.2⟩
theorem hgt_above {c : Chunk} (h : mayC c = true) : ∀ k ∈ c.kids, k.height.toNat < hgt c := by
  intro k hk
  have ht : isTree c.kind = true := by
    simp only [mayC, Bool.and_eq_true] at h
    have h2 := h.2
    split at h2
    · simp only [Bool.and_eq_true, List.isEmpty_iff] at h2
      rw [h2.1] at hk
      simp at hk
    · split at h2
      · rename_i h3
        simp [isTree, h3]
      · split at h2
        · rename_i h3
          simp [isTree, h3]
        · cases h2
  have := (foldl_max_ge c.kids 1).2 k hk
  simp only [hgt, ht, if_true, hgt1]
  omega
theorem kidB_len (d : Bool) (k : Kid) (hg : k.good) : (kidB d k).length ≤ k.name.length + 39 := by
  have := be_length 4 k.size
  obtain ⟨h32, _⟩ := hg
  unfold kidB
  cases d <;> simp [h32, this] <;> omega
theorem kidsB_len (d : Bool) (m : Nat) (ks : List Kid) (hg : ∀ k ∈ ks, k.good) (hn : ∀ k ∈ ks, d = true → k.name.length ≤ m) : (kidsB d ks).length ≤ ks.length * (m + 39) := by
  induction ks with
  | nil => simp [kidsB]
  | cons k ks ih =>
    have h1 := ih (fun k hk => hg k (by simp [hk])) (fun k hk => hn k (by simp [hk]))
    have h2 : (kidB d k).length ≤ m + 39 := by
      have hb := be_length 4 k.size
      have h32 := (hg k (by simp)).1
      unfold kidB
      cases d with
      | true =>
        have := hn k (by simp) rfl
        simp [h32, hb]; omega
      | false => simp [h32, hb]
    simp only [kidsB, List.flatMap_cons, List.length_append, List.length_cons] at h1 ⊢
    rw [Nat.succ_mul]
    omega
theorem putC_len {c : Chunk} (hg : c.good) (h : mayC c = true) : (putC c).length ≤ 340 := by
  have h0 := h
  simp only [mayC, Bool.and_eq_true, decide_eq_true_eq] at h0
  unfold putC
  split
  · rename_i h1
    have h2 := h0.2
    rw [if_pos h1] at h2
    simp only [Bool.and_eq_true, decide_eq_true_eq] at h2
    simp only [List.length_cons]
    omega
  · have := kidsB_len (c.kind == 3) 16 c.kids hg (fun k hk h3 => mayC_dir h h3 k hk)
    simp only [List.length_cons]
    have := h0.1.2
    omega
end Go.Proofs.Ytohdljcpaogokaa
