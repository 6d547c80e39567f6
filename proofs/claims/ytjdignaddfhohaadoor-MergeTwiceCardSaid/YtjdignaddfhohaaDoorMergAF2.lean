/-
  A tree and its entries, plain: the document's error of one more entry is the tree's.
-/
import Derived.Test.YtjdignaddfhohaaDoorMergAF1
import Derived.OrdersHeld
import Derived.KernelRfl
import Derived.Deep.RegionHeld
import Derived.Shelf.Lay
import Derived.Lib.Strings
import Derived.Lib.Walk
import Derived.Lib.Bytealg
namespace Go.Proofs.YtjdignaddfhohaaDoor
open Go.RowKit Go.SL

theorem get_append : ∀ (q r : List (List UInt8)) (t : Tr), Tr.get? (q ++ r) t = (Tr.get? q t).bind (Tr.get? r)
  | [], r, t => rfl
  | n :: q, r, t => by
    show Tr.get? (n :: (q ++ r)) t = _
    rw [Tr.get?, Tr.get?]
    cases t.kid? n with
    | none => rfl
    | some k => exact get_append q r k
theorem get_snoc {q : List (List UInt8)} {n : List UInt8} {t p : Tr} (h : Tr.get? q t = some p) : Tr.get? (q ++ [n]) t = p.kid? n := by
  rw [get_append, h]
  show Tr.get? [n] p = _
  rw [Tr.get?]
  cases p.kid? n <;> rfl
theorem look_isSome {q : List (List UInt8)} {t : Tr} : (Tr.look? q t).isSome = (Tr.get? q t).isSome := by
  rw [Tr.look?, Option.isSome_map]
theorem wf_get : ∀ {q : List (List UInt8)} {t p : Tr} {d : Nat}, Tr.Wf d t → Tr.get? q t = some p → ∃ e, Tr.Wf e p
  | [], t, p, d, hw, h => by cases h; exact ⟨d, hw⟩
  | n :: q, t, p, d, hw, h => by
    rw [Tr.get?] at h
    cases hk : t.kid? n with
    | none => rw [hk] at h; cases h
    | some k =>
      rw [hk] at h
      obtain ⟨e, _, he⟩ := Tr.wf_kid hw (Tr.kid_mem hk)
      exact wf_get he h
theorem joinP_inj {a b : List (List UInt8)} (ha : a.all isName = true) (hb : b.all isName = true) (la : a.length ≤ 6) (lb : b.length ≤ 6) (h : joinP a = joinP b) : a = b := by
  by_cases h1 : a = []
  · subst h1
    by_cases h2 : b = []
    · exact h2.symm
    · exact absurd h.symm (joinP_ne h2 hb)
  · by_cases h2 : b = []
    · subst h2; exact absurd h (joinP_ne h1 ha)
    · have e1 := (join_split h1 ha la).1
      rw [h, (join_split h2 hb lb).1] at e1
      exact e1.symm
theorem snoc_of_ne {α : Type} {l : List α} (h : l ≠ []) : ∃ q n, l = q ++ [n] := ⟨l.dropLast, l.getLast h, (List.dropLast_concat_getLast h).symm⟩
/-- the entries of what is right in a directory -/
def kidsD (L : List En) (p : List UInt8) : List En := L.filter fun x => parP x.path == p
def Tr.isIn' (p : Tr) (n : List UInt8) : Bool := isIn p.names n
theorem kids_names {t p : Tr} {L : List En} {d : Nat} {q : List (List UInt8)} (hR : Rel t L) (hw : Tr.Wf d t) (hq : q.all isName = true) (lq : q.length ≤ 6) (hg : Tr.get? q t = some p) (n : List UInt8) :
    n ∈ p.names ↔ ∃ x ∈ L, splitL x.path = q ++ [n] := by
  obtain ⟨_, _, r3⟩ := hR
  obtain ⟨e, he⟩ := wf_get hw hg
  have h1 : n ∈ p.names ↔ Tr.isIn' p n = true := by rw [Tr.isIn', isIn, List.contains_iff_mem]
  have h2 : (Tr.look? (q ++ [n]) t).isSome = isIn p.names n := by
    rw [look_isSome, get_snoc hg]
    cases hk : p.kid? n with
    | none => rw [Tr.kid_none.1 hk]; rfl
    | some k =>
      cases hi : isIn p.names n with
      | true => rfl
      | false => rw [Tr.kid_none.2 hi] at hk; cases hk
  rw [h1, Tr.isIn', ← h2]
  constructor
  · intro h
    obtain ⟨⟨a, b⟩, hab⟩ := Option.isSome_iff_exists.1 h
    obtain ⟨x, hx, e1, _⟩ := (r3 _ (by simp) a b).1 hab
    exact ⟨x, hx, e1⟩
  · rintro ⟨x, hx, e1⟩
    rw [(r3 (q ++ [n]) (by simp) x.dir x.data).2 ⟨x, hx, e1, rfl, rfl⟩]; rfl
end Go.Proofs.YtjdignaddfhohaaDoor
namespace Go.Proofs.YtjdignaddfhohaaDoor
open Go.RowKit Go.SL

/-- entries whose directory it is, by their names -/
theorem kidsD_iff {L : List En} (h : ∀ x ∈ L, splitE x.path = 0 ∧ x.path ≠ []) {q : List (List UInt8)} (hq : q.all isName = true) (lq : q.length ≤ 6) {x : En} (hx : x ∈ L) :
    parP x.path = joinP q ↔ ∃ n, splitL x.path = q ++ [n] := by
  obtain ⟨h1, h2⟩ := h x hx
  obtain ⟨a, b, c, e⟩ := split_names h1
  obtain ⟨r, n, hr⟩ := snoc_of_ne (fun h3 => h2 (e.1 h3) : splitL x.path ≠ [])
  rw [hr] at a b c ⊢
  rw [List.all_append, Bool.and_eq_true] at a
  have hn : isName n = true := by simpa using a.2
  rw [← c, parP_join hn]
  constructor
  · intro h3
    exact ⟨n, by rw [joinP_inj a.1 hq (by simp at b; omega) lq h3]⟩
  · rintro ⟨m, hm⟩
    have := congrArg List.dropLast hm
    rw [List.dropLast_concat, List.dropLast_concat] at this
    rw [this]
theorem nodup_rising {ks : List (List UInt8)} (h : Rising ks) : ks.Nodup := by
  refine List.pairwise_iff_getElem.2 fun i j hi hj hij e => ?_
  have := Tr.rising_inj h hi hj e
  omega
theorem kids_count {t p : Tr} {L : List En} {d : Nat} {q : List (List UInt8)} (hR : Rel t L) (hw : Tr.Wf d t) (hq : q.all isName = true) (lq : q.length ≤ 6) (hg : Tr.get? q t = some p) :
    (kidsD L (joinP q)).length = p.kids.length := by
  have hk := kids_names hR hw hq lq hg
  obtain ⟨r1, r2, _⟩ := hR
  obtain ⟨e, he⟩ := wf_get hw hg
  have n1 : ((kidsD L (joinP q)).map fun x => splitL x.path).Nodup := by
    have e1 : (kidsD L (joinP q)).map En.path = ((kidsD L (joinP q)).map fun x => splitL x.path).map joinP := by
      rw [List.map_map]
      apply List.map_congr_left
      intro x hx
      have hx2 := (List.mem_filter.1 hx).1
      exact ((split_names (r1 x hx2).1).2.2.1).symm
    have n2 : ((kidsD L (joinP q)).map En.path).Nodup := r2.sublist (List.Sublist.map _ List.filter_sublist)
    rw [e1] at n2
    exact (List.pairwise_map.1 n2).imp fun h e => h (by rw [e])
  have n2 : (p.names.map fun n => q ++ [n]).Nodup := by
    exact List.pairwise_map.2 ((nodup_rising (Tr.wf_rising he)).imp fun h e => h (by simpa using e))
  have hp : ((kidsD L (joinP q)).map fun x => splitL x.path).Perm (p.names.map fun n => q ++ [n]) := by
    refine (List.perm_ext_iff_of_nodup n1 n2).2 fun s => ?_
    rw [List.mem_map, List.mem_map]
    constructor
    · rintro ⟨x, hx, rfl⟩
      obtain ⟨hx1, hx2⟩ := List.mem_filter.1 hx
      obtain ⟨n, hn⟩ := (kidsD_iff r1 hq lq hx1).1 (beq_iff_eq.1 hx2)
      exact ⟨n, (hk n).2 ⟨x, hx1, hn⟩, hn.symm⟩
    · rintro ⟨n, hn, rfl⟩
      obtain ⟨x, hx, e1⟩ := (hk n).1 hn
      exact ⟨x, List.mem_filter.2 ⟨hx, beq_iff_eq.2 ((kidsD_iff r1 hq lq hx).2 ⟨n, e1⟩)⟩, e1⟩
  have := hp.length_eq
  rw [List.length_map, List.length_map, Tr.names, List.length_map] at this
  exact this

/-- is there an entry of a path? -/
def hasD (L : List En) (p : List UInt8) : Bool := L.any fun x => x.path == p
/-- is there a directory of a path? -/
def dirD (L : List En) (p : List UInt8) : Bool := p == [] || L.any fun x => x.path == p && x.dir
/-- the document's error of one more entry -/
def addE (L : List En) (x : En) : Int :=
  if splitE x.path ≠ 0 then splitE x.path
  else if x.path = [] ∨ (x.dir = true ∧ x.data ≠ []) ∨ hasD L x.path = true ∨ dirD L (parP x.path) = false then 8
  else if 8192 < x.data.length ∨ 6 ≤ (kidsD L (parP x.path)).length then 6 else 0
/-- the program's -/
def addT (t : Tr) (x : En) : Int × Tr :=
  if splitE x.path ≠ 0 then (splitE x.path, .zero)
  else if x.dir = true ∧ x.data ≠ [] then (8, .zero)
  else Tr.withT (splitL x.path) x.dir x.data t
theorem hasD_iff {t : Tr} {L : List En} (hR : Rel t L) {p : List UInt8} (hp : splitE p = 0) (h0 : p ≠ []) : hasD L p = (Tr.get? (splitL p) t).isSome := by
  obtain ⟨r1, _, r3⟩ := hR
  obtain ⟨_, _, c, e⟩ := split_names hp
  rw [← look_isSome, hasD, Bool.eq_iff_iff, List.any_eq_true, Option.isSome_iff_exists]
  constructor
  · rintro ⟨x, hx, hxp⟩
    exact ⟨_, (r3 _ (fun h => h0 (e.1 h)) x.dir x.data).2 ⟨x, hx, by rw [beq_iff_eq.1 hxp], rfl, rfl⟩⟩
  · rintro ⟨⟨a, b⟩, hab⟩
    obtain ⟨x, hx, e1, _⟩ := (r3 _ (fun h => h0 (e.1 h)) a b).1 hab
    refine ⟨x, hx, beq_iff_eq.2 ?_⟩
    rw [← (split_names (r1 x hx).1).2.2.1, e1, c]
theorem dirD_iff {t : Tr} {L : List En} (hR : Rel t L) (ht : t.dir = true) {q : List (List UInt8)} (hq : q.all isName = true) (lq : q.length ≤ 6) : dirD L (joinP q) = match Tr.get? q t with
    | none => false
    | some p => p.dir := by
  obtain ⟨r1, _, r3⟩ := hR
  by_cases h0 : q = []
  · subst h0
    show (([] : List UInt8) == [] || _) = t.dir
    rw [ht]; rfl
  · have hj : (joinP q == []) = false := by rw [beq_eq_false_iff_ne]; exact joinP_ne h0 hq
    have key : (L.any fun x => x.path == joinP q && x.dir) = true ↔ ∃ b, Tr.look? q t = some (true, b) := by
      rw [List.any_eq_true]
      constructor
      · rintro ⟨x, hx, hxp⟩
        rw [Bool.and_eq_true, beq_iff_eq] at hxp
        refine ⟨x.data, (r3 q h0 true x.data).2 ⟨x, hx, ?_, hxp.2, rfl⟩⟩
        rw [hxp.1, (join_split h0 hq lq).1]
      · rintro ⟨b, hb⟩
        obtain ⟨x, hx, e1, e2, _⟩ := (r3 q h0 true b).1 hb
        refine ⟨x, hx, ?_⟩
        rw [Bool.and_eq_true, beq_iff_eq]
        exact ⟨by rw [← (split_names (r1 x hx).1).2.2.1, e1], e2⟩
    rw [dirD, hj, Bool.false_or, Bool.eq_iff_iff, key, Tr.look?]
    cases hg : Tr.get? q t with
    | none => simp
    | some p => simp
/-- both tell the same error -/
theorem add_err {t : Tr} {L : List En} {x : En} {d : Nat} (hR : Rel t L) (hw : Tr.Wf d t) (ht : t.dir = true) : (addT t x).1 = addE L x := by
  rw [addT, addE]
  by_cases h1 : splitE x.path ≠ 0
  · rw [if_pos h1, if_pos h1]
  · rw [if_neg h1, if_neg h1]
    have hs : splitE x.path = 0 := by simpa using h1
    obtain ⟨a, b, c, e⟩ := split_names hs
    by_cases h2 : x.dir = true ∧ x.data ≠ []
    · rw [if_pos h2, if_pos (.inr (.inl h2))]
    · rw [if_neg h2]
      by_cases h3 : x.path = []
      · rw [if_pos (.inl h3), e.2 h3]; rfl
      · obtain ⟨r, n, hr⟩ := snoc_of_ne (fun h4 => h3 (e.1 h4) : splitL x.path ≠ [])
        have hh := hasD_iff hR hs h3
        rw [hr] at a b c hh ⊢
        rw [List.all_append, Bool.and_eq_true] at a
        have hn : isName n = true := by simpa using a.2
        have lr : r.length ≤ 6 := by simp at b; omega
        have hpar : parP x.path = joinP r := by rw [← c, parP_join hn]
        have hd := dirD_iff hR ht a.1 lr
        rw [Tr.with_err hw, hpar, hh, hd]
        cases hg : Tr.get? r t with
        | none => simp [Tr.errAt]
        | some p =>
          have hc := kids_count hR hw a.1 lr hg
          have hi : (Tr.get? (r ++ [n]) t).isSome = isIn p.names n := by
            rw [get_snoc hg]
            cases hk : p.kid? n with
            | none => rw [Tr.kid_none.1 hk]; rfl
            | some k =>
              cases hi : isIn p.names n with
              | true => rfl
              | false => rw [Tr.kid_none.2 hi] at hk; cases hk
          rw [hi, hc]
          simp only [h3, h2, false_or, Tr.errAt]
          cases p.dir with
          | false => simp
          | true =>
            cases isIn p.names n with
            | true => simp
            | false =>
              simp only [Bool.not_false, Bool.and_self, if_true, Bool.false_eq_true, Bool.true_eq_false, or_self, if_false]
              have : (6 < p.kids.length + 1 ∨ 8192 < x.data.length) ↔ (8192 < x.data.length ∨ 6 ≤ p.kids.length) := by omega
              simp only [this]
end Go.Proofs.YtjdignaddfhohaaDoor
namespace Go.Proofs.YtjdignaddfhohaaDoor
open Go.RowKit Go.SL

theorem addT_zero {t : Tr} {x : En} (h : (addT t x).1 ≠ 0) : (addT t x).2 = .zero := by
  rw [addT] at h ⊢
  split
  · rfl
  · next h1 =>
    rw [if_neg h1] at h
    split
    · rfl
    · next h2 =>
      rw [if_neg h2] at h
      exact Tr.with_zero h
/-- what a tree of entries is like -/
def Good (t : Tr) (L : List En) : Prop := Rel t L ∧ Tr.Wf 6 t ∧ t.dir = true ∧ t.data = []
theorem good_root : Good root [] := ⟨Rel.start, root_wf 6, rfl, rfl⟩
theorem add_good {t : Tr} {L : List En} {x : En} (h : Good t L) (h0 : (addT t x).1 = 0) : Good (addT t x).2 (L ++ [x]) := by
  obtain ⟨hR, hw, hd, hb⟩ := h
  have h0' := h0
  rw [addT] at h0 ⊢
  split at h0
  · next h1 => exact absurd h0 h1
  · next h1 =>
    rw [if_neg h1]
    split at h0
    · cases h0
    · next h2 =>
      rw [if_neg h2]
      have hs : splitE x.path = 0 := by simpa using h1
      obtain ⟨a, b, c, e⟩ := split_names hs
      have hne : splitL x.path ≠ [] := fun h3 => by rw [h3] at h0; cases h0
      have hno : Tr.look? (splitL x.path) t = none := by
        obtain ⟨r, n, hr⟩ := snoc_of_ne hne
        rw [hr] at h0 ⊢
        rw [Tr.with_err hw] at h0
        cases hg : Tr.get? r t with
        | none => rw [hg] at h0; cases h0
        | some p =>
          rw [hg] at h0
          simp only [Tr.errAt] at h0
          split at h0
          · next h3 =>
            rw [Bool.and_eq_true, Bool.not_eq_true'] at h3
            rw [Tr.look?, get_snoc hg, Tr.kid_none.2 h3.2]; rfl
          · cases h0
      obtain ⟨l1, l2, _⟩ := Tr.with_look hw h0
      exact ⟨hR.add hw hs h0 hno, Tr.with_wf hw b a (fun h3 => by
        cases hx : x.data with
        | nil => rfl
        | cons y r => exact absurd ⟨h3, by rw [hx]; simp⟩ h2) h0, l1, l2⟩
def goT (t : Tr) : List En → Int × Tr
  | [] => (0, t)
  | x :: r => if (addT t x).1 = 0 then goT (addT t x).2 r else ((addT t x).1, .zero)
def goD (L : List En) : List En → Int × List En
  | [] => (0, L)
  | x :: r => if addE L x = 0 then goD (L ++ [x]) r else (addE L x, [])
def buildT (l : List En) : Int × Tr := if 64 < l.length then (6, .zero) else goT root l
def buildD (l : List En) : Int × List En := if 64 < l.length then (6, []) else goD [] l
theorem go_same : ∀ {r L : List En} {t : Tr}, Good t L → (goT t r).1 = (goD L r).1 ∧ ((goT t r).1 = 0 → Good (goT t r).2 (goD L r).2 ∧ (goD L r).2 = L ++ r)
  | [], L, t, h => ⟨rfl, fun _ => ⟨h, (List.append_nil _).symm⟩⟩
  | x :: r, L, t, h => by
    have he := add_err (x := x) h.1 h.2.1 h.2.2.1
    rw [goT, goD, ← he]
    split
    · next h0 =>
      obtain ⟨i1, i2⟩ := go_same (r := r) (add_good h h0)
      refine ⟨i1, fun h1 => ?_⟩
      obtain ⟨j1, j2⟩ := i2 h1
      exact ⟨j1, by rw [j2, List.append_assoc]; rfl⟩
    · next h0 => exact ⟨rfl, fun h1 => absurd h1 h0⟩
theorem build_same (l : List En) : (buildT l).1 = (buildD l).1 ∧ ((buildT l).1 = 0 → Good (buildT l).2 (buildD l).2 ∧ (buildD l).2 = l) := by
  rw [buildT, buildD]
  split
  · exact ⟨rfl, fun h => by cases h⟩
  · obtain ⟨h1, h2⟩ := go_same (r := l) good_root
    refine ⟨h1, fun h => ?_⟩
    obtain ⟨a, b⟩ := h2 h
    exact ⟨a, by rw [b]; rfl⟩
theorem goT_zero : ∀ {r : List En} {t : Tr}, (goT t r).1 ≠ 0 → (goT t r).2 = .zero
  | [], t, h => absurd rfl h
  | x :: r, t, h => by
    rw [goT] at h ⊢
    split
    · next h0 => rw [if_pos h0] at h; exact goT_zero h
    · rfl
theorem buildT_zero {l : List En} (h : (buildT l).1 ≠ 0) : (buildT l).2 = .zero := by
  rw [buildT] at h ⊢
  split
  · rfl
  · next h0 => rw [if_neg h0] at h; exact goT_zero h
end Go.Proofs.YtjdignaddfhohaaDoor
namespace Go.Proofs.YtjdignaddfhohaaDoor
open Go.RowKit Go.SL

/-- a kid's entry -/
def entOf (q : List (List UInt8)) (k : List UInt8 × Tr) : En := ⟨joinP (q ++ [k.1]), k.2.dir, k.2.data⟩
def sortT (q : List (List UInt8)) (p : Tr) : List En := p.kids.map (entOf q)
theorem bl_append : ∀ (s a b : List UInt8), Op.bytesLess (s ++ a) (s ++ b) = Op.bytesLess a b
  | [], _, _ => rfl
  | c :: s, a, b => by
    rw [Bool.eq_iff_iff, List.cons_append, List.cons_append, bl_cons, bl_append s a b]
    constructor
    · rintro (h | h)
      · omega
      · exact h.2
    · exact fun h => .inr ⟨rfl, h⟩
theorem bl_join (q : List (List UInt8)) (a b : List UInt8) : Op.bytesLess (joinP (q ++ [a])) (joinP (q ++ [b])) = Op.bytesLess a b := by
  by_cases h : q = []
  · subst h
    rw [List.nil_append, List.nil_append, joinP_one, joinP_one]
  · rw [joinP_end h, joinP_end h, bl_append]
    exact bl_append [47] a b
theorem sortT_rising {q : List (List UInt8)} {p : Tr} (h : Rising p.names) : Rising ((sortT q p).map En.path) := by
  intro i hi
  simp only [sortT, List.length_map] at hi
  simp only [sortT, List.getElem_map, entOf, bl_join]
  have := h i (by simpa [Tr.names] using hi)
  simpa [Tr.names] using this
theorem kidsD_nodup {L : List En} (h : (L.map En.path).Nodup) (p : List UInt8) : (kidsD L p).Nodup := by
  have h2 : ((kidsD L p).map En.path).Nodup := h.sublist (List.Sublist.map _ List.filter_sublist)
  exact (List.pairwise_map.1 h2).imp fun h e => h (by rw [e])
/-- what the document sorts -/
theorem sortT_perm {t p : Tr} {L : List En} {d : Nat} {q : List (List UInt8)} (hR : Rel t L) (hw : Tr.Wf d t) (hq : q.all isName = true) (lq : q.length ≤ 6) (hg : Tr.get? q t = some p) :
    (kidsD L (joinP q)).Perm (sortT q p) := by
  obtain ⟨r1, r2, r3⟩ := hR
  obtain ⟨e, he⟩ := wf_get hw hg
  have hr := Tr.wf_rising he
  have n2 : (sortT q p).Nodup := by
    have := nodup_rising (sortT_rising (q := q) hr)
    exact (List.pairwise_map.1 this).imp fun h e => h (by rw [e])
  refine (List.perm_ext_iff_of_nodup (kidsD_nodup r2 _) n2).2 fun y => ?_
  constructor
  · intro hy
    obtain ⟨hy1, hy2⟩ := List.mem_filter.1 hy
    obtain ⟨n, hn⟩ := (kidsD_iff r1 hq lq hy1).1 (beq_iff_eq.1 hy2)
    have hl := (r3 (q ++ [n]) (by simp) y.dir y.data).2 ⟨y, hy1, hn, rfl, rfl⟩
    rw [Tr.look?, get_snoc hg] at hl
    cases hk : p.kid? n with
    | none => rw [hk] at hl; cases hl
    | some k =>
      rw [hk] at hl
      simp only [Option.map_some, Option.some.injEq, Prod.mk.injEq] at hl
      refine List.mem_map.2 ⟨(n, k), Tr.kid_mem hk, ?_⟩
      have hp := (split_names (r1 y hy1).1).2.2.1
      rw [hn] at hp
      rw [entOf, hp, hl.1, hl.2]
  · intro hy
    obtain ⟨⟨n, k⟩, hk, rfl⟩ := List.mem_map.1 hy
    have hkk := (Tr.kid_iff hr).2 hk
    have hl : Tr.look? (q ++ [n]) t = some (k.dir, k.data) := by rw [Tr.look?, get_snoc hg, hkk]; rfl
    obtain ⟨x, hx, e1, e2, e3⟩ := (r3 _ (by simp) _ _).1 hl
    have hp := (split_names (r1 x hx).1).2.2.1
    rw [e1] at hp
    have hxe : x = entOf q (n, k) := by
      obtain ⟨xp, xd, xb⟩ := x
      simp only at e2 e3 hp
      rw [entOf, e2, e3, hp]
    rw [← hxe]
    exact List.mem_filter.2 ⟨hx, beq_iff_eq.2 ((kidsD_iff r1 hq lq hx).2 ⟨n, e1⟩)⟩
/-- all that is in a directory, so deep -/
def entT : Nat → List (List UInt8) → Tr → List En
  | 0, _, _ => []
  | d + 1, q, t => t.kids.flatMap fun k => entOf q k :: entT d (q ++ [k.1]) k.2
theorem entT_file {d : Nat} {q : List (List UInt8)} {t : Tr} (h : t.kids = []) : entT d q t = [] := by
  cases d with
  | zero => rfl
  | succ d => rw [entT, h]; rfl
/-- deeper does not tell more -/
theorem entT_deep : ∀ {d : Nat} {q : List (List UInt8)} {t : Tr}, Tr.Wf d t → entT (d + 1) q t = entT d q t
  | 0, q, t, h => by rw [entT_file h.1, entT_file h.1]
  | d + 1, q, t, h => by
    rw [entT, entT]
    have : ∀ k ∈ t.kids, (entOf q k :: entT (d + 1) (q ++ [k.1]) k.2) = entOf q k :: entT d (q ++ [k.1]) k.2 := fun k hk => by
      rw [entT_deep (h.2.2.2.2.2 k hk).2]
    rw [List.flatMap_def, List.flatMap_def, List.map_congr_left this]
end Go.Proofs.YtjdignaddfhohaaDoor
namespace Go.Proofs.YtjdignaddfhohaaDoor
open Go.RowKit Go.SL

/-- what is at names, as the program finds it (kE: what names are behind a file; nE: there is none) -/
def atT (kE nE : Int) : List (List UInt8) → Tr → Int × Tr
  | [], t => (0, t)
  | n :: r, t => if t.dir then (match t.kid? n with
    | none => (nE, .zero)
    | some k => atT kE nE r k) else (kE, .zero)
theorem atT_get {kE nE : Int} (hk : kE ≠ 0) (hn : nE ≠ 0) : ∀ {q : List (List UInt8)} {t : Tr} {d : Nat}, Tr.Wf d t → ((atT kE nE q t).1 = 0 ↔ (Tr.get? q t).isSome) ∧ (∀ p, Tr.get? q t = some p → (atT kE nE q t).2 = p)
  | [], t, d, _ => ⟨⟨fun _ => rfl, fun _ => rfl⟩, fun p h => by cases h; rfl⟩
  | n :: r, t, d, hw => by
    rw [atT, Tr.get?]
    cases hd : t.dir with
    | false =>
      have : t.kid? n = none := by rw [Tr.kid?, Tr.wf_file hw hd]; rfl
      rw [this]
      exact ⟨⟨fun h => absurd h hk, fun h => by cases h⟩, fun p h => by cases h⟩
    | true =>
      rw [if_pos rfl]
      cases hkd : t.kid? n with
      | none => exact ⟨⟨fun h => absurd h hn, fun h => by cases h⟩, fun p h => by cases h⟩
      | some k =>
        obtain ⟨e, _, he⟩ := Tr.wf_kid hw (Tr.kid_mem hkd)
        exact atT_get hk hn he
/-- a kid of a name, as the document looks for it: an entry of that path, right in the directory -/
theorem kid_entry {t p : Tr} {L : List En} {d : Nat} {q : List (List UInt8)} (hR : Rel t L) (hw : Tr.Wf d t) (hq : q.all isName = true) (lq : q.length ≤ 6) (hg : Tr.get? q t = some p) {n : List UInt8} (hn : isName n = true) {y : En} :
    (y ∈ kidsD L (joinP q) ∧ y.path = joinP (q ++ [n])) ↔ ∃ k, p.kid? n = some k ∧ y = entOf q (n, k) := by
  have hperm := sortT_perm hR hw hq lq hg
  obtain ⟨e, he⟩ := wf_get hw hg
  have hr := Tr.wf_rising he
  rw [hperm.mem_iff, sortT, List.mem_map]
  constructor
  · rintro ⟨⟨⟨m, k⟩, hk, rfl⟩, hp⟩
    have hm : m = n := by
      have hb := bl_irrefl (joinP (q ++ [m]))
      have h1 : joinP (q ++ [m]) = joinP (q ++ [n]) := hp
      have h2 : Op.bytesLess m n = false := by rw [← bl_join q, h1]; exact bl_irrefl _
      have h3 : Op.bytesLess n m = false := by rw [← bl_join q, h1]; exact bl_irrefl _
      by_cases h4 : m = n
      · exact h4
      · have := bl_total h4 h2
        rw [h3] at this; cases this
    subst hm
    exact ⟨k, (Tr.kid_iff hr).2 hk, rfl⟩
  · rintro ⟨k, hk, rfl⟩
    exact ⟨⟨(n, k), Tr.kid_mem hk, rfl⟩, rfl⟩
/-- no kid has a name that is none -/
theorem kid_name {t k : Tr} {d : Nat} {n : List UInt8} (hw : Tr.Wf d t) (h : t.kid? n = some k) : isName n = true := by
  cases d with
  | zero => have := Tr.kid_mem h; rw [hw.1] at this; cases this
  | succ d => exact (hw.2.2.2.2.2 _ (Tr.kid_mem h)).1
theorem get_names : ∀ {q : List (List UInt8)} {t p : Tr} {d : Nat}, Tr.Wf d t → Tr.get? q t = some p → q.all isName = true ∧ q.length ≤ d
  | [], _, _, _, _, _ => ⟨rfl, Nat.zero_le _⟩
  | n :: q, t, p, d, hw, h => by
    rw [Tr.get?] at h
    cases hk : t.kid? n with
    | none => rw [hk] at h; cases h
    | some k =>
      rw [hk] at h
      obtain ⟨e, rfl, he⟩ := Tr.wf_kid hw (Tr.kid_mem hk)
      obtain ⟨a, b⟩ := get_names he h
      refine ⟨?_, by simp only [List.length_cons]; omega⟩
      rw [List.all_cons, kid_name hw hk, a]; rfl
end Go.Proofs.YtjdignaddfhohaaDoor
namespace Go.Proofs.YtjdignaddfhohaaDoor
open Go.RowKit Go.SL

theorem rising_ext {a b : List (List UInt8)} (ha : Rising a) (hb : Rising b) (h : ∀ n, n ∈ a ↔ n ∈ b) : a = b := by
  have hp : a.Perm b := (List.perm_ext_iff_of_nodup (nodup_rising ha) (nodup_rising hb)).2 h
  have pa : a.Pairwise fun x y => Op.bytesLess x y = true := List.pairwise_iff_getElem.2 fun i j _ hj hij => ha.of hij hj
  have pb : b.Pairwise fun x y => Op.bytesLess x y = true := List.pairwise_iff_getElem.2 fun i j _ hj hij => hb.of hij hj
  refine hp.eq_of_pairwise (fun x y _ _ h1 h2 => ?_) pa pb
  rw [bl_asymm h1] at h2; cases h2
theorem tr_ext : ∀ {d : Nat} {t s : Tr}, Tr.Wf d t → Tr.Wf d s → (∀ q, Tr.look? q t = Tr.look? q s) → t = s
  | 0, .nd a b c, .nd a' b' c', ht, hs, h => by
    have h0 := h []
    simp only [Tr.look_nil, Tr.dir, Tr.data, Option.some.injEq, Prod.mk.injEq] at h0
    have e1 : c = [] := ht.1
    have e2 : c' = [] := hs.1
    rw [e1, e2, h0.1, h0.2]
  | d + 1, t, s, ht, hs, h => by
    have h0 := h []
    simp only [Tr.look_nil, Option.some.injEq, Prod.mk.injEq] at h0
    have rt := Tr.wf_rising ht
    have rs := Tr.wf_rising hs
    have some_kid : ∀ {u : Tr} {n : List UInt8}, (Tr.look? [n] u).isSome = (u.kid? n).isSome := fun {u n} => by
      rw [Tr.look_cons]
      cases u.kid? n <;> rfl
    have hmem : ∀ {u : Tr} {n : List UInt8}, n ∈ u.names ↔ (u.kid? n).isSome = true := fun {u n} => by
      have : n ∈ u.names ↔ isIn u.names n = true := by rw [isIn, List.contains_iff_mem]
      rw [this]
      cases hk : u.kid? n with
      | none => rw [Tr.kid_none.1 hk]; simp
      | some k =>
        cases hi : isIn u.names n with
        | true => simp
        | false => rw [Tr.kid_none.2 hi] at hk; cases hk
    have hn : t.names = s.names := rising_ext rt rs fun n => by
      rw [hmem, hmem, ← some_kid, ← some_kid, h [n]]
    have hlen : t.kids.length = s.kids.length := by
      have := congrArg List.length hn
      simpa [Tr.names] using this
    have hk : t.kids = s.kids := by
      refine List.ext_getElem hlen fun i h1 h2 => ?_
      have e1 : t.kids[i].1 = s.kids[i].1 := by
        have : t.names[i]'(by simpa [Tr.names] using h1) = s.names[i]'(by simpa [Tr.names] using h2) := by simp only [hn]
        simpa [Tr.names] using this
      have k1 := Tr.kid_at rt h1
      have k2 := Tr.kid_at rs h2
      rw [← e1] at k2
      have e2 : t.kids[i].2 = s.kids[i].2 := by
        refine tr_ext (ht.2.2.2.2.2 _ (List.getElem_mem h1)).2 (hs.2.2.2.2.2 _ (List.getElem_mem h2)).2 fun q => ?_
        have := h (t.kids[i].1 :: q)
        rw [Tr.look_cons, Tr.look_cons, k1, k2] at this
        exact this
      exact Prod.ext e1 e2
    obtain ⟨a, b, c⟩ := t
    obtain ⟨a', b', c'⟩ := s
    have hk' : c = c' := hk
    have ha : a = a' := h0.1
    have hb : b = b' := h0.2
    rw [ha, hb, hk']
/-- who is among all entries -/
theorem entT_mem : ∀ {d : Nat} {q : List (List UInt8)} {t : Tr}, Tr.Wf d t → ∀ {y : En}, y ∈ entT d q t ↔ ∃ s k, s ≠ [] ∧ Tr.get? s t = some k ∧ y = ⟨joinP (q ++ s), k.dir, k.data⟩
  | 0, q, t, h, y => by
    constructor
    · intro h1; cases h1
    · rintro ⟨s, k, hs, hg, _⟩
      rcases s with _ | ⟨n, r⟩
      · exact absurd rfl hs
      · rw [Tr.get?, Tr.kid?, h.1] at hg; cases hg
  | d + 1, q, t, h, y => by
    have hr := Tr.wf_rising h
    rw [entT, List.mem_flatMap]
    constructor
    · rintro ⟨⟨n, k⟩, hk, hy⟩
      have hkk := (Tr.kid_iff hr).2 hk
      rcases List.mem_cons.1 hy with rfl | hy
      · refine ⟨[n], k, by simp, ?_, rfl⟩
        rw [Tr.get?, hkk]; rfl
      · obtain ⟨s, p, _, hg, rfl⟩ := (entT_mem (h.2.2.2.2.2 _ hk).2).1 hy
        refine ⟨n :: s, p, by simp, ?_, ?_⟩
        · rw [Tr.get?, hkk]; exact hg
        · rw [List.append_assoc]; rfl
    · rintro ⟨s, p, hs, hg, rfl⟩
      rcases s with _ | ⟨n, r⟩
      · exact absurd rfl hs
      · rw [Tr.get?] at hg
        cases hk : t.kid? n with
        | none => rw [hk] at hg; cases hg
        | some k =>
          rw [hk] at hg
          refine ⟨(n, k), Tr.kid_mem hk, ?_⟩
          by_cases hr0 : r = []
          · subst hr0
            cases hg
            exact List.mem_cons.2 (.inl rfl)
          · refine List.mem_cons.2 (.inr ((entT_mem (h.2.2.2.2.2 _ (Tr.kid_mem hk)).2).2 ⟨r, p, hr0, hg, ?_⟩))
            rw [List.append_assoc]; rfl
end Go.Proofs.YtjdignaddfhohaaDoor
namespace Go.Proofs.YtjdignaddfhohaaDoor
open Go.RowKit Go.SL

/-- the names of all entries -/
def entS : Nat → List (List UInt8) → Tr → List (List (List UInt8))
  | 0, _, _ => []
  | d + 1, q, t => t.kids.flatMap fun k => (q ++ [k.1]) :: entS d (q ++ [k.1]) k.2
theorem entS_path : ∀ {d : Nat} {q : List (List UInt8)} {t : Tr}, (entT d q t).map En.path = (entS d q t).map joinP
  | 0, _, _ => rfl
  | d + 1, q, t => by
    rw [entT, entS, List.map_flatMap, List.map_flatMap]
    congr 1
    funext k
    rw [List.map_cons, List.map_cons, entS_path]; rfl
theorem entS_pre : ∀ {d : Nat} {q s : List (List UInt8)} {t : Tr}, s ∈ entS d q t → ∃ n r, s = q ++ n :: r ∧ n ∈ t.names
  | 0, _, _, _, h => by cases h
  | d + 1, q, s, t, h => by
    rw [entS, List.mem_flatMap] at h
    obtain ⟨k, hk, h⟩ := h
    have hn : k.1 ∈ t.names := List.mem_map.2 ⟨k, hk, rfl⟩
    rcases List.mem_cons.1 h with rfl | h
    · exact ⟨k.1, [], rfl, hn⟩
    · obtain ⟨n, r, rfl, _⟩ := entS_pre h
      exact ⟨k.1, n :: r, by rw [List.append_assoc]; rfl, hn⟩
theorem entS_nodup : ∀ {d : Nat} {q : List (List UInt8)} {t : Tr}, Tr.Wf d t → (entS d q t).Nodup
  | 0, _, _, _ => List.nodup_nil
  | d + 1, q, t, h => by
    have hr := nodup_rising (Tr.wf_rising h)
    rw [entS]
    refine List.pairwise_flatMap.2 ⟨fun k hk => ?_, ?_⟩
    · refine List.nodup_cons.2 ⟨fun hm => ?_, entS_nodup (h.2.2.2.2.2 k hk).2⟩
      obtain ⟨n, r, e, _⟩ := entS_pre hm
      have := congrArg List.length e
      simp at this
    · refine (List.pairwise_map.1 hr).imp fun {a b} hab x hx y hy e => ?_
      have pre : ∀ {k : List UInt8 × Tr} {x : List (List UInt8)}, x ∈ (q ++ [k.1]) :: entS d (q ++ [k.1]) k.2 → ∃ r, x = q ++ k.1 :: r := fun {k x} hx => by
        rcases List.mem_cons.1 hx with rfl | hx
        · exact ⟨[], rfl⟩
        · obtain ⟨n, r, rfl, _⟩ := entS_pre hx
          exact ⟨n :: r, by rw [List.append_assoc]; rfl⟩
      obtain ⟨r1, e1⟩ := pre hx
      obtain ⟨r2, e2⟩ := pre hy
      rw [e1, e2] at e
      have := List.append_cancel_left e
      exact hab (List.cons.inj this).1
/-- each entry's directory stands ahead of it -/
def Ahead (base : List UInt8) (l : List En) : Prop := ∀ A x B, l = A ++ x :: B → parP x.path = base ∨ ∃ y ∈ A, y.path = parP x.path ∧ y.dir = true
theorem Ahead.nil (b : List UInt8) : Ahead b [] := fun A x B h => by cases A <;> cases h
theorem Ahead.append {b : List UInt8} {l m : List En} (h1 : Ahead b l) (h2 : Ahead b m) : Ahead b (l ++ m) := by
  intro A x B h
  rcases List.append_eq_append_iff.1 h with ⟨C, e1, e2⟩ | ⟨C, e1, e2⟩
  · rcases h2 C x B e2 with h3 | ⟨y, hy, h4⟩
    · exact .inl h3
    · exact .inr ⟨y, by rw [e1]; simp [hy], h4⟩
  · cases C with
    | nil =>
      rw [List.nil_append] at e2
      rcases h2 [] x B (by rw [← e2]; rfl) with h3 | ⟨y, hy, _⟩
      · exact .inl h3
      · cases hy
    | cons c C =>
      rw [List.cons_append] at e2
      obtain ⟨rfl, _⟩ := List.cons.inj e2
      exact h1 A x C e1
theorem Ahead.flat {b : List UInt8} {α : Type} {f : α → List En} : ∀ {l : List α}, (∀ a ∈ l, Ahead b (f a)) → Ahead b (l.flatMap f)
  | [], _ => Ahead.nil b
  | a :: l, h => by
    rw [List.flatMap_cons]
    exact (h a (by simp)).append (Ahead.flat fun c hc => h c (by simp [hc]))
theorem entT_ahead : ∀ {d : Nat} {q : List (List UInt8)} {t : Tr}, Tr.Wf d t → Ahead (joinP q) (entT d q t)
  | 0, q, t, _ => Ahead.nil _
  | d + 1, q, t, h => by
    rw [entT]
    refine Ahead.flat fun k hk => ?_
    have hn := (h.2.2.2.2.2 k hk).1
    have hwk := (h.2.2.2.2.2 k hk).2
    have ih := entT_ahead (q := q ++ [k.1]) hwk
    intro A x B e
    cases A with
    | nil =>
      rw [List.nil_append] at e
      obtain ⟨rfl, _⟩ := List.cons.inj e
      exact .inl (parP_join hn)
    | cons a A =>
      rw [List.cons_append] at e
      obtain ⟨rfl, e2⟩ := List.cons.inj e
      rcases ih A x B e2 with h3 | ⟨y, hy, h4⟩
      · refine .inr ⟨entOf q k, by simp, h3.symm, ?_⟩
        cases hd : k.2.dir with
        | true => exact hd
        | false =>
          have := entT_file (d := d) (q := q ++ [k.1]) (Tr.wf_file hwk hd)
          rw [this] at e2
          cases A <;> cases e2
      · exact .inr ⟨y, by simp [hy], h4⟩
end Go.Proofs.YtjdignaddfhohaaDoor
namespace Go.Proofs.YtjdignaddfhohaaDoor
open Go.RowKit Go.SL

theorem all_mem {t : Tr} {L : List En} (h : Good t L) {y : En} : y ∈ entT 6 [] t ↔ y ∈ L := by
  obtain ⟨⟨r1, r2, r3⟩, hw, hd, hb⟩ := h
  rw [entT_mem hw]
  constructor
  · rintro ⟨s, k, hs, hg, rfl⟩
    obtain ⟨x, hx, e1, e2, e3⟩ := (r3 s hs k.dir k.data).1 (by rw [Tr.look?, hg]; rfl)
    have hp := (split_names (r1 x hx).1).2.2.1
    rw [e1] at hp
    obtain ⟨xp, xd, xb⟩ := x
    simp only at e2 e3 hp
    rw [List.nil_append, hp, ← e2, ← e3]
    exact hx
  · intro hy
    obtain ⟨_, _, c, e⟩ := split_names (r1 y hy).1
    have hne : splitL y.path ≠ [] := fun h => (r1 y hy).2 (e.1 h)
    have hl := (r3 _ hne y.dir y.data).2 ⟨y, hy, rfl, rfl, rfl⟩
    rw [Tr.look?] at hl
    cases hg : Tr.get? (splitL y.path) t with
    | none => rw [hg] at hl; cases hl
    | some k =>
      rw [hg] at hl
      simp only [Option.map_some, Option.some.injEq, Prod.mk.injEq] at hl
      exact ⟨splitL y.path, k, hne, hg, by rw [List.nil_append, c, hl.1, hl.2]⟩
theorem entS_names : ∀ {d : Nat} {q s : List (List UInt8)} {t : Tr}, Tr.Wf d t → s ∈ entS d q t → ∃ r, s = q ++ r ∧ r.all isName = true ∧ r.length ≤ d
  | 0, _, _, _, _, h => by cases h
  | d + 1, q, s, t, hw, h => by
    rw [entS, List.mem_flatMap] at h
    obtain ⟨k, hk, h⟩ := h
    obtain ⟨hn, hwk⟩ := hw.2.2.2.2.2 k hk
    rcases List.mem_cons.1 h with rfl | h
    · exact ⟨[k.1], rfl, by simpa using hn, by simp⟩
    · obtain ⟨r, rfl, a, b⟩ := entS_names hwk h
      exact ⟨k.1 :: r, by rw [List.append_assoc]; rfl, by rw [List.all_cons, hn, a]; rfl, by simp only [List.length_cons]; omega⟩
theorem all_nodup {t : Tr} (hw : Tr.Wf 6 t) : ((entT 6 [] t).map En.path).Nodup := by
  rw [entS_path]
  refine List.pairwise_map.2 ((List.Pairwise.and_mem.1 (entS_nodup (q := []) hw)).imp fun {a b} h e => ?_)
  obtain ⟨r1, e1, a1, b1⟩ := entS_names hw h.1
  obtain ⟨r2, e2, a2, b2⟩ := entS_names hw h.2.1
  rw [List.nil_append] at e1 e2
  subst e1 e2
  exact h.2.2 (joinP_inj a1 a2 b1 b2 e)
theorem all_perm {t : Tr} {L : List En} (h : Good t L) : (entT 6 [] t).Perm L := by
  have n1 : (entT 6 [] t).Nodup := (List.pairwise_map.1 (all_nodup h.2.1)).imp fun h e => h (by rw [e])
  have n2 : L.Nodup := (List.pairwise_map.1 h.1.2.1).imp fun h e => h (by rw [e])
  exact (List.perm_ext_iff_of_nodup n1 n2).2 fun y => all_mem h
theorem go_all {t : Tr} {L : List En} (h : Good t L) : ∀ {B A : List En} {u : Tr}, entT 6 [] t = A ++ B → Good u A → (goT u B).1 = 0
  | [], _, _, _, _ => rfl
  | x :: B, A, u, e, hu => by
    have hx : x ∈ L := (all_mem h).1 (by rw [e]; simp)
    obtain ⟨s1, s2⟩ := h.1.1 x hx
    have hnd := all_nodup h.2.1
    rw [e, List.map_append, List.nodup_append] at hnd
    have hah := entT_ahead (q := []) h.2.1 A x B e
    obtain ⟨s, k, hs, hg, hxk⟩ := (entT_mem h.2.1).1 ((all_mem h).2 hx)
    obtain ⟨d', hwk⟩ := wf_get h.2.1 hg
    obtain ⟨a, b, c, e0⟩ := split_names s1
    obtain ⟨r, n, hr⟩ := snoc_of_ne (fun h4 => s2 (e0.1 h4) : splitL x.path ≠ [])
    rw [hr] at a b c
    rw [List.all_append, Bool.and_eq_true] at a
    have hn : isName n = true := by simpa using a.2
    have lr : r.length ≤ 6 := by simp at b; omega
    have hpar : parP x.path = joinP r := by rw [← c, parP_join hn]
    have hE : addE A x = 0 := by
      rw [addE, if_neg (by simpa using s1), if_neg, if_neg]
      · have hsz := (Tr.wf_size hwk).1
        have hd8 : x.data.length ≤ 8192 := by rw [hxk]; exact hsz
        -- the directory of x, in the tree
        have hl : Tr.look? (r ++ [n]) t = some (x.dir, x.data) := (h.1.2.2 _ (by simp) _ _).2 ⟨x, hx, hr, rfl, rfl⟩
        have hgr : ∃ p, Tr.get? r t = some p := by
          cases hgp : Tr.get? r t with
          | some p => exact ⟨p, rfl⟩
          | none => rw [Tr.look?, get_append, hgp] at hl; cases hl
        obtain ⟨p, hp⟩ := hgr
        obtain ⟨d2, hwp⟩ := wf_get h.2.1 hp
        have h6 := (Tr.wf_size hwp).2
        have hkc := kids_count h.1 h.2.1 a.1 lr hp
        have hpm := ((all_perm h).filter fun y => parP y.path == joinP r).length_eq
        have hsub : (kidsD (A ++ [x]) (joinP r)).length ≤ (kidsD (entT 6 [] t) (joinP r)).length := by
          rw [e, show A ++ x :: B = (A ++ [x]) ++ B by simp]
          exact (List.Sublist.filter _ (List.sublist_append_left _ _)).length_le
        have hone : (kidsD (A ++ [x]) (joinP r)).length = (kidsD A (joinP r)).length + 1 := by
          rw [kidsD, List.filter_append, List.length_append, ← kidsD]
          congr 1
          simp [hpar]
        have hk2 : (kidsD (entT 6 [] t) (joinP r)).length = p.kids.length := by rw [← hkc]; exact hpm
        rw [hpar]
        omega
      · rintro (h1 | ⟨h1, h2⟩ | h1 | h1)
        · exact s2 h1
        · refine h2 ?_
          rw [hxk] at h1 ⊢
          exact Tr.wf_data hwk h1
        · rw [hasD, List.any_eq_true] at h1
          obtain ⟨y, hy, hyp⟩ := h1
          exact hnd.2.2 y.path (List.mem_map.2 ⟨y, hy, rfl⟩) x.path (by simp) (beq_iff_eq.1 hyp)
        · rcases hah with h2 | ⟨y, hy, h2, h3⟩
          · have h4 : parP x.path = [] := h2
            rw [dirD, h4] at h1
            cases h1
          · have : dirD A (parP x.path) = true := by
              rw [dirD, Bool.or_eq_true, List.any_eq_true]
              exact .inr ⟨y, hy, by rw [h2, h3]; simp⟩
            rw [this] at h1; cases h1
    have hT : (addT u x).1 = 0 := by rw [add_err hu.1 hu.2.1 hu.2.2.1, hE]
    rw [goT, if_pos hT]
    exact go_all h (by rw [e]; simp) (add_good hu hT)
/-- what is built of a tree's entries is that tree -/
theorem build_entries {t : Tr} {L : List En} (h : Good t L) (hl : L.length ≤ 64) : buildT (entT 6 [] t) = (0, t) := by
  have hlen := (all_perm h).length_eq
  have h0 : (goT root (entT 6 [] t)).1 = 0 := go_all h (A := []) rfl good_root
  obtain ⟨_, h2⟩ := go_same (r := entT 6 [] t) good_root
  obtain ⟨g1, g2⟩ := h2 h0
  rw [g2, List.nil_append] at g1
  have ht : (goT root (entT 6 [] t)).2 = t := by
    refine tr_ext g1.2.1 h.2.1 fun q => ?_
    by_cases hq : q = []
    · subst hq
      rw [Tr.look_nil, Tr.look_nil, g1.2.2.1, g1.2.2.2, h.2.2.1, h.2.2.2]
    · have key : ∀ d b, Tr.look? q (goT root (entT 6 [] t)).2 = some (d, b) ↔ Tr.look? q t = some (d, b) := fun d b => by
        rw [g1.1.2.2 q hq, h.1.2.2 q hq]
        constructor
        · rintro ⟨x, hx, h3⟩; exact ⟨x, (all_mem h).1 hx, h3⟩
        · rintro ⟨x, hx, h3⟩; exact ⟨x, (all_mem h).2 hx, h3⟩
      cases h3 : Tr.look? q t with
      | some v => obtain ⟨d, b⟩ := v; exact (key d b).2 h3
      | none =>
        cases h4 : Tr.look? q (goT root (entT 6 [] t)).2 with
        | none => rfl
        | some v => obtain ⟨d, b⟩ := v; rw [(key d b).1 h4] at h3; cases h3
  rw [buildT, if_neg (by omega)]
  exact Prod.ext h0 ht
end Go.Proofs.YtjdignaddfhohaaDoor
namespace Go.Proofs.YtjdignaddfhohaaDoor
open Go.RowKit Go.SL

theorem kids_pairs {t : Tr} (h : Rising t.names) : t.kids.Pairwise fun a b => Op.bytesLess a.1 b.1 = true := by
  rw [List.pairwise_iff_getElem]
  intro i j hi hj hij
  have := h.of (i := i) (j := j) hij (by simpa [Tr.names] using hj)
  simpa [Tr.names] using this
theorem entS_rise : ∀ {d : Nat} {q : List (List UInt8)} {t : Tr}, Tr.Wf d t → (entS d q t).Pairwise fun a b => lessL a b = true
  | 0, _, _, _ => List.Pairwise.nil
  | d + 1, q, t, h => by
    rw [entS, List.pairwise_flatMap]
    have hr := Tr.wf_rising h
    refine ⟨fun k hk => ?_, (kids_pairs hr).imp fun {a b} hab x hx y hy => ?_⟩
    · have hw := (h.2.2.2.2.2 k hk).2
      refine List.pairwise_cons.2 ⟨fun s hs => ?_, entS_rise hw⟩
      obtain ⟨n, r, rfl, _⟩ := entS_pre hs
      have := lessL_app (q ++ [k.1]) [] (n :: r)
      rw [List.append_nil] at this
      rw [this]
      rfl
    · have hx2 : ∃ r, x = q ++ a.1 :: r := by
        rcases List.mem_cons.1 hx with rfl | hx
        · exact ⟨[], rfl⟩
        · obtain ⟨n, r, rfl, _⟩ := entS_pre hx
          exact ⟨n :: r, by simp⟩
      have hy2 : ∃ r, y = q ++ b.1 :: r := by
        rcases List.mem_cons.1 hy with rfl | hy
        · exact ⟨[], rfl⟩
        · obtain ⟨n, r, rfl, _⟩ := entS_pre hy
          exact ⟨n :: r, by simp⟩
      obtain ⟨r1, rfl⟩ := hx2
      obtain ⟨r2, rfl⟩ := hy2
      rw [lessL_app]
      exact (lessL_cons _ _ _ _).2 (.inl hab)
theorem ent_rise {t : Tr} (h : Tr.Wf 6 t) : RiseP ((entT 6 [] t).map En.path) := by
  rw [entS_path, RiseP, List.pairwise_map]
  have hn : ∀ s ∈ entS 6 [] t, cuts (joinP s) = s := fun s hs => by
    obtain ⟨r, rfl, h1, _⟩ := entS_names h hs
    obtain ⟨n, r', e, _⟩ := entS_pre hs
    exact cuts_join _ (by rw [e]; simp) h1
  refine (entS_rise h).imp_of_mem fun {a b} ha hb hab => ?_
  rw [lessP, hn a ha, hn b hb]
  exact hab
end Go.Proofs.YtjdignaddfhohaaDoor
namespace Go.Proofs.YtjdignaddfhohaaDoor
open Go.RowKit Go.SL

/-- what is at a path -/
structure Sd where
  there : Bool
  dir : Bool
  data : List UInt8
deriving DecidableEq
/-- what is another one at a path -/
structure Ch where
  path : List UInt8
  was : Sd
  now : Sd
deriving DecidableEq
def Sd.no : Sd := ⟨false, false, []⟩
def sideO : Option En → Sd
  | none => .no
  | some x => ⟨true, x.dir, x.data⟩
def fE (l : List En) (k : List UInt8) : Sd := sideO (l.find? fun x => x.path == k)
def chg (k : List UInt8) (a b : Sd) : Option Ch := if a = b then none else some ⟨k, a, b⟩
/-- what two rows of entries differ in, in order -/
def diffP (l m : List En) : List Ch := (sortK (l.map En.path ++ m.map En.path)).filterMap fun k => chg k (fE l k) (fE m k)
section
variable {α β : Type} {f : α → List UInt8} {g : β → List UInt8}
theorem find_key {l : List α} {k : List UInt8} {x : α} (h : l.find? (fun z => f z == k) = some x) : f x = k ∧ x ∈ l := by
  refine ⟨by simpa using List.find?_some h, List.mem_of_find?_eq_some h⟩
theorem find_mem {l : List α} {k : List UInt8} (h : k ∈ l.map f) : ∃ x, l.find? (fun z => f z == k) = some x := by
  obtain ⟨x, hx, rfl⟩ := List.mem_map.1 h
  cases hf : l.find? (fun z => f z == f x) with
  | some y => exact ⟨y, rfl⟩
  | none =>
    have := List.find?_eq_none.1 hf x hx
    simp at this
theorem find_not {l : List α} {k : List UInt8} (h : k ∉ l.map f) : l.find? (fun z => f z == k) = none := by
  cases hf : l.find? (fun z => f z == k) with
  | none => rfl
  | some y =>
    obtain ⟨h1, h2⟩ := find_key hf
    exact absurd (List.mem_map.2 ⟨y, h2, h1⟩) h
theorem key_pair {l : List α} {m : List β} {k : List UInt8} (h : k ∈ l.map f ∨ k ∈ m.map g) : keyB f g (pairAt f g l m k) = k := by
  unfold pairAt
  cases h1 : l.find? (fun z => f z == k) with
  | some x => exact (find_key h1).1
  | none =>
    cases h2 : m.find? (fun z => g z == k) with
    | some y => exact (find_key h2).1
    | none =>
      rcases h with h | h
      · obtain ⟨x, hx⟩ := find_mem h; rw [h1] at hx; cases hx
      · obtain ⟨x, hx⟩ := find_mem h; rw [h2] at hx; cases hx
theorem find_rise {l : List α} (h : RiseP (l.map f)) {x : α} (hx : x ∈ l) : l.find? (fun z => f z == f x) = some x := by
  induction l with
  | nil => cases hx
  | cons y l ih =>
    obtain ⟨h1, h2⟩ := List.pairwise_cons.1 h
    rcases List.mem_cons.1 hx with rfl | hx
    · exact find_here
    · rw [find_past (h1 (f x) (List.mem_map_of_mem hx))]
      exact ih h2 hx
theorem sub_rise {γ : Type} {h : γ → List UInt8} {K : List (List UInt8)} (hK : RiseP K) {F : List UInt8 → Option γ} (hF : ∀ k c, F k = some c → h c = k) : RiseP ((K.filterMap F).map h) ∧ ∀ k, k ∈ (K.filterMap F).map h ↔ k ∈ K ∧ (F k).isSome := by
  induction K with
  | nil => exact ⟨List.Pairwise.nil, fun k => by simp⟩
  | cons j K ih =>
    obtain ⟨h1, h2⟩ := List.pairwise_cons.1 hK
    obtain ⟨i1, i2⟩ := ih h2
    cases hj : F j with
    | none =>
      rw [List.filterMap_cons, hj]
      refine ⟨i1, fun k => ?_⟩
      simp only
      rw [i2, List.mem_cons]
      constructor
      · exact fun h => ⟨.inr h.1, h.2⟩
      · rintro ⟨rfl | h, h3⟩
        · rw [hj] at h3; cases h3
        · exact ⟨h, h3⟩
    | some c =>
      rw [List.filterMap_cons, hj]
      have hc := hF j c hj
      refine ⟨List.pairwise_cons.2 ⟨fun k hk => by rw [hc]; exact h1 k ((i2 k).1 hk).1, i1⟩, fun k => ?_⟩
      simp only [List.map_cons]
      rw [List.mem_cons, i2, hc, List.mem_cons]
      constructor
      · rintro (rfl | h)
        · exact ⟨.inl rfl, by rw [hj]; rfl⟩
        · exact ⟨.inr h.1, h.2⟩
      · rintro ⟨rfl | h, h3⟩
        · exact .inl rfl
        · exact .inr ⟨h, h3⟩
/-- a rising row, told by its paths -/
theorem row_of_keys {l : List α} (h : RiseP (l.map f)) {K : List (List UInt8)} (hK : RiseP K) (hs : ∀ k ∈ l.map f, k ∈ K) : K.filterMap (fun k => l.find? fun z => f z == k) = l := by
  have hF : ∀ k c, (fun k => l.find? fun z => f z == k) k = some c → f c = k := fun k c h => (find_key h).1
  obtain ⟨h1, h2⟩ := sub_rise hK hF
  have e : (K.filterMap (fun k => l.find? fun z => f z == k)).map f = l.map f := riseP_ext h1 h fun k => by
    rw [h2]
    constructor
    · rintro ⟨_, h3⟩
      obtain ⟨x, hx⟩ := Option.isSome_iff_exists.1 h3
      obtain ⟨h4, h5⟩ := find_key hx
      exact List.mem_map.2 ⟨x, h5, h4⟩
    · intro hk
      obtain ⟨x, hx⟩ := find_mem hk
      exact ⟨hs k hk, by rw [hx]; rfl⟩
  have self : ∀ (m : List α), (∀ x ∈ m, l.find? (fun z => f z == f x) = some x) → (m.map f).filterMap (fun k => l.find? fun z => f z == k) = m := by
    intro m
    induction m with
    | nil => intro _; rfl
    | cons x m ih =>
      intro hm
      rw [List.map_cons, List.filterMap_cons, hm x (by simp)]
      simp only
      rw [ih fun y hy => hm y (by simp [hy])]
  have a1 := self (K.filterMap (fun k => l.find? fun z => f z == k)) (fun x hx => by
    obtain ⟨k, hk, hx⟩ := List.mem_filterMap.1 hx
    rw [(find_key hx).1]
    exact hx)
  have a2 := self l (fun x hx => find_rise h hx)
  rw [e] at a1
  rw [← a1, a2]
end
theorem fm_congr {α β : Type} {f g : α → Option β} : ∀ {l : List α}, (∀ x ∈ l, f x = g x) → l.filterMap f = l.filterMap g
  | [], _ => rfl
  | x :: l, h => by rw [List.filterMap_cons, List.filterMap_cons, h x (by simp), fm_congr fun y hy => h y (by simp [hy])]
theorem chg_key {l m : List En} : ∀ k c, (fun k => chg k (fE l k) (fE m k)) k = some c → Ch.path c = k := by
  intro k c h
  simp only [chg] at h
  split at h
  · cases h
  · cases h; rfl
theorem diffP_rise (l m : List En) : RiseP ((diffP l m).map Ch.path) := (sub_rise (sortK_rise _) chg_key).1
/-- the program's way: side by side -/
theorem diff_prog {l m : List En} {n : Nat} (h : l.length + m.length ≤ n) (hl : RiseP (l.map En.path)) (hm : RiseP (m.map En.path)) :
    (bothB En.path En.path n l m).filterMap (fun p => chg (keyB En.path En.path p) (sideO p.1) (sideO p.2)) = diffP l m := by
  rw [both_sorted h hl hm, List.filterMap_map, diffP]
  refine fm_congr fun k hk => ?_
  have hk2 : k ∈ l.map En.path ∨ k ∈ m.map En.path := by
    have := sortK_mem.1 hk
    rwa [List.mem_append] at this
  simp only [Function.comp_apply]
  rw [key_pair hk2]
  rfl
end Go.Proofs.YtjdignaddfhohaaDoor
namespace Go.Proofs.YtjdignaddfhohaaDoor
open Go.RowKit Go.SL

theorem fE_none {l : List En} {k : List UInt8} (h : k ∉ l.map En.path) : fE l k = .no := by rw [fE, find_not h]; rfl
theorem diff_find (l m : List En) (k : List UInt8) : (diffP l m).find? (fun c => c.path == k) = chg k (fE l k) (fE m k) := by
  have hF := chg_key (l := l) (m := m)
  obtain ⟨h1, h2⟩ := sub_rise (sortK_rise (l.map En.path ++ m.map En.path)) hF
  have h2' : ∀ j, j ∈ (diffP l m).map Ch.path ↔ j ∈ sortK (l.map En.path ++ m.map En.path) ∧ (chg j (fE l j) (fE m j)).isSome := h2
  cases hc : chg k (fE l k) (fE m k) with
  | some c =>
    have hk : c.path = k := hF k c hc
    have hin : k ∈ sortK (l.map En.path ++ m.map En.path) := by
      apply Classical.byContradiction
      intro hno
      rw [sortK_mem, List.mem_append] at hno
      rw [fE_none (fun h => hno (.inl h)), fE_none (fun h => hno (.inr h)), chg, if_pos rfl] at hc
      cases hc
    have hm : c ∈ diffP l m := List.mem_filterMap.2 ⟨k, hin, hc⟩
    have := find_rise h1 hm
    rw [hk] at this
    exact this
  | none =>
    refine find_not fun h => ?_
    have := ((h2' k).1 h).2
    rw [hc] at this
    cases this
def swapC (c : Ch) : Ch := ⟨c.path, c.now, c.was⟩
theorem chg_swap (k : List UInt8) (a b : Sd) : (chg k a b).map swapC = chg k b a := by
  unfold chg
  by_cases h : a = b
  · rw [if_pos h, if_pos h.symm]; rfl
  · rw [if_neg h, if_neg (fun e => h e.symm)]; rfl
/-- reversed, the differences of the other way -/
theorem diff_swap (l m : List En) : (diffP l m).map swapC = diffP m l := by
  have e : sortK (l.map En.path ++ m.map En.path) = sortK (m.map En.path ++ l.map En.path) := riseP_ext (sortK_rise _) (sortK_rise _) fun k => by
    rw [sortK_mem, sortK_mem, List.mem_append, List.mem_append]
    exact or_comm
  rw [diffP, diffP, e, List.map_filterMap]
  exact fm_congr fun k _ => chg_swap k _ _
/-- what an act of a change makes of what was there -/
def actO (x : Option En) : Option Ch → Option En
  | none => x
  | some c => if c.now.there = true then some ⟨c.path, c.now.dir, c.now.data⟩ else none
theorem act_one {l m : List En} {k : List UInt8} : actO (l.find? fun x => x.path == k) (chg k (fE l k) (fE m k)) = m.find? fun x => x.path == k := by
  have hl : ∀ x, l.find? (fun x => x.path == k) = some x → x.path = k := fun x h => (find_key h).1
  have hm : ∀ x, m.find? (fun x => x.path == k) = some x → x.path = k := fun x h => (find_key h).1
  unfold fE
  generalize l.find? (fun x => x.path == k) = a at *
  generalize m.find? (fun x => x.path == k) = b at *
  unfold chg
  by_cases h : sideO a = sideO b
  · rw [if_pos h]
    cases a with
    | none =>
      cases b with
      | none => rfl
      | some y => simp [sideO, Sd.no] at h
    | some x =>
      cases b with
      | none => simp [sideO, Sd.no] at h
      | some y =>
        have e1 := hl x rfl
        have e2 := hm y rfl
        obtain ⟨xp, xd, xb⟩ := x
        obtain ⟨yp, yd, yb⟩ := y
        simp only [sideO, Sd.mk.injEq, true_and] at h
        simp only at e1 e2
        simp only [actO]
        rw [e1, e2, h.1, h.2]
  · rw [if_neg h]
    cases b with
    | none => simp [actO, sideO, Sd.no]
    | some y =>
      have e2 := hm y rfl
      obtain ⟨yp, yd, yb⟩ := y
      simp only at e2
      simp only [actO, sideO]
      rw [if_pos trivial, e2]
/-- changes from one row to another one, applied, make it -/
theorem apply_diff {l m : List En} {n : Nat} (h : l.length + (diffP l m).length ≤ n) (hl : RiseP (l.map En.path)) (hm : RiseP (m.map En.path)) :
    (bothB En.path Ch.path n l (diffP l m)).filterMap (fun p => actO p.1 p.2) = m ∧ ∀ p ∈ bothB En.path Ch.path n l (diffP l m), ∀ c, p.2 = some c → sideO p.1 = c.was := by
  have hc := diffP_rise l m
  rw [both_sorted h hl hc]
  refine ⟨?_, ?_⟩
  · rw [List.filterMap_map]
    have e : (sortK (l.map En.path ++ (diffP l m).map Ch.path)).filterMap ((fun p => actO p.1 p.2) ∘ pairAt En.path Ch.path l (diffP l m)) = (sortK (l.map En.path ++ (diffP l m).map Ch.path)).filterMap (fun k => m.find? fun x => x.path == k) := fm_congr fun k _ => by
      simp only [Function.comp_apply, pairAt]
      rw [diff_find, act_one]
    rw [e]
    refine row_of_keys hm (sortK_rise _) fun k hk => ?_
    rw [sortK_mem, List.mem_append]
    by_cases hkl : k ∈ l.map En.path
    · exact .inl hkl
    · right
      obtain ⟨y, hy⟩ := find_mem hk
      have h1 : chg k (fE l k) (fE m k) = some ⟨k, fE l k, fE m k⟩ := by
        rw [chg, if_neg]
        rw [fE_none hkl, fE, hy]
        simp [sideO, Sd.no]
      have h2 := diff_find l m k
      rw [h1] at h2
      obtain ⟨h3, h4⟩ := find_key h2
      exact List.mem_map.2 ⟨_, h4, h3⟩
  · intro p hp c hpc
    obtain ⟨k, _, rfl⟩ := List.mem_map.1 hp
    simp only [pairAt] at hpc ⊢
    rw [diff_find] at hpc
    simp only [chg] at hpc
    split at hpc
    · cases hpc
    · cases hpc; rfl
/-- no differences: the same -/
theorem diff_nil {l m : List En} (hl : RiseP (l.map En.path)) (hm : RiseP (m.map En.path)) : diffP l m = [] ↔ l = m := by
  constructor
  · intro h
    have := (apply_diff (n := l.length + (diffP l m).length) (Nat.le_refl _) hl hm).1
    rw [h, both_sorted (by simp) hl (by exact List.Pairwise.nil), List.filterMap_map] at this
    rw [← this]
    simp only [List.map_nil, List.append_nil]
    have e : (sortK (l.map En.path)).filterMap ((fun p => actO p.1 p.2) ∘ pairAt En.path Ch.path l []) = (sortK (l.map En.path)).filterMap (fun k => l.find? fun x => x.path == k) := fm_congr fun k _ => rfl
    rw [e]
    exact (row_of_keys hl (sortK_rise _) fun k hk => sortK_mem.2 hk).symm
  · rintro rfl
    rw [diffP]
    refine List.filterMap_eq_nil_iff.2 fun k _ => ?_
    rw [chg, if_pos rfl]
end Go.Proofs.YtjdignaddfhohaaDoor
namespace Go.Proofs.YtjdignaddfhohaaDoor
open Go.RowKit Go.SL

/-- what two changes of a path do -/
def compO : Option Ch → Option Ch → Option Ch
  | some x, none => some x
  | none, some y => some y
  | some x, some y => if x.was = y.now then none else some ⟨x.path, x.was, y.now⟩
  | none, none => none
def fits : Option Ch → Option Ch → Prop
  | some x, some y => x.now = y.was
  | _, _ => True
theorem comp_one (k : List UInt8) (a b c : Sd) : compO (chg k a b) (chg k b c) = chg k a c ∧ fits (chg k a b) (chg k b c) := by
  unfold chg
  by_cases h1 : a = b
  · subst h1
    rw [if_pos rfl]
    by_cases h2 : a = c
    · subst h2
      rw [if_pos rfl]
      exact ⟨rfl, trivial⟩
    · rw [if_neg h2]
      exact ⟨rfl, trivial⟩
  · rw [if_neg h1]
    by_cases h2 : b = c
    · subst h2
      rw [if_pos rfl, if_neg h1]
      exact ⟨rfl, trivial⟩
    · rw [if_neg h2]
      exact ⟨rfl, rfl⟩
/-- the differences of a road are its parts', composed -/
theorem comp_diff {l m r : List En} {n : Nat} (h : (diffP l m).length + (diffP m r).length ≤ n) :
    (bothB Ch.path Ch.path n (diffP l m) (diffP m r)).filterMap (fun p => compO p.1 p.2) = diffP l r ∧ ∀ p ∈ bothB Ch.path Ch.path n (diffP l m) (diffP m r), fits p.1 p.2 := by
  rw [both_sorted h (diffP_rise l m) (diffP_rise m r)]
  refine ⟨?_, ?_⟩
  · rw [List.filterMap_map]
    have e : (sortK ((diffP l m).map Ch.path ++ (diffP m r).map Ch.path)).filterMap ((fun p => compO p.1 p.2) ∘ pairAt Ch.path Ch.path (diffP l m) (diffP m r)) = (sortK ((diffP l m).map Ch.path ++ (diffP m r).map Ch.path)).filterMap (fun k => (diffP l r).find? fun c => c.path == k) := fm_congr fun k _ => by
      simp only [Function.comp_apply, pairAt]
      rw [diff_find, diff_find, diff_find, (comp_one k _ _ _).1]
    rw [e]
    refine row_of_keys (diffP_rise l r) (sortK_rise _) fun k hk => ?_
    rw [sortK_mem, List.mem_append]
    obtain ⟨c, hc⟩ := find_mem hk
    rw [diff_find] at hc
    by_cases h1 : fE l k = fE m k
    · right
      rw [h1] at hc
      rw [← diff_find] at hc
      obtain ⟨h3, h4⟩ := find_key hc
      exact List.mem_map.2 ⟨c, h4, h3⟩
    · left
      have h5 := diff_find l m k
      rw [chg, if_neg h1] at h5
      obtain ⟨h3, h4⟩ := find_key h5
      exact List.mem_map.2 ⟨_, h4, h3⟩
  · intro p hp
    obtain ⟨k, _, rfl⟩ := List.mem_map.1 hp
    simp only [pairAt]
    rw [diff_find, diff_find]
    exact (comp_one k _ _ _).2
/-- may a side be? -/
def maySd (s : Sd) : Bool := (s.there && (!s.dir || s.data == [])) || s == .no
/-- may a row of changes be? -/
def mayC (c : List Ch) : Bool := c.all (fun x => splitE x.path == 0 && (!(splitL x.path).isEmpty && (!(x.was == x.now) && (maySd x.was && maySd x.now))))
end Go.Proofs.YtjdignaddfhohaaDoor
namespace Go.Proofs.YtjdignaddfhohaaDoor
open Go.RowKit Go.SL

theorem ent_path {t : Tr} (hw : Tr.Wf 6 t) {y : En} (hy : y ∈ entT 6 [] t) : splitE y.path = 0 ∧ splitL y.path ≠ [] ∧ y.path ≠ [] := by
  obtain ⟨s, k, hs, hg, rfl⟩ := (entT_mem hw).1 hy
  obtain ⟨hqa, hq6⟩ := get_names hw hg
  obtain ⟨h1, h2⟩ := join_split hs hqa hq6
  simp only [List.nil_append]
  exact ⟨h2, by rw [h1]; exact hs, joinP_ne hs hqa⟩
theorem dir_ent {t : Tr} (hw : Tr.Wf 6 t) {y : En} (hy : y ∈ entT 6 [] t) : y.dir = true → y.data = [] := by
  obtain ⟨s, k, hs, hg, rfl⟩ := (entT_mem hw).1 hy
  obtain ⟨e, hk⟩ := wf_get hw hg
  exact fun hd => Tr.wf_data hk hd
theorem may_side {t : Tr} (hw : Tr.Wf 6 t) (k : List UInt8) : maySd (fE (entT 6 [] t) k) = true := by
  rw [fE]
  cases h : (entT 6 [] t).find? (fun x => x.path == k) with
  | none => rfl
  | some x =>
    have hx := dir_ent hw (find_key h).2
    obtain ⟨xp, xd, xb⟩ := x
    cases xd with
    | false => rfl
    | true =>
      have : xb = [] := hx rfl
      subst this
      rfl
theorem may_diff {t u : Tr} (ht : Tr.Wf 6 t) (hu : Tr.Wf 6 u) : mayC (diffP (entT 6 [] t) (entT 6 [] u)) = true := by
  refine List.all_eq_true.2 fun c hc => ?_
  obtain ⟨k, hk, hc⟩ := List.mem_filterMap.1 hc
  rw [sortK_mem, List.mem_append] at hk
  have hp : splitE k = 0 ∧ splitL k ≠ [] ∧ k ≠ [] := by
    rcases hk with hk | hk
    · obtain ⟨y, hy, rfl⟩ := List.mem_map.1 hk
      exact ent_path ht hy
    · obtain ⟨y, hy, rfl⟩ := List.mem_map.1 hk
      exact ent_path hu hy
  simp only [chg] at hc
  split at hc
  · cases hc
  · next hne =>
    cases hc
    have h1 := may_side ht k
    have h2 := may_side hu k
    simp only
    rw [hp.1, h1, h2]
    simp [hp.2.1, hne]
/-- of a path, in a tree's entries -/
theorem fE_at {t : Tr} (hw : Tr.Wf 6 t) {s : List (List UInt8)} (hs : s ≠ []) (ha : s.all isName = true) (h6 : s.length ≤ 6) : fE (entT 6 [] t) (joinP s) = match Tr.get? s t with | some k => ⟨true, k.dir, k.data⟩ | none => .no := by
  cases hg : Tr.get? s t with
  | some k =>
    have hm : (⟨joinP s, k.dir, k.data⟩ : En) ∈ entT 6 [] t := (entT_mem hw).2 ⟨s, k, hs, hg, rfl⟩
    have := find_rise (ent_rise hw) hm
    rw [fE]
    change sideO ((entT 6 [] t).find? fun z => z.path == joinP s) = _
    rw [show ((entT 6 [] t).find? fun z => z.path == joinP s) = some ⟨joinP s, k.dir, k.data⟩ from this]
    rfl
  | none =>
    refine fE_none fun h => ?_
    obtain ⟨y, hy, e⟩ := List.mem_map.1 h
    obtain ⟨s', k, hs', hg', rfl⟩ := (entT_mem hw).1 hy
    obtain ⟨ha', h6'⟩ := get_names hw hg'
    have h1 := (join_split hs ha h6).1
    have h2 := (join_split hs' ha' h6').1
    simp only [List.nil_append] at e
    rw [e, h1] at h2
    rw [h2, hg'] at hg
    cases hg
end Go.Proofs.YtjdignaddfhohaaDoor
namespace Go.Proofs.YtjdignaddfhohaaDoor
open Go.RowKit Go.SL

def chooseS (b o t : Sd) : Sd × Bool := if o = t ∨ t = b then (o, true) else if o = b then (t, true) else (o, false)
/-- does a path lie below another one? -/
def belowP (p q : List UInt8) : Bool := decide (q.length < p.length) && (p.take q.length == q && p[q.length]? == some 47)
theorem below_iff {p q : List UInt8} : belowP p q = true ↔ ∃ r, p = q ++ 47 :: r := by
  unfold belowP
  simp only [Bool.and_eq_true, decide_eq_true_eq, beq_iff_eq]
  constructor
  · rintro ⟨h1, h2, h3⟩
    refine ⟨p.drop (q.length + 1), ?_⟩
    have e := (List.take_append_drop q.length p).symm
    rw [h2] at e
    have h4 : p[q.length] = 47 := by rw [List.getElem?_eq_getElem h1] at h3; exact Option.some.inj h3
    rw [List.drop_eq_getElem_cons h1, h4] at e
    exact e
  · rintro ⟨r, rfl⟩
    simp
theorem cuts_split : ∀ (q r : List UInt8), cuts (q ++ 47 :: r) = cuts q ++ cuts r
  | [], r => by simp [cuts_cons, cuts]
  | c :: q, r => by
    rw [List.cons_append, cuts_cons, cuts_cons, cuts_split q r]
    by_cases h : (c == 47) = true
    · rw [if_pos h, if_pos h]; rfl
    · rw [if_neg h, if_neg h]
      cases hq : cuts q with
      | nil => exact absurd hq (cuts_ne q)
      | cons a l => rfl
theorem below_less {p q : List UInt8} (h : belowP p q = true) : lessP q p = true := by
  obtain ⟨r, rfl⟩ := below_iff.1 h
  unfold lessP
  rw [cuts_split]
  have h2 := lessL_app (cuts q) [] (cuts r)
  rw [List.append_nil] at h2
  rw [h2]
  cases hr : cuts r with
  | nil => exact absurd hr (cuts_ne r)
  | cons a l => rfl
theorem below_trans {a b c : List UInt8} (h1 : belowP a b = true) (h2 : belowP b c = true) : belowP a c = true := by
  obtain ⟨r, rfl⟩ := below_iff.1 h1
  obtain ⟨s, rfl⟩ := below_iff.1 h2
  exact below_iff.2 ⟨s ++ 47 :: r, by simp⟩
/-- rows of entries that are a tree's -/
structure TreeEs (es : List En) : Prop where
  rise : RiseP (es.map En.path)
  up : ∀ p ∈ es.map En.path, ∀ q, q ≠ [] → belowP p q = true → ∃ x ∈ es, x.path = q ∧ x.dir = true
  ne : ∀ x ∈ es, x.path ≠ []
  flat : ∀ x ∈ es, x.dir = true → x.data = []
theorem TreeEs.nil : TreeEs [] := ⟨List.Pairwise.nil, (fun _ h => absurd h (by simp)), (fun _ h => absurd h (by simp)), (fun _ h => absurd h (by simp))⟩
theorem get_kid {t k p : Tr} {n : List UInt8} {s : List (List UInt8)} {d : Nat} (hw : Tr.Wf d t) (hg : Tr.get? (s ++ [n]) t = some k) (hp : Tr.get? s t = some p) : p.dir = true := by
  obtain ⟨e, he⟩ := wf_get hw hp
  rw [get_snoc hp] at hg
  cases hd : p.dir with
  | true => rfl
  | false =>
    have hk : p.kids = [] := Tr.wf_file he hd
    have := Tr.kid_mem hg
    rw [hk] at this
    cases this
theorem tree_es {t : Tr} (hw : Tr.Wf 6 t) : TreeEs (entT 6 [] t) := by
  refine ⟨ent_rise hw, ?_, fun x hx => (ent_path hw hx).2.2, fun x hx => dir_ent hw hx⟩
  intro p hp q hq hb
  obtain ⟨y, hy, rfl⟩ := List.mem_map.1 hp
  obtain ⟨s, k, hs, hg, rfl⟩ := (entT_mem hw).1 hy
  obtain ⟨ha, h6⟩ := get_names hw hg
  obtain ⟨r, e⟩ := below_iff.1 hb
  simp only [List.nil_append] at e
  have hc : s = cuts q ++ cuts r := by rw [← cuts_split, ← e, cuts_join s hs ha]
  have hqn : (cuts q).all isName = true := by rw [hc, List.all_append, Bool.and_eq_true] at ha; exact ha.1
  have hgq : ∃ p', Tr.get? (cuts q) t = some p' := by
    rw [hc, get_append] at hg
    cases hh : Tr.get? (cuts q) t with
    | none => rw [hh] at hg; cases hg
    | some p' => exact ⟨p', rfl⟩
  obtain ⟨p', hp'⟩ := hgq
  have hdir : p'.dir = true := by
    cases hr : cuts r with
    | nil => exact absurd hr (cuts_ne r)
    | cons n l =>
      have h1 : Tr.get? (cuts q ++ [n]) t ≠ none := by
        intro hn
        rw [hc, hr, show cuts q ++ n :: l = (cuts q ++ [n]) ++ l by simp, get_append, hn] at hg
        cases hg
      obtain ⟨k', hk'⟩ := Option.ne_none_iff_exists'.1 h1
      exact get_kid hw hk' hp'
  have hj := join_cuts q
  exact ⟨⟨joinP ([] ++ cuts q), p'.dir, p'.data⟩, (entT_mem hw).2 ⟨cuts q, p', cuts_ne q, hp', rfl⟩, by simpa using hj, hdir⟩

section
variable (b o t : List En)
def keysM : List (List UInt8) := sortK (b.map En.path ++ (o.map En.path ++ t.map En.path))
def ch0 (k : List UInt8) : Sd × Bool := chooseS (fE b k) (fE o k) (fE t k)
/-- is a directory wanted at a path? -/
def needM (k : List UInt8) : Bool := (keysM b o t).any fun p => (ch0 b o t p).1.there && belowP p k
def trouble (k : List UInt8) : Bool := needM b o t k && !(ch0 b o t k).1.dir
def finM (k : List UInt8) : Sd := if trouble b o t k = true then ⟨true, true, []⟩ else (ch0 b o t k).1
def badM (k : List UInt8) : Bool := trouble b o t k || !(ch0 b o t k).2
def outM : List En := (keysM b o t).filterMap fun k => if (finM b o t k).there = true then some ⟨k, (finM b o t k).dir, (finM b o t k).data⟩ else none
/-- a path at which both did something else -/
structure Cf where
  path : List UInt8
  base : Sd
  ours : Sd
  theirs : Sd
deriving DecidableEq
def conM : List Cf := (keysM b o t).filterMap fun k => if badM b o t k = true then some ⟨k, fE b k, fE o k, fE t k⟩ else none
noncomputable def mrgE : Int := (buildT (outM b o t)).1
noncomputable def mrgT : Tr := (buildT (outM b o t)).2
def mrgC : List Cf := if (buildT (outM b o t)).1 = 0 then conM b o t else []
end

theorem keysM_rise (b o t : List En) : RiseP (keysM b o t) := sortK_rise _
theorem keysM_mem {b o t : List En} {k : List UInt8} : k ∈ keysM b o t ↔ k ∈ b.map En.path ∨ k ∈ o.map En.path ∨ k ∈ t.map En.path := by
  rw [keysM, sortK_mem, List.mem_append, List.mem_append]
theorem there_mem {l : List En} {k : List UInt8} (h : (fE l k).there = true) : k ∈ l.map En.path := by
  apply Classical.byContradiction
  intro hn
  rw [fE_none hn] at h
  cases h
theorem mem_there {l : List En} {k : List UInt8} (h : k ∈ l.map En.path) : (fE l k).there = true := by
  obtain ⟨x, hx⟩ := find_mem h
  rw [fE, hx]
  rfl
theorem fE_not {l : List En} {k : List UInt8} (h : (fE l k).there = false) : fE l k = .no := by
  by_cases hm : k ∈ l.map En.path
  · rw [mem_there hm] at h; cases h
  · exact fE_none hm
theorem fE_mem {es : List En} (h : TreeEs es) {x : En} (hx : x ∈ es) : fE es x.path = ⟨true, x.dir, x.data⟩ := by
  rw [fE, find_rise h.rise hx]
  rfl
theorem fE_eq {l : List En} {k : List UInt8} (h : (fE l k).there = true) : l.find? (fun x => x.path == k) = some ⟨k, (fE l k).dir, (fE l k).data⟩ := by
  obtain ⟨x, hx⟩ := find_mem (there_mem h)
  have h1 := (find_key hx).1
  rw [fE, hx]
  simp only [sideO]
  rw [← h1]
/-- a row is told by its sides -/
theorem row_of_sides {l : List En} (h : RiseP (l.map En.path)) {K : List (List UInt8)} (hK : RiseP K) (hs : ∀ k ∈ l.map En.path, k ∈ K) : (K.filterMap fun k => if (fE l k).there = true then some (⟨k, (fE l k).dir, (fE l k).data⟩ : En) else none) = l := by
  conv => rhs; rw [← row_of_keys h hK hs]
  apply fm_congr
  intro k _
  cases hh : (fE l k).there with
  | true => rw [if_pos rfl, fE_eq hh]
  | false =>
    rw [if_neg (by simp)]
    have : k ∉ l.map En.path := fun hm => by rw [mem_there hm] at hh; cases hh
    rw [find_not this]
theorem outM_key (b o t : List En) : ∀ k c, (fun k => if (finM b o t k).there = true then some (⟨k, (finM b o t k).dir, (finM b o t k).data⟩ : En) else none) k = some c → En.path c = k := by
  intro k c h
  dsimp only at h
  split at h
  · cases h; rfl
  · cases h
theorem outM_rise (b o t : List En) : RiseP ((outM b o t).map En.path) := (sub_rise (keysM_rise b o t) (outM_key b o t)).1
theorem conM_key (b o t : List En) : ∀ k c, (fun k => if badM b o t k = true then some (⟨k, fE b k, fE o k, fE t k⟩ : Cf) else none) k = some c → Cf.path c = k := by
  intro k c h
  dsimp only at h
  split at h
  · cases h; rfl
  · cases h
theorem conM_rise (b o t : List En) : RiseP ((conM b o t).map Cf.path) := (sub_rise (keysM_rise b o t) (conM_key b o t)).1
theorem conM_nil {b o t : List En} : conM b o t = [] ↔ ∀ k ∈ keysM b o t, badM b o t k = false := by
  unfold conM
  rw [List.filterMap_eq_nil_iff]
  constructor
  · intro h k hk
    have := h k hk
    cases hb : badM b o t k with
    | false => rfl
    | true => rw [hb] at this; simp at this
  · intro h k hk
    rw [h k hk]
    simp
/-- what is chosen is one of the three -/
theorem ch0_cases (b o t : Sd) : (chooseS b o t).1 = o ∨ (chooseS b o t).1 = t := by
  unfold chooseS
  split
  · exact .inl rfl
  · split
    · exact .inr rfl
    · exact .inl rfl
theorem ch0_no {b o t : List En} {k : List UInt8} (h : (ch0 b o t k).1.there = false) : (ch0 b o t k).1 = .no := by
  rcases ch0_cases (fE b k) (fE o k) (fE t k) with e | e <;>
  · rw [ch0, e] at h ⊢
    exact fE_not h
theorem ch0_there {b o t : List En} {k : List UInt8} (h : (ch0 b o t k).1.there = true) : k ∈ keysM b o t := by
  rw [keysM_mem]
  rcases ch0_cases (fE b k) (fE o k) (fE t k) with e | e
  · rw [ch0, e] at h
    exact .inr (.inl (there_mem h))
  · rw [ch0, e] at h
    exact .inr (.inr (there_mem h))
/-- the sides of what comes out -/
theorem fin_out {b o t : List En} (k : List UInt8) : fE (outM b o t) k = if k ∈ keysM b o t then finM b o t k else .no := by
  have hfin : (finM b o t k).there = false → finM b o t k = .no := by
    intro h
    unfold finM at h ⊢
    split at h
    · cases h
    · next hh => rw [if_neg hh]; exact ch0_no h
  obtain ⟨h1, h2⟩ := sub_rise (keysM_rise b o t) (outM_key b o t)
  by_cases hk : k ∈ keysM b o t
  · rw [if_pos hk]
    cases hh : (finM b o t k).there with
    | true =>
      have hx : (⟨k, (finM b o t k).dir, (finM b o t k).data⟩ : En) ∈ outM b o t := List.mem_filterMap.2 ⟨k, hk, by simp [hh]⟩
      have h3 := find_rise h1 hx
      rw [fE]
      change sideO ((outM b o t).find? fun z => z.path == k) = _
      rw [show ((outM b o t).find? fun z => z.path == k) = some ⟨k, (finM b o t k).dir, (finM b o t k).data⟩ from h3]
      simp only [sideO]
      conv => rhs; rw [show finM b o t k = ⟨(finM b o t k).there, (finM b o t k).dir, (finM b o t k).data⟩ from rfl, hh]
    | false =>
      rw [hfin hh]
      refine fE_none fun hm => ?_
      have := ((h2 k).1 hm).2
      simp [hh] at this
  · rw [if_neg hk]
    refine fE_none fun hm => hk ((h2 k).1 hm).1
end Go.Proofs.YtjdignaddfhohaaDoor
namespace Go.Proofs.YtjdignaddfhohaaDoor
open Go.RowKit Go.SL

theorem keys_ne {b o t : List En} (hb : TreeEs b) (ho : TreeEs o) (ht : TreeEs t) {k : List UInt8} (hk : k ∈ keysM b o t) : k ≠ [] := by
  rcases keysM_mem.1 hk with h | h | h
  all_goals
    obtain ⟨x, hx, rfl⟩ := List.mem_map.1 h
    first | exact hb.ne x hx | exact ho.ne x hx | exact ht.ne x hx
/-- where each path's side is a tree's, without a conflict, that tree comes out -/
theorem merge_same {b o t y : List En} (hy : TreeEs y) (hne : ∀ k ∈ keysM b o t, k ≠ []) (hs : ∀ k ∈ y.map En.path, k ∈ keysM b o t) (h : ∀ k ∈ keysM b o t, ch0 b o t k = (fE y k, true)) : outM b o t = y ∧ conM b o t = [] := by
  have htr : ∀ k ∈ keysM b o t, trouble b o t k = false := by
    intro k hk
    cases hd : needM b o t k with
    | false => rw [trouble, hd]; rfl
    | true =>
      rw [needM, List.any_eq_true] at hd
      obtain ⟨p, hp, hpb⟩ := hd
      rw [Bool.and_eq_true, h p hp] at hpb
      obtain ⟨x, hx, hxp, hxd⟩ := hy.up p (there_mem hpb.1) k (hne k hk) hpb.2
      have := fE_mem hy hx
      rw [hxp, hxd] at this
      rw [trouble, h k hk, this]
      simp
  have hfin : ∀ k ∈ keysM b o t, finM b o t k = fE y k := by
    intro k hk
    rw [finM, htr k hk, if_neg (by simp), h k hk]
  refine ⟨?_, conM_nil.2 fun k hk => by rw [badM, htr k hk, h k hk]; rfl⟩
  conv => rhs; rw [← row_of_sides hy.rise (keysM_rise b o t) hs]
  unfold outM
  apply fm_congr
  intro k hk
  rw [hfin k hk]
theorem choose_a (b o : Sd) : chooseS b o b = (o, true) := by simp [chooseS]
theorem choose_b (b t : Sd) : chooseS b b t = (t, true) := by
  unfold chooseS
  split
  · next h => rcases h with h | h <;> rw [h]
  · rw [if_pos rfl]
theorem choose_c (b t : Sd) : chooseS b t t = (t, true) := by simp [chooseS]
/-- what one side alone did is done -/
theorem merge_one {b y : List En} (hb : TreeEs b) (hy : TreeEs y) :
    (outM b y b = y ∧ conM b y b = []) ∧ (outM b b y = y ∧ conM b b y = []) ∧ (outM b y y = y ∧ conM b y y = []) := by
  refine ⟨merge_same hy (fun k hk => keys_ne hb hy hb hk) (fun k hk => keysM_mem.2 (.inr (.inl hk))) fun k _ => choose_a _ _,
    merge_same hy (fun k hk => keys_ne hb hb hy hk) (fun k hk => keysM_mem.2 (.inr (.inr hk))) fun k _ => choose_b _ _,
    merge_same hy (fun k hk => keys_ne hb hy hy hk) (fun k hk => keysM_mem.2 (.inr (.inl hk))) fun k _ => choose_c _ _⟩
theorem keys_swap (b o t : List En) : keysM b t o = keysM b o t := riseP_ext (keysM_rise _ _ _) (keysM_rise _ _ _) fun k => by
  rw [keysM_mem, keysM_mem]
  constructor <;> (rintro (h | h | h) <;> simp [h])
theorem choose_swap {b o t : Sd} (h : (chooseS b o t).2 = true) : chooseS b t o = chooseS b o t := by
  unfold chooseS at h ⊢
  by_cases h1 : o = t
  · subst h1; rfl
  · by_cases h2 : t = b
    · subst h2
      rw [if_pos (show o = t ∨ t = t from .inr rfl)]
      by_cases h3 : o = t
      · exact absurd h3 h1
      · rw [if_neg (by rintro (h | h); exact h3 h.symm; exact h3 h), if_pos rfl]
    · by_cases h3 : o = b
      · subst h3
        rw [if_pos (.inr rfl), if_neg (by rintro (h | h); exact h1 h; exact h2 h), if_pos rfl]
      · rw [if_neg (by rintro (h | h); exact h1 h; exact h2 h), if_neg h3] at h
        cases h
/-- without conflicts it does not matter which one is ours -/
theorem merge_swap {b o t : List En} (h : conM b o t = []) : outM b t o = outM b o t ∧ conM b t o = [] := by
  rw [conM_nil] at h
  have h2 : ∀ k ∈ keysM b o t, (ch0 b o t k).2 = true := fun k hk => by
    have := h k hk
    rw [badM, Bool.or_eq_false_iff] at this
    simpa using this.2
  have hc : ∀ k ∈ keysM b o t, ch0 b t o k = ch0 b o t k := fun k hk => choose_swap (h2 k hk)
  have hneed : ∀ k, needM b t o k = needM b o t k := by
    intro k
    unfold needM
    rw [keys_swap]
    have : ∀ l : List (List UInt8), (∀ p ∈ l, p ∈ keysM b o t) → (l.any fun p => (ch0 b t o p).1.there && belowP p k) = l.any fun p => (ch0 b o t p).1.there && belowP p k := by
      intro l
      induction l with
      | nil => intro _; rfl
      | cons p l ih =>
        intro hl
        rw [List.any_cons, List.any_cons, hc p (hl p (by simp)), ih fun q hq => hl q (by simp [hq])]
    exact this _ fun p hp => hp
  have htr : ∀ k ∈ keysM b o t, trouble b t o k = trouble b o t k := fun k hk => by rw [trouble, trouble, hneed, hc k hk]
  have hfin : ∀ k ∈ keysM b o t, finM b t o k = finM b o t k := fun k hk => by rw [finM, finM, htr k hk, hc k hk]
  refine ⟨?_, conM_nil.2 fun k hk => ?_⟩
  · unfold outM
    rw [keys_swap]
    apply fm_congr
    intro k hk
    rw [hfin k hk]
  · rw [keys_swap] at hk
    have := h k hk
    rw [badM] at this ⊢
    rw [htr k hk, hc k hk]
    exact this
/-- without conflicts the sides that come out are those that were chosen -/
theorem fin_clean {b o t : List En} (h : conM b o t = []) (k : List UInt8) : fE (outM b o t) k = (ch0 b o t k).1 := by
  rw [fin_out]
  by_cases hk : k ∈ keysM b o t
  · have := conM_nil.1 h k hk
    rw [badM, Bool.or_eq_false_iff] at this
    rw [if_pos hk, finM, this.1, if_neg (by simp)]
  · rw [if_neg hk]
    cases hh : (ch0 b o t k).1.there with
    | true => exact absurd (ch0_there hh) hk
    | false => exact (ch0_no hh).symm
theorem choose_twice {b o t : Sd} (h : (chooseS b o t).2 = true) : chooseS b (chooseS b o t).1 t = ((chooseS b o t).1, true) ∧ chooseS b (chooseS b o t).1 o = ((chooseS b o t).1, true) := by
  unfold chooseS at h ⊢
  by_cases h1 : o = t
  · subst h1
    simp
  · by_cases h2 : t = b
    · subst h2
      simp [h1]
    · by_cases h3 : o = b
      · subst h3
        simp [h1, h2]
      · rw [if_neg (by rintro (h | h); exact h1 h; exact h2 h), if_neg h3] at h
        cases h
/-- what was merged is merged -/
theorem merge_twice {b o t : List En} (hb : TreeEs b) (ho : TreeEs o) (ht : TreeEs t) (hn : TreeEs (outM b o t)) (h : conM b o t = []) :
    (outM b (outM b o t) t = outM b o t ∧ conM b (outM b o t) t = []) ∧ (outM b (outM b o t) o = outM b o t ∧ conM b (outM b o t) o = []) := by
  have h2 : ∀ k, (ch0 b o t k).2 = true := fun k => by
    by_cases hk : k ∈ keysM b o t
    · have := conM_nil.1 h k hk
      rw [badM, Bool.or_eq_false_iff] at this
      simpa using this.2
    · have hm : ¬ (k ∈ b.map En.path ∨ k ∈ o.map En.path ∨ k ∈ t.map En.path) := fun hh => hk (keysM_mem.2 hh)
      rw [ch0, fE_none fun hh => hm (.inr (.inl hh)), fE_none fun hh => hm (.inr (.inr hh))]
      simp [chooseS]
  refine ⟨merge_same hn (fun k hk => keys_ne hb hn ht hk) (fun k hk => keysM_mem.2 (.inr (.inl hk))) fun k _ => ?_,
    merge_same hn (fun k hk => keys_ne hb hn ho hk) (fun k hk => keysM_mem.2 (.inr (.inl hk))) fun k _ => ?_⟩
  · rw [ch0, fin_clean h]
    exact (choose_twice (h2 k)).1
  · rw [ch0, fin_clean h]
    exact (choose_twice (h2 k)).2
/-- what is built of rising entries has them -/
theorem build_out {L : List En} (hr : RiseP (L.map En.path)) (h0 : (buildT L).1 = 0) : Tr.Wf 6 (buildT L).2 ∧ entT 6 [] (buildT L).2 = L := by
  obtain ⟨hG, hL⟩ := (build_same L).2 h0
  rw [hL] at hG
  refine ⟨hG.2.1, ?_⟩
  have hp := all_perm hG
  have hr2 := ent_rise hG.2.1
  have hK := sortK_rise (L.map En.path)
  have e1 := row_of_keys hr hK (fun k hk => sortK_mem.2 hk)
  have e2 := row_of_keys hr2 hK (fun k hk => sortK_mem.2 ((hp.map En.path).mem_iff.1 hk))
  refine e2.symm.trans (Eq.trans ?_ e1)
  apply fm_congr
  intro k hk
  obtain ⟨x, hx⟩ := find_mem (f := En.path) (sortK_mem.1 hk)
  obtain ⟨h1, h2⟩ := find_key hx
  rw [hx]
  have h3 := find_rise hr2 (hp.mem_iff.2 h2)
  rw [h1] at h3
  exact h3
/-- a path's side in a merged tree -/
theorem side_of {b o t : List En} {s : List UInt8} (hs : s ∈ keysM b o t) :
    (badM b o t s = true → fE (outM b o t) s = fE o s ∨ fE (outM b o t) s = ⟨true, true, []⟩) ∧
    (badM b o t s = false → (fE b s = fE o s → fE (outM b o t) s = fE t s) ∧ (fE b s = fE t s → fE (outM b o t) s = fE o s) ∧ (fE b s = fE o s ∨ fE b s = fE t s ∨ fE o s = fE t s)) := by
  rw [fin_out, if_pos hs, finM, badM]
  cases ht : trouble b o t s with
  | true => exact ⟨fun _ => .inr (by rw [if_pos rfl]), fun h => by simp at h⟩
  | false =>
    rw [if_neg (by simp)]
    refine ⟨fun h => .inl ?_, fun h => ?_⟩
    · simp only [Bool.false_or, Bool.not_eq_true'] at h
      rw [ch0] at h ⊢
      unfold chooseS at h ⊢
      split at h
      · cases h
      · split at h
        · cases h
        · next h1 h2 => rw [if_neg h1, if_neg h2]
    · simp only [Bool.false_or, Bool.not_eq_false'] at h
      rw [ch0] at h ⊢
      unfold chooseS at h ⊢
      by_cases h1 : fE o s = fE t s ∨ fE t s = fE b s
      · rw [if_pos h1]
        refine ⟨fun e => ?_, fun _ => rfl, ?_⟩
        · rcases h1 with h1 | h1
          · exact h1
          · rw [← e, ← h1]
        · rcases h1 with h1 | h1
          · exact .inr (.inr h1)
          · exact .inr (.inl h1.symm)
      · rw [if_neg h1] at h ⊢
        split at h
        · next h2 => rw [if_pos h2]; exact ⟨fun _ => rfl, fun e => absurd (.inr e.symm) h1, .inl h2.symm⟩
        · cases h
theorem out_keys {b o t : List En} {k : List UInt8} (h : k ∈ (outM b o t).map En.path) : k ∈ keysM b o t := ((sub_rise (keysM_rise b o t) (outM_key b o t)).2 k).1 h |>.1
theorem con_mem {b o t : List En} {c : Cf} : c ∈ conM b o t ↔ c.path ∈ keysM b o t ∧ badM b o t c.path = true ∧ c = ⟨c.path, fE b c.path, fE o c.path, fE t c.path⟩ := by
  unfold conM
  rw [List.mem_filterMap]
  constructor
  · rintro ⟨k, hk, h⟩
    split at h
    · next hb => cases h; exact ⟨hk, hb, rfl⟩
    · cases h
  · rintro ⟨h1, h2, h3⟩
    exact ⟨c.path, h1, by rw [if_pos h2]; exact congrArg some h3.symm⟩
end Go.Proofs.YtjdignaddfhohaaDoor
namespace Go.Proofs.YtjdignaddfhohaaDoor


variable {P : Program} {md : Region.Mode} {ops : Array Oper} {Q : Exit → Act → World → Prop} {S : World → Prop}
theorem takeW (i : Nat) (oi : Oper) (v : Value) {fuel : Nat} {listed : Array Bool} {a : Act} {w : World} (hy : YieldsIf P ops S oi v a) (hS : S w) (h : wpAnyH P md ops Q S fuel (listed.setIfInBounds i true) (a.put oi.dst v) w)
    (hi : ops[i]? = some oi := by rfl) (hs : Region.noSelect ops = true := by kernel_rfl) (hf : Region.free md ops listed i = true := by kernel_rfl) (hr : (Region.ready md ops listed).contains i = true := by kernel_rfl)
    (hQ : ∀ c a w, Q (.panic c) (a.put oi.dst v) w → Q (.panic c) a w := by exact fun _ _ _ h => h) : wpAnyH P md ops Q S (fuel + 1) listed a w :=
  wpAnyH_take hi hs hf hr hQ hy hS h
theorem sz {α : Type} (a : α) (xs : List α) (n : Nat) (x : α) : (a :: xs).set (n + 1) x = a :: xs.set n x := rfl
theorem s0 {α : Type} (a : α) (xs : List α) (x : α) : (a :: xs).set 0 x = x :: xs := rfl
theorem sb {α : Type} (xs : List α) (n : Nat) (x : α) : xs.toArray.setIfInBounds n x = (xs.set n x).toArray := by simp
end Go.Proofs.YtjdignaddfhohaaDoor
namespace Go.SL
section
variable {P : Program} {ops : Array Oper} {rest : List Oper} {o : Oper} {a : Act} {Q : Exit → Act → World → Prop} {w : World} {l : List HProp}

/-- entries with these keys and values -/
def entsOf (ik : IntKind) (kvs : List (Int × Value)) (es : List MapEntry) : Prop := es.map (fun e => (e.key, e.val)) = kvs.map fun p => (.int ik p.1, p.2)
def mapI (r : Nat) (ik : IntKind) (kvs : List (Int × Value)) : HProp := ex fun x : { x : List MapEntry × Nat // entsOf ik kvs x.1 } => [pt r (.map x.1.1.toArray x.1.2)]
def lookI (kvs : List (Int × Value)) (n : Int) (z : Value) : Value := match kvs.find? (fun p => n == p.1) with | some p => p.2 | none => z

theorem findNow_new (ik : IntKind) (n : Int) : ∀ (kvs : List (Int × Value)) (es : List MapEntry) (i : Nat), entsOf ik kvs es → (kvs.all fun p => !(n == p.1)) = true → Instr.findNow (.int ik) (.int ik n) es i = some none
  | [], es, i, h, _ => by
    have : es = [] := by simpa [entsOf] using h
    subst this
    rfl
  | p :: kvs, [], i, h, _ => by simp [entsOf] at h
  | p :: kvs, e :: es, i, h, hn => by
    simp only [entsOf, List.map_cons, List.cons.injEq, Prod.mk.injEq] at h
    simp only [List.all_cons, Bool.and_eq_true, Bool.not_eq_true'] at hn
    unfold Instr.findNow
    rw [h.1.1]
    simp only [Instr.sameNow, if_true, hn.1]
    exact findNow_new ik n kvs es (i + 1) h.2 hn.2
theorem findNow_old (ik : IntKind) (n : Int) : ∀ (kvs : List (Int × Value)) (es : List MapEntry) (i : Nat) (p : Int × Value), entsOf ik kvs es → kvs.find? (fun p => n == p.1) = some p → ∃ j, Instr.findNow (.int ik) (.int ik n) es i = some (some (j, p.2))
  | [], es, i, p, h, hf => by simp at hf
  | q :: kvs, [], i, p, h, _ => by simp [entsOf] at h
  | q :: kvs, e :: es, i, p, h, hf => by
    simp only [entsOf, List.map_cons, List.cons.injEq, Prod.mk.injEq] at h
    unfold Instr.findNow
    rw [h.1.1]
    simp only [Instr.sameNow, if_true]
    cases hq : (n == q.1) with
    | true =>
      simp only [List.find?_cons, hq] at hf
      cases hf
      exact ⟨i, by rw [h.1.2]⟩
    | false =>
      simp only [List.find?_cons, hq] at hf
      exact findNow_old ik n kvs es (i + 1) p h.2 hf

theorem wpl_makeMapI (hE : Ent l w) {t : TypeId} (ik : IntKind) (ho : o.op = .makeMap t none) (hw : Region.wanted o (yielded ops a.tmps) = true)
    (h : ∀ r w', Ent (mapI r ik [] :: l) w' → wpList P ops Q rest (a.put o.dst (.map (some r))) w') : wpList P ops Q (o :: rest) a w :=
  wpl_makeMap hE ho hw fun r w' hE' => h r w' (Ent.pack ⟨([], 0), rfl⟩ hE')

theorem wpl_insertI (hE : Ent l w) (i : Nat) {r : Nat} {ik : IntKind} {kvs : List (Int × Value)} (hi : l[i]? = some (mapI r ik kvs))
    {t kt et : TypeId} {x y z : Operand} (ho : o.op = .insert t x y z) (hw : Region.wanted o (yielded ops a.tmps) = true) (hx : a.eval x = .map (some r)) {n : Int} (hy : a.eval y = .int ik n) {v : Value} (hz : a.eval z = v)
    (ht : P.underlying t = some (.map kt et)) (hk : P.underlying kt = some (.int ik)) (hnew : (kvs.all fun p => !(n == p.1)) = true)
    (h : ∀ w', Ent (l.set i (mapI r ik (kvs ++ [(n, v)]))) w' → wpList P ops Q rest (a.put o.dst undef) w') : wpList P ops Q (o :: rest) a w := by
  obtain ⟨⟨⟨es, c⟩, he⟩, hE1⟩ := Ent.unpack (hE.front i hi)
  refine wpl_insert hE1 0 rfl ho hw hx hy hz ht hk (findNow_new ik n kvs es 0 he hnew) fun w' hE' => h w' ?_
  refine Ent.put ?_ (List.getElem?_eq_some_iff.1 hi).1
  refine Ent.pack ⟨(es ++ [mEnt (.int ik n) v c], c + 1), ?_⟩ hE'
  unfold entsOf at he ⊢
  simp only [List.map_append, he, List.map_cons, List.map_nil]

theorem wpl_lookupI (hE : Ent l w) (i : Nat) {r : Nat} {ik : IntKind} {kvs : List (Int × Value)} (hi : l[i]? = some (mapI r ik kvs))
    {t kt et : TypeId} {x y : Operand} (ho : o.op = .lookup t x y false) (hw : Region.wanted o (yielded ops a.tmps) = true) (hx : a.eval x = .map (some r)) {n : Int} (hy : a.eval y = .int ik n)
    (ht : P.underlying t = some (.map kt et)) (hk : P.underlying kt = some (.int ik)) {z : Value} (hz : ∀ w, (zeroValue et).run P w = .ok z w)
    (h : wpList P ops Q rest (a.put o.dst (lookI kvs n z)) w) : wpList P ops Q (o :: rest) a w := by
  obtain ⟨⟨⟨es, c⟩, he⟩, hE1⟩ := Ent.unpack (hE.front i hi)
  unfold lookI at h
  cases hf : kvs.find? (fun p => n == p.1) with
  | some p =>
    rw [hf] at h
    obtain ⟨j, hj⟩ := findNow_old ik n kvs es 0 p he hf
    exact wpl_lookup hE1 0 rfl ho hw hx hy ht hk hj h
  | none =>
    rw [hf] at h
    refine wpl_lookupNot hE1 0 rfl ho hw hx hy ht hk hz (findNow_new ik n kvs es 0 he ?_) h
    rw [List.all_eq_true]
    intro p hp
    have := List.find?_eq_none.1 hf p hp
    simpa using this
end
attribute [irreducible] mapI
end Go.SL
namespace Go.SL
section
variable {P : Program} {w : World} {l : List HProp}

theorem run_copyAt (dT sT ty elem : TypeId) (g off dLen dCap : Nat) (ys : List UInt8) (cur : Array Value) (t : TypeId)
    (hu : P.underlying dT = some (.slice elem)) (hs : (P.info? elem).map (·.size) = some 1) (hg : w.heap[g]? = some (.cells cur t (0, 0))) (hy : ys.length ≤ dLen) (hfit : off + dLen ≤ cur.size) :
    (Builtin.copy_ #[dT, sT] ty #[.slice (some ⟨g, off, none⟩) dLen dCap, .string ⟨ys.toArray⟩]).run P w =
      .ok (goInt (ys.length : Nat)) (w.setRow g (cur.toList.take off ++ (ys.map fun b => Value.int .u8 b.toNat) ++ cur.toList.drop (off + ys.length)).toArray) := by
  have h1 : ∀ u ∈ (ys.map fun b => Value.int .u8 (b.toNat : Int)), u.oneCell' = true := by
    intro v hv
    simp only [List.mem_map] at hv
    obtain ⟨b, _, rfl⟩ := hv
    rfl
  have hst := run_storeCells_at P g off t (ys.map fun b => Value.int .u8 (b.toNat : Int)) 0 cur w hg (by rw [List.length_map]; omega) h1
  rw [List.length_map] at hst
  simp only [Nat.add_zero] at hst
  have hsz : (ByteArray.mk ys.toArray).size = ys.length := by simp [ByteArray.size]
  have hmin : Nat.min ys.length dLen = ys.length := Nat.min_eq_left hy
  cases hq : P.info? elem with
  | none => simp [hq] at hs
  | some i =>
    have htk : List.take ys.length (List.map (fun b : UInt8 => Value.int IntKind.u8 (b.toNat : Int)) ys) = ys.map fun b => Value.int .u8 (b.toNat : Int) := List.take_of_length_le (by simp)
    simp [Builtin.copy_, run_underlying hu, Builtin.lenOf, Builtin.firstCells, sizeOf, typeInfo, hq, hsz, hmin]
    rw [htk, hst]
    simp [Result.andThen]

theorem wpl_copyAt {ops : Array Oper} {rest : List Oper} {o : Oper} {a : Act} {Q : Exit → Act → World → Prop} (hE : Ent l w) (i : Nat) {g off : Nat} {cur : List Value} {T : TypeId} (hi : l[i]? = some (pt g (.cells cur.toArray T (0, 0))))
    {d s : Operand} {dT sT elem : TypeId} (ho : o.op = .call { callee := .builtin .copy, args := #[d, s], argTypes := #[dT, sT] }) (hw : Region.wanted o (yielded ops a.tmps) = true)
    {dLen dCap : Nat} (hd : a.eval d = .slice (some ⟨g, off, none⟩) dLen dCap) {ys : List UInt8} (hy : a.eval s = .string ⟨ys.toArray⟩)
    (hu : P.underlying dT = some (.slice elem)) (hs : (P.info? elem).map (·.size) = some 1) (hle : ys.length ≤ dLen) (hfit : off + dLen ≤ cur.length)
    {xs : List Value} (hx : cur.take off ++ (ys.map fun b => Value.int .u8 b.toNat) ++ cur.drop (off + ys.length) = xs)
    (h : ∀ w', Ent (l.set i (pt g (.cells xs.toArray T (0, 0)))) w' → wpList P ops Q rest (a.put o.dst (goInt ys.length)) w') : wpList P ops Q (o :: rest) a w := by
  have hr := run_copyAt (P := P) (w := w) dT sT o.type elem g off dLen dCap ys cur.toArray T hu hs (hE.at i hi) hle (by simpa using hfit)
  simp only [List.toList_toArray, hx] at hr
  refine wpl_run hw (w' := w.setRow g xs.toArray) (v := goInt ys.length) ?_ (h _ (hE.setRow i hi _))
  simp [execOp, ho, resolve, invoke, builtin, hd, hy, hr]
end
end Go.SL
namespace Go.SL
section
variable {P : Program} {w : World} {l : List HProp}

/-- a cell's value -/
theorem cellM {b : Nat} {cs : Array Value} {T : TypeId} {fz : Nat × Nat} (h : Ent l w) (hm : pt b (.cells cs T fz) ∈ l) (off : Nat) : w.cell? ⟨b, off, none⟩ = cs[off]? := by
  obtain ⟨i, hi⟩ := List.getElem?_of_mem hm
  exact h.cell i hi off
theorem cellV {b : Nat} {cs : Array Value} {T : TypeId} {fz : Nat × Nat} (h : Ent l w) (hm : pt b (.cells cs T fz) ∈ l) {off : Nat} {v : Value} (hv : cs[off]? = some v) : w.cell? ⟨b, off, none⟩ = some v := (cellM h hm off).trans hv
theorem frozenM {b : Nat} {cs : Array Value} {T : TypeId} (h : Ent l w) (hm : pt b (.cells cs T (0, 0)) ∈ l) (off : Nat) : w.frozen? ⟨b, off, none⟩ = false := by
  obtain ⟨i, hi⟩ := List.getElem?_of_mem hm
  exact h.frozen i hi off
theorem atVm {b : Nat} {cs : Array Value} {T : TypeId} {fz : Nat × Nat} (h : Ent l w) (hm : pt b (.cells cs T fz) ∈ l) {t : TypeId} (hA : ∀ w, (isAgg t).run P w = .ok false w) {off : Nat} {v : Value} (hv : cs[off]? = some v) :
    (Instr.loadAt t (.pointer (some ⟨b, off, none⟩))).run P w = .ok v w := by
  obtain ⟨i, hi⟩ := List.getElem?_of_mem hm
  exact run_load1 h i hi hA hv
theorem atAm {b : Nat} {cs : Array Value} {T : TypeId} {fz : Nat × Nat} (h : Ent l w) (hm : pt b (.cells cs T fz) ∈ l) {t : TypeId} (hA : ∀ w, (isAgg t).run P w = .ok true w) {n : Nat} (hn : ∀ w, (Go.sizeOf t).run P w = .ok n w) {off : Nat} {vs : List Value} (hl : vs.length = n) (hv : ∀ j, j < n → cs[off + j]? = vs[j]?) :
    (Instr.loadAt t (.pointer (some ⟨b, off, none⟩))).run P w = .ok (.agg vs.toArray) w := by
  obtain ⟨i, hi⟩ := List.getElem?_of_mem hm
  exact run_loadA h i hi hA hn hl hv
/-- the whole of a block -/
theorem atWm {b : Nat} {vs : List Value} {T : TypeId} {fz : Nat × Nat} (h : Ent l w) (hm : pt b (.cells vs.toArray T fz) ∈ l) {t : TypeId} (hA : ∀ w, (isAgg t).run P w = .ok true w) {n : Nat} (hn : ∀ w, (Go.sizeOf t).run P w = .ok n w) (hl : vs.length = n) :
    (Instr.loadAt t (.pointer (some ⟨b, 0, none⟩))).run P w = .ok (.agg vs.toArray) w := atAm h hm hA hn hl (fun j _ => by simp)
/-- the same, the place found by the lemma's own tactic -/
theorem atVq {b : Nat} {cs : Array Value} {T : TypeId} {fz : Nat × Nat} (h : Ent l w) {t : TypeId} {off : Nat} {v : Value}
    (hm : pt b (.cells cs T fz) ∈ l := by repeat (first | exact List.Mem.head _ | refine List.Mem.tail _ ?_)) (hA : ∀ w, (isAgg t).run P w = .ok false w := by simp [go_sem]) (hv : cs[off]? = some v := by rfl) :
    (Instr.loadAt t (.pointer (some ⟨b, off, none⟩))).run P w = .ok v w := atVm h hm hA hv
theorem atWq {b : Nat} {vs : List Value} {T : TypeId} {fz : Nat × Nat} (h : Ent l w) {t : TypeId} (hA : ∀ w, (isAgg t).run P w = .ok true w) {n : Nat} (hn : ∀ w, (Go.sizeOf t).run P w = .ok n w)
    (hm : pt b (.cells vs.toArray T fz) ∈ l := by repeat (first | exact List.Mem.head _ | refine List.Mem.tail _ ?_)) (hl : vs.length = n := by rfl) :
    (Instr.loadAt t (.pointer (some ⟨b, 0, none⟩))).run P w = .ok (.agg vs.toArray) w := atWm h hm hA hn hl
theorem cellVq {b : Nat} {cs : Array Value} {T : TypeId} {fz : Nat × Nat} (h : Ent l w) {off : Nat} {v : Value} (hm : pt b (.cells cs T fz) ∈ l := by repeat (first | exact List.Mem.head _ | refine List.Mem.tail _ ?_)) (hv : cs[off]? = some v := by rfl) : w.cell? ⟨b, off, none⟩ = some v := cellV h hm hv
/-- one cell of memory that is known by a fact on cells -/
theorem atCell {ad : Addr} {v : Value} (h : w.cell? ad = some v) {t : TypeId} (hA : ∀ w, (isAgg t).run P w = .ok false w) : (Instr.loadAt t (.pointer (some ad))).run P w = .ok v w := by
  simp [Instr.loadAt, Instr.sureAddr, loadVar, hA, h]
/-- some cells of memory that are known by facts on cells -/
theorem atCells {t : TypeId} (hA : ∀ w, (isAgg t).run P w = .ok true w) {n : Nat} (hn : ∀ w, (Go.sizeOf t).run P w = .ok n w) {ad : Addr} (vs : List Value) (hl : vs.length = n) (hc : ∀ j v, vs[j]? = some v → w.cell? (ad.add j) = some v) :
    (Instr.loadAt t (.pointer (some ad))).run P w = .ok (.agg vs.toArray) w := by
  have hr := run_loadCells_list (P := P) w ad vs hc
  subst hl
  simp [Instr.loadAt, Instr.sureAddr, loadVar, hA, hn, hr]
/-- what stands behind -/
theorem Ent.suf {l' : List HProp} (h : Ent l w) (hs : l' <:+ l) : Ent l' w := by
  obtain ⟨m, rfl⟩ := hs
  exact h.drop
theorem Knows.suf {l' : List HProp} {p : World → Prop} (h : Knows l' p) (hs : l' <:+ l) : Knows l p := fun _ hw => h _ (hw.suf hs)
/-- a suffix, found by the shape of the list -/
instance sfxC {l m n : List HProp} [h : Nonempty (l <:+ m)] : Nonempty (l <:+ n ++ m) := h.elim fun h => ⟨h.trans (List.suffix_append _ _)⟩
instance sfxB {l m : List HProp} {a : HProp} [h : Nonempty (l <:+ m)] : Nonempty (l <:+ a :: m) := h.elim fun h => ⟨h.trans (List.suffix_cons _ _)⟩
instance sfxA {l : List HProp} : Nonempty (l <:+ l) := ⟨List.suffix_refl _⟩
theorem sfx {l m : List HProp} [h : Nonempty (l <:+ m)] : l <:+ m := h.elim fun h => h
section
variable {ops : Array Oper} {o : Oper} {a : Act} {K : Act → World → Prop} {Q : Exit → Act → World → Prop} {E : Prop}
/-- a cell loaded, as one step of a region that draws -/
theorem step_load1 (hE : Ent l w) (i : Nat) {b : Nat} {cs : Array Value} {T : TypeId} {fz : Nat × Nat} (hi : l[i]? = some (pt b (.cells cs T fz))) {t : TypeId} {x : Operand} (ho : o.op = .load t x) (hw : Region.wanted o (yielded ops a.tmps) = true)
    {off : Nat} (hx : a.eval x = .pointer (some ⟨b, off, none⟩)) (hA : ∀ w, (isAgg t).run P w = .ok false w) {v : Value} (hv : cs[off]? = some v) (h : K (a.put o.dst v) w) : if Region.wanted o (yielded ops a.tmps) = true then Oper.wp P o a w K Q else E := by
  rw [if_pos hw]
  have hr : (execOp a.eval o).run P w = .ok (.value v) w := by simp [execOp, ho, hx, run_load1 hE i hi hA hv]
  simp only [Oper.wp, hr, Oper.upon]
  exact h
/-- a whole value written over the whole of a block, as one step of a region that draws -/
theorem step_storeW (hE : Ent l w) (i : Nat) {b : Nat} {cs : Array Value} {T : TypeId} (hi : l[i]? = some (pt b (.cells cs T (0, 0))))
    {t : TypeId} {x y : Operand} (ho : o.op = .store t x y) (hw : Region.wanted o (yielded ops a.tmps) = true)
    (hx : a.eval x = .pointer (some ⟨b, 0, none⟩)) {xs : List Value} (hy : a.eval y = .agg xs.toArray) {n : Nat} (hn : ∀ w, (Go.sizeOf t).run P w = .ok n w) (hc : xs.length = n)
    (h1 : ∀ u ∈ xs, u.oneCell' = true) (hfit : cs.size = n)
    (h : ∀ w', Ent (l.set i (pt b (.cells xs.toArray T (0, 0)))) w' → K (a.put o.dst undef) w') : if Region.wanted o (yielded ops a.tmps) = true then Oper.wp P o a w K Q else E := by
  rw [if_pos hw]
  have hr := run_storeV (P := P) hE i hi (t := t) (v := .agg xs.toArray) hn (by simpa [Value.cells] using hc) (by simpa [Value.cells] using h1) (off := 0) (by omega)
  have e : (cs.toList.take 0 ++ (Value.agg xs.toArray).cells.toList ++ cs.toList.drop (0 + (Value.agg xs.toArray).cells.toList.length)).toArray = xs.toArray := by
    simp [Value.cells, hc, ← hfit]
  rw [e] at hr
  have hx2 : (execOp a.eval o).run P w = .ok .skip (w.setRow b xs.toArray) := by simp [execOp, ho, hx, hy, hr]
  simp only [Oper.wp, hx2, Oper.upon]
  exact h _ (hE.setRow i hi xs.toArray)
end
/-- a counter of a loop -/
def CntRel (n : Nat) (l : List HProp) (i : Value) (wr : World) : Prop := ∃ k : Nat, k ≤ n ∧ i = .int .i64 k ∧ Ent l wr
theorem cat2 (a b : List UInt8) (h : a.length + b.length ≤ 1099511627776) : ∃ p : List UInt8, p = a ++ b ∧ (⟨a.toArray⟩ : ByteArray) ++ ⟨b.toArray⟩ = ⟨p.toArray⟩ ∧ ¬ (9223372036854775807 < a.length + b.length) :=
  ⟨a ++ b, rfl, bytes_join a b, by omega⟩
end
end Go.SL

namespace Go.Proofs.YtjdignaddfhohaaDoor
open Go.RowKit Go.SL
section
variable {P : Program} {md : Region.Mode} {ops : Array Oper} {Q : Exit → Act → World → Prop} {S : World → Prop}
/-- taken, its value found by a walk's simp -/
theorem tV (i : Nat) {oi : Oper} {v : Value} {fuel : Nat} {listed : Array Bool} {a a' : Act} {w : World} (hS : S w) (h : wpAnyH P md ops Q S fuel (listed.setIfInBounds i true) a' w)
    (hi : ops[i]? = some oi := by (simp only [List.getElem?_toArray, List.getElem?_cons_succ, List.getElem?_cons_zero]; rfl))
    (hw : Region.wanted oi (yielded ops a.tmps) = true := by rfl)
    (hy : ∀ w, S w → (execOp a.eval oi).run P w = .ok (.value v) w := by intro _ _; go_simp; (try with_reducible rfl))
    (ha : a.put oi.dst v = a' := by first | (simp only [Act.put, sb, s0, sz]; rfl) | rfl)
    (hs : Region.noSelect ops = true := by kernel_rfl) (hf : Region.free md ops listed i = true := by kernel_rfl) (hr : (Region.ready md ops listed).contains i = true := by kernel_rfl)
    (hQ : ∀ c a w, Q (.panic c) (a.put oi.dst v) w → Q (.panic c) a w := by exact fun _ _ _ h => h) : wpAnyH P md ops Q S (fuel + 1) listed a w := by
  subst ha
  exact takeW i oi v (.inl ⟨hw, hy⟩) hS h hi hs hf hr hQ
/-- taken, its value found by what is held of the world -/
theorem tL (i : Nat) {oi : Oper} {v : Value} {fuel : Nat} {listed : Array Bool} {a a' : Act} {w : World} (hS : S w) (h : wpAnyH P md ops Q S fuel (listed.setIfInBounds i true) a' w)
    (hi : ops[i]? = some oi := by (simp only [List.getElem?_toArray, List.getElem?_cons_succ, List.getElem?_cons_zero]; rfl))
    (hw : Region.wanted oi (yielded ops a.tmps) = true := by rfl)
    (hy : ∀ w, S w → (execOp a.eval oi).run P w = .ok (.value v) w := by intro w hSw; (try dsimp only at hSw); go_simp; (try with_reducible rfl))
    (ha : a.put oi.dst v = a' := by first | (simp only [Act.put, sb, s0, sz]; rfl) | rfl)
    (hs : Region.noSelect ops = true := by kernel_rfl) (hf : Region.free md ops listed i = true := by kernel_rfl) (hr : (Region.ready md ops listed).contains i = true := by kernel_rfl)
    (hQ : ∀ c a w, Q (.panic c) (a.put oi.dst v) w → Q (.panic c) a w := by exact fun _ _ _ h => h) : wpAnyH P md ops Q S (fuel + 1) listed a w := by
  subst ha
  exact takeW i oi v (.inl ⟨hw, hy⟩) hS h hi hs hf hr hQ
/-- the one operation that may come next is carried out by hand; and the way back -/
theorem tO (i : Nat) {oi : Oper} {fuel : Nat} {listed : Array Bool} {a : Act} {w : World}
    (h : ∀ K' : Act → World → Prop, Shut (∀ a w, S w → (S w → wpAnyH P md ops Q S fuel (listed.setIfInBounds i true) a w) → K' a w) → if Region.wanted oi (yielded ops a.tmps) = true then Oper.wp P oi a w K' Q else K' (a.put oi.dst undef) w)
    (hi : ops[i]? = some oi := by (simp only [List.getElem?_toArray, List.getElem?_cons_succ, List.getElem?_cons_zero]; rfl)) (hr : Region.ready md ops listed = [i] := by kernel_rfl) : wpAnyH P md ops Q S (fuel + 1) listed a w :=
  wpAnyH_ready hr (by simp) (AllReadyH.cons hi h AllReadyH.nil)
theorem tK {W K : Act → World → Prop} (hK : Shut (∀ a w, S w → (S w → W a w) → K a w)) {a a' : Act} {w : World} (hS : S w) (h : S w → W a' w) (ha : a = a' := by first | (simp only [Act.put, sb, s0, sz]; rfl) | rfl) : K a w := by
  subst ha
  exact hK.out _ _ hS h
/-- passed over -/
theorem tU (i : Nat) {oi : Oper} {fuel : Nat} {listed : Array Bool} {a a' : Act} {w : World} (hS : S w) (h : wpAnyH P md ops Q S fuel (listed.setIfInBounds i true) a' w)
    (hi : ops[i]? = some oi := by (simp only [List.getElem?_toArray, List.getElem?_cons_succ, List.getElem?_cons_zero]; rfl))
    (hw : Region.wanted oi (yielded ops a.tmps) = false := by rfl)
    (ha : a.put oi.dst undef = a' := by first | (simp only [Act.put, sb, s0, sz]; rfl) | rfl)
    (hs : Region.noSelect ops = true := by kernel_rfl) (hf : Region.free md ops listed i = true := by kernel_rfl) (hr : (Region.ready md ops listed).contains i = true := by kernel_rfl)
    (hQ : ∀ c a w, Q (.panic c) (a.put oi.dst undef) w → Q (.panic c) a w := by exact fun _ _ _ h => h) : wpAnyH P md ops Q S (fuel + 1) listed a w := by
  subst ha
  exact takeW i oi undef (.inr ⟨hw, rfl⟩) hS h hi hs hf hr hQ
end
end Go.Proofs.YtjdignaddfhohaaDoor
namespace Go.SL
section
variable {P : Program} {ops : Array Oper} {rest : List Oper} {o : Oper} {a : Act} {Q : Exit → Act → World → Prop} {w : World} {l : List HProp}

theorem set_id {α : Type} {l : List α} {i : Nat} {x : α} (h : l[i]? = some x) : l.set i x = l := by
  obtain ⟨hi, rfl⟩ := List.getElem?_eq_some_iff.1 h
  exact List.set_getElem_self hi
theorem run_copyK (w : World) (dT sT ty elem : TypeId) {size : Nat} (g off dLen dCap : Nat) (ad : Addr) (n c : Nat) (cur : Array Value) (t : TypeId) (xs : List Value)
    (hu : P.underlying dT = some (.slice elem)) (hs : (P.info? elem).map (·.size) = some size) (hg : w.heap[g]? = some (.cells cur t (0, 0)))
    (hn : n ≤ dLen) (hx : xs.length = n * size) (hsrc : ∀ j v, xs[j]? = some v → w.cell? (ad.add j) = some v) (hfit : off + xs.length ≤ cur.size) (h1 : ∀ v ∈ xs, v.oneCell' = true) :
    (Builtin.copy_ #[dT, sT] ty #[.slice (some ⟨g, off, none⟩) dLen dCap, .slice (some ad) n c]).run P w =
      .ok (goInt n) (w.setRow g (cur.toList.take off ++ xs ++ cur.toList.drop (off + xs.length)).toArray) := by
  have hl := run_loadCells_list (P := P) w ad xs hsrc
  have hst := run_storeCells_at P g off t xs 0 cur w hg (by simpa using hfit) h1
  have hm : Nat.min n dLen = n := Nat.min_eq_left hn
  cases hq : P.info? elem with
  | none => simp [hq] at hs
  | some i =>
    have hi : i.size = size := by simpa [hq] using hs
    rw [hx] at hl
    simp [Builtin.copy_, run_underlying hu, Builtin.lenOf, Builtin.firstCells, sizeOf, typeInfo, hq, hi, hm, hl, hst]
theorem run_copyK0 (w : World) (dT sT ty elem : TypeId) {size : Nat} (d s : Option Addr) (dLen dCap n c : Nat) (hu : P.underlying dT = some (.slice elem)) (hs : (P.info? elem).map (·.size) = some size) (hn : n = 0) :
    (Builtin.copy_ #[dT, sT] ty #[.slice d dLen dCap, .slice s n c]).run P w = .ok (goInt 0) w := by
  subst hn
  cases hq : P.info? elem with
  | none => simp [hq] at hs
  | some i =>
    have hl : ∀ (x : Addr), (loadCells x 0).run P w = .ok #[] w := fun x => by simpa using run_loadCells_list (P := P) w x [] (by simp)
    cases d <;> cases s <;> simp [Builtin.copy_, run_underlying hu, Builtin.lenOf, Builtin.firstCells, sizeOf, typeInfo, hq, storeCells, hl]

/-- elements copied into an owned row, from element j on -/
theorem Ent.copyRow (hE : Ent l w) (i : Nat) {e : TypeId} {size n c g : Nat} {xs : List Value} (hi : l[i]? = some (row e size (.slice (some ⟨g, 0, none⟩) n c) n xs)) {dT sT : TypeId} (ty : TypeId)
    (hu : P.underlying dT = some (.slice e)) (hs : (P.info? e).map (·.size) = some size) {m : Nat} {v : Value} {ys : List Value} (hr : reads v m ys w) (hy : ys.length = m * size) (h1 : ∀ u ∈ ys, u.oneCell' = true)
    {j : Nat} (dLen dCap : Nat) (hm : m ≤ dLen) (hfit : j + m ≤ n) :
    ∃ w', (Builtin.copy_ #[dT, sT] ty #[.slice (cutAt size (some ⟨g, 0, none⟩) c j) dLen dCap, v]).run P w = .ok (goInt m) w' ∧ Ent (l.set i (row e size (.slice (some ⟨g, 0, none⟩) n c) n (splice xs (j * size) ys))) w' := by
  have hl : i < l.length := (List.getElem?_eq_some_iff.1 hi).1
  have hxs : xs.length = n * size := (hE.owns i hi).1
  obtain ⟨ao, cc, rfl, hnone, hc⟩ := hr
  by_cases h0 : m = 0
  · have hys : ys = [] := List.eq_nil_of_length_eq_zero (by rw [hy, h0]; simp)
    subst h0 hys
    refine ⟨w, run_copyK0 w dT sT ty e _ ao dLen dCap 0 cc hu hs rfl, ?_⟩
    have : splice xs (j * size) [] = xs := by simp [splice]
    rw [this, set_id hi]
    exact hE
  · obtain ⟨g', cap, cur, hv', hn1, hm1, hs1, ht1, hE1⟩ : ∃ (g' cap : Nat) (cur : Array Value), Value.slice (some ⟨g, 0, none⟩) n c = .slice (some ⟨g', 0, none⟩) n cap ∧ n ≤ cap ∧ cap ≤ maxLen ∧ cur.size = cap * size ∧ cur.toList.take (n * size) = xs ∧ Ent (l.set i (pt g' (.cells cur e (0, 0)))) w := hE.fromRow i hi (by omega)
    cases hv'
    cases ao with
    | none => exact absurd (hnone rfl).1 h0
    | some ad =>
      have hcut : cutAt size (some ⟨g, 0, none⟩) c j = some ⟨g, j * size, none⟩ := by
        unfold cutAt
        rw [if_neg (by omega)]
        simp [Addr.add_lit]
      have hcs : j * size + ys.length ≤ cur.size := by
        rw [hs1, hy, ← Nat.add_mul]
        exact Nat.mul_le_mul_right _ (by omega)
      have hxfit : j * size + ys.length ≤ xs.length := by
        rw [hxs, hy, ← Nat.add_mul]
        exact Nat.mul_le_mul_right _ hfit
      have hrun := run_copyK (P := P) w dT sT ty e g (j * size) dLen dCap ad m cc cur e ys hu hs (hE1.at i (by simp [hl])) hm hy (hc ad rfl) hcs h1
      rw [hcut]
      refine ⟨_, hrun, ?_⟩
      have hE2 := hE1.setRow i (b := g) (cs := cur) (T := e) (fz := (0, 0)) (by simp [hl]) (splice cur.toList (j * size) ys).toArray
      rw [List.set_set] at hE2
      have hE3 := hE2.toRow i (b := g) (cs := (splice cur.toList (j * size) ys).toArray) (e := e) (by simp [hl]) (size := size) (n := n) (cap := c) (xs := splice xs (j * size) ys) (by rw [splice_length _ _ _ hxfit, hxs]) hn1 hm1
        (by simp only [List.size_toArray]; rw [splice_length _ _ _ (by simpa using hcs)]; simpa using hs1)
        (by rw [← ht1]; exact take_put _ _ _ _ (by rw [hxs] at hxfit; exact hxfit) (by simp only [Array.length_toList]; rw [hs1]; exact Nat.mul_le_mul_right _ hn1))
      rw [List.set_set] at hE3
      have e2 : splice cur.toList (j * size) ys = cur.toList.take (j * size) ++ ys ++ cur.toList.drop (j * size + ys.length) := by unfold splice; rfl
      rw [← e2]
      exact hE3
theorem wpl_copyK (hE : Ent l w) (i : Nat) {e : TypeId} {size n c g : Nat} {xs : List Value} (hi : l[i]? = some (row e size (.slice (some ⟨g, 0, none⟩) n c) n xs)) {d s : Operand} {dT sT : TypeId}
    (ho : o.op = .call { callee := .builtin .copy, args := #[d, s], argTypes := #[dT, sT] }) (hw : Region.wanted o (yielded ops a.tmps) = true)
    {j dLen dCap : Nat} (hd : a.eval d = .slice (cutAt size (some ⟨g, 0, none⟩) c j) dLen dCap) {v : Value} (hy : a.eval s = v)
    (hu : P.underlying dT = some (.slice e)) (hs : (P.info? e).map (·.size) = some size) {m : Nat} {ys : List Value} (hr : reads v m ys w) (hyl : ys.length = m * size) (h1 : ∀ u ∈ ys, u.oneCell' = true) (hm : m ≤ dLen) (hfit : j + m ≤ n)
    (h : ∀ w', Ent (l.set i (row e size (.slice (some ⟨g, 0, none⟩) n c) n (splice xs (j * size) ys))) w' → wpList P ops Q rest (a.put o.dst (goInt m)) w') : wpList P ops Q (o :: rest) a w := by
  obtain ⟨w', hr0, hE'⟩ := hE.copyRow (P := P) (sT := sT) i hi o.type hu hs hr hyl h1 (j := j) dLen dCap hm hfit
  refine wpl_run hw (w' := w') (v := goInt m) ?_ (h w' hE')
  simp [execOp, ho, resolve, invoke, builtin, hd, hy, hr0]
end
/-- a part of a row that is read: the first so many elements, and those behind -/
theorem reads_first {ao : Option Addr} {n c size : Nat} {xs : List Value} {w : World} (hr : reads (.slice ao n c) n xs w) {k : Nat} (hk : k ≤ n) : reads (.slice ao k c) k (xs.take (k * size)) w := by
  obtain ⟨ao', c', e, h1, h2⟩ := hr
  cases e
  refine ⟨ao, c, rfl, fun h => ?_, fun ad had j u hu => ?_⟩
  · obtain ⟨h3, h4⟩ := h1 h
    rw [h4]
    exact ⟨by omega, by simp⟩
  · refine h2 ad had j u ?_
    rw [List.getElem?_take] at hu
    split at hu
    · exact hu
    · cases hu
theorem cut_zero (size : Nat) (ao : Option Addr) (c : Nat) : cutAt size ao c 0 = ao := by
  unfold cutAt
  split
  · rfl
  · cases ao with
    | none => rfl
    | some a => simp [Addr.add]
theorem reads_behind {ao : Option Addr} {n c size : Nat} {xs : List Value} {w : World} (hr : reads (.slice ao n c) n xs w) (hx : xs.length = n * size) (hc : n ≤ c) {k : Nat} (hk : k ≤ n) : reads (.slice (cutAt size ao c k) (n - k) (c - k)) (n - k) (xs.drop (k * size)) w := by
  have h := reads_cut (size := size) hr hx hk (Nat.le_refl n) hc
  rwa [List.take_of_length_le (by rw [List.length_drop, hx, Nat.sub_mul]; omega)] at h
/-- parts put side by side -/
theorem splice_ins {z A B N : List Value} (hz : z.length = A.length + N.length + B.length) : splice (splice (splice z 0 A) (A.length + N.length) B) A.length N = A ++ N ++ B := by
  have h1 : (splice z 0 A).length = z.length := splice_length _ _ _ (by omega)
  have h2 : (splice (splice z 0 A) (A.length + N.length) B).length = z.length := by rw [splice_length _ _ _ (by omega), h1]
  apply List.ext_getElem?
  intro j
  rw [splice_get _ _ _ _ (by omega), splice_get _ _ _ _ (by omega), splice_get _ _ _ _ (by omega), List.append_assoc]
  by_cases a1 : j < A.length
  · rw [if_pos a1, if_pos (by omega), if_neg (by omega), if_pos (by omega), Nat.sub_zero, List.getElem?_append_left a1]
  · rw [if_neg a1, List.getElem?_append_right (by omega)]
    by_cases a2 : j < A.length + N.length
    · rw [if_pos a2, List.getElem?_append_left (by omega)]
    · rw [if_neg a2, if_neg a2, List.getElem?_append_right (by omega)]
      by_cases a3 : j < A.length + N.length + B.length
      · rw [if_pos a3]; congr 1; omega
      · rw [if_neg a3, if_neg (by omega), if_neg (by omega), List.getElem?_eq_none (by omega), List.getElem?_eq_none (by omega)]
theorem splice_all {z A B : List Value} (hz : z.length = A.length + B.length) : splice (splice z 0 A) A.length B = A ++ B := by
  have h := splice_ins (z := z) (A := A) (N := []) (B := B) (by simpa using hz)
  simp only [List.length_nil, Nat.add_zero, List.append_nil] at h
  have h1 : (splice z 0 A).length = z.length := splice_length _ _ _ (by omega)
  have e : ∀ y : List Value, splice y A.length [] = y := fun y => by simp [splice]
  rwa [e] at h
theorem splice_mid (A X N B : List Value) (h : X.length = N.length) : splice (A ++ (X ++ B)) A.length N = A ++ (N ++ B) := by
  unfold splice
  rw [List.take_left, ← h, List.drop_append, List.drop_eq_nil_of_le (by omega), List.nil_append, Nat.add_sub_cancel_left, List.drop_left, List.append_assoc]
section
variable {P : Program} {w : World} {l : List HProp} {ops : Array Oper} {o : Oper} {a : Act} {K : Act → World → Prop} {Q : Exit → Act → World → Prop} {E : Prop}
/-- .. as one step of a region that draws -/
theorem step_copyK (hE : Ent l w) (i : Nat) {e : TypeId} {size n c g : Nat} {xs : List Value} (hi : l[i]? = some (row e size (.slice (some ⟨g, 0, none⟩) n c) n xs)) {d s : Operand} {dT sT : TypeId}
    (ho : o.op = .call { callee := .builtin .copy, args := #[d, s], argTypes := #[dT, sT] }) (hw : Region.wanted o (yielded ops a.tmps) = true)
    {j dLen dCap : Nat} (hd : a.eval d = .slice (cutAt size (some ⟨g, 0, none⟩) c j) dLen dCap) {v : Value} (hy : a.eval s = v)
    (hu : P.underlying dT = some (.slice e)) (hs : (P.info? e).map (·.size) = some size) {m : Nat} {ys : List Value} (hr : reads v m ys w) (hyl : ys.length = m * size) (h1 : ∀ u ∈ ys, u.oneCell' = true) (hm : m ≤ dLen) (hfit : j + m ≤ n)
    (h : ∀ w', Ent (l.set i (row e size (.slice (some ⟨g, 0, none⟩) n c) n (splice xs (j * size) ys))) w' → K (a.put o.dst (goInt m)) w') : if Region.wanted o (yielded ops a.tmps) = true then Oper.wp P o a w K Q else E := by
  rw [if_pos hw]
  obtain ⟨w', hr0, hE'⟩ := hE.copyRow (P := P) (sT := sT) i hi o.type hu hs hr hyl h1 (j := j) dLen dCap hm hfit
  unfold Oper.wp execOp
  simp only [ho, resolve, invoke, builtin, Sem.run_bind, Sem.run_pure, Result.andThen_ok, List.map_toArray, List.map_cons, List.map_nil, hd, hy, hr0]
  exact h w' hE'
/-- an element of an owned row written, as one step of a region that draws -/
theorem step_storeRow (hE : Ent l w) (i : Nat) {e : TypeId} {size n c g off : Nat} {xs : List Value} (ys : List Value) (hi : l[i]? = some (row e size (.slice (some ⟨g, 0, none⟩) n c) n xs)) {t : TypeId} {x y : Operand} {k : Nat}
    (ho : o.op = .store t x y) (hw : Region.wanted o (yielded ops a.tmps) = true) (hx : a.eval x = .pointer (some ⟨g, off, none⟩)) (hy : a.eval y = .agg ys.toArray)
    (hn : ∀ w, (Go.sizeOf t).run P w = .ok k w) (hk : ys.length = k) (h1 : ∀ u ∈ ys, u.oneCell' = true) (hfit : off + k ≤ n * size)
    (h : ∀ w', Ent (l.set i (row e size (.slice (some ⟨g, 0, none⟩) n c) n (splice xs off ys))) w' → K (a.put o.dst undef) w') : if Region.wanted o (yielded ops a.tmps) = true then Oper.wp P o a w K Q else E := by
  rw [if_pos hw]
  obtain ⟨w', hr, hE'⟩ := hE.storeRow (P := P) i hi hn (v := .agg ys.toArray) (by simp [Value.cells]) hk h1 hfit
  have hx2 : (execOp a.eval o).run P w = .ok .skip w' := by simp [execOp, ho, hx, hy, hr]
  simp only [Oper.wp, hx2, Oper.upon]
  exact h w' hE'
end
end Go.SL
namespace Go.Proofs.YtjdignaddfhohaaDoor
open Go.RowKit Go.SL

/-- a kid's cells: its name, and the node: is it a directory, its data, the slice of its kids -/
def kC (k : List UInt8 × Tr) (v : Value) : List Value := [.string ⟨k.1.toArray⟩, .bool k.2.dir, .string ⟨k.2.data.toArray⟩, v]
def kCs (ks : List (List UInt8 × Tr)) (vs : List Value) : List Value := (List.zip ks vs).flatMap fun p => kC p.1 p.2
theorem kC_len (k : List UInt8 × Tr) (v : Value) : (kC k v).length = 4 := rfl
theorem kCs_len {ks : List (List UInt8 × Tr)} {vs : List Value} (h : vs.length = ks.length) : (kCs ks vs).length = ks.length * 4 := by
  rw [kCs, flatMap_len (fun p : (List UInt8 × Tr) × Value => kC p.1 p.2) 4 (fun _ => rfl), List.length_zip, h, Nat.min_self]
theorem kCs_nil : kCs [] [] = [] := rfl
theorem kCs_app {a b : List (List UInt8 × Tr)} {u v : List Value} (h : u.length = a.length) : kCs (a ++ b) (u ++ v) = kCs a u ++ kCs b v := by
  rw [kCs, List.zip_append h.symm, List.flatMap_append]; rfl
theorem kCs_cons (k : List UInt8 × Tr) (v : Value) (ks : List (List UInt8 × Tr)) (vs : List Value) : kCs (k :: ks) (v :: vs) = kC k v ++ kCs ks vs := rfl
theorem kCs_at {ks : List (List UInt8 × Tr)} {vs : List Value} (h : vs.length = ks.length) {i : Nat} (hi : i < ks.length) {j : Nat} {u : Value} (hu : (kC ks[i] (vs[i]'(by omega)))[j]? = some u) : (kCs ks vs)[i * 4 + j]? = some u :=
  flatMap_at (fun p : (List UInt8 × Tr) × Value => kC p.1 p.2) 4 (fun _ => rfl) _ i j (ks[i], vs[i]'(by omega)) u (by rw [List.getElem?_eq_getElem (by rw [List.length_zip]; omega)]; simp) hu
theorem kCs_take {ks : List (List UInt8 × Tr)} {vs : List Value} (h : vs.length = ks.length) (i : Nat) : (kCs ks vs).take (i * 4) = kCs (ks.take i) (vs.take i) := by
  by_cases hi : i ≤ ks.length
  · have hl : (kCs (ks.take i) (vs.take i)).length = i * 4 := by rw [kCs_len (by rw [List.length_take, List.length_take]; omega), List.length_take, Nat.min_eq_left hi]
    conv => lhs; rw [← List.take_append_drop i ks, ← List.take_append_drop i vs]
    rw [kCs_app (by rw [List.length_take, List.length_take]; omega), List.take_left' hl]
  · rw [List.take_of_length_le (by rw [kCs_len h]; omega), List.take_of_length_le (l := ks) (by omega), List.take_of_length_le (l := vs) (by omega)]
theorem kCs_drop {ks : List (List UInt8 × Tr)} {vs : List Value} (h : vs.length = ks.length) {i : Nat} (hi : i ≤ ks.length) : (kCs ks vs).drop (i * 4) = kCs (ks.drop i) (vs.drop i) := by
  have hl : (kCs (ks.take i) (vs.take i)).length = i * 4 := by rw [kCs_len (by rw [List.length_take, List.length_take]; omega), List.length_take, Nat.min_eq_left hi]
  conv => lhs; rw [← List.take_append_drop i ks, ← List.take_append_drop i vs]
  rw [kCs_app (by rw [List.length_take, List.length_take]; omega), List.drop_left' hl]

/-- what the list knows of memory: at this slice lie these kids, and all that is below them -/
inductive KidsAt (l : List HProp) : Value → List (List UInt8 × Tr) → Prop
  | mk (ao : Option Addr) (c : Nat) (ks : List (List UInt8 × Tr)) (vs : List Value) (hc : ks.length ≤ c) (hl : vs.length = ks.length) (hr : Knows l (reads (.slice ao ks.length c) ks.length (kCs ks vs)))
      (hk : ∀ (i : Nat) (h : i < ks.length) (h' : i < vs.length), KidsAt l vs[i] ks[i].2.kids) : KidsAt l (.slice ao ks.length c) ks
theorem KidsAt.mono {l m : List HProp} (h : ∀ p : World → Prop, Knows l p → Knows m p) {v : Value} {ks : List (List UInt8 × Tr)} (hk : KidsAt l v ks) : KidsAt m v ks := by
  induction hk with
  | mk ao c ks vs hc hl hr _ ih => exact .mk ao c ks vs hc hl (h _ hr) ih
theorem KidsAt.suf {l m : List HProp} {v : Value} {ks : List (List UInt8 × Tr)} (hk : KidsAt l v ks) (h : l <:+ m) : KidsAt m v ks := hk.mono fun _ hp => hp.suf h
theorem KidsAt.app {l : List HProp} {v : Value} {ks : List (List UInt8 × Tr)} (m : List HProp) (hk : KidsAt l v ks) : KidsAt (m ++ l) v ks := hk.suf (List.suffix_append m l)
theorem KidsAt.nil (l : List HProp) : KidsAt l (.slice none 0 0) [] := .mk none 0 [] [] (Nat.le_refl _) rfl (fun _ _ => reads_nil 0 0 rfl _) (fun i h => absurd h (by simp))
theorem KidsAt.slice {l : List HProp} {v : Value} {ks : List (List UInt8 × Tr)} (hk : KidsAt l v ks) : ∃ ao c, v = .slice ao ks.length c := by cases hk; exact ⟨_, _, rfl⟩
/-- a slice of kids, opened -/
theorem KidsAt.open {l : List HProp} {v : Value} {ks : List (List UInt8 × Tr)} (hk : KidsAt l v ks) : ∃ (ao : Option Addr) (c : Nat) (vs : List Value), v = .slice ao ks.length c ∧ ks.length ≤ c ∧ vs.length = ks.length ∧ Knows l (reads (.slice ao ks.length c) ks.length (kCs ks vs)) ∧
    (∀ (i : Nat) (h : i < ks.length) (h' : i < vs.length), KidsAt l vs[i] ks[i].2.kids) ∧ ∀ u ∈ kCs ks vs, u.oneCell' = true := by
  cases hk with
  | mk ao c ks vs hc hl hr hk =>
    refine ⟨ao, c, vs, rfl, hc, hl, hr, hk, fun u hu => ?_⟩
    rw [kCs, List.mem_flatMap] at hu
    obtain ⟨⟨k, v⟩, hp, hu⟩ := hu
    obtain ⟨i, hi, e⟩ := List.getElem_of_mem hp
    rw [List.getElem_zip] at e
    cases e
    rw [List.length_zip] at hi
    obtain ⟨ao', c', hv⟩ := (hk i (by omega) (by omega)).slice
    simp only [kC, List.mem_cons, List.not_mem_nil, or_false] at hu
    rcases hu with rfl | rfl | rfl | rfl
    · rfl
    · rfl
    · rfl
    · rw [hv]; rfl
/-- where a kid lies -/
theorem kids_at {w : World} {ao : Option Addr} {c : Nat} {ks : List (List UInt8 × Tr)} {vs : List Value} (h : vs.length = ks.length) (hr : reads (.slice ao ks.length c) ks.length (kCs ks vs) w) {i : Nat} (hi : i < ks.length) :
    ∃ b off, ao = some ⟨b, off, none⟩ ∧ ∀ j v, (kC ks[i] (vs[i]'(by omega)))[j]? = some v → w.cell? ⟨b, off + i * 4 + j, none⟩ = some v := by
  obtain ⟨b, off, rfl, hc⟩ := reads_form hr (by omega) (by rw [kCs_len h]; omega)
  refine ⟨b, off, rfl, fun j v hv => ?_⟩
  rw [Nat.add_assoc]
  exact hc _ _ (kCs_at h hi hv)
/-- a node, as the program has it -/
def nodeV (t : Tr) (v : Value) : Value := .agg #[.bool t.dir, .string ⟨t.data.toArray⟩, v]
end Go.Proofs.YtjdignaddfhohaaDoor
namespace Go.SL
section
variable {P : Program} {ops : Array Oper} {rest : List Oper} {o : Oper} {a : Act} {Q : Exit → Act → World → Prop} {w : World} {l : List HProp}
theorem wpl_st1 (hE : Ent l w) (i : Nat) {b : Nat} {cs : List Value} {T : TypeId} (hi : l[i]? = some (pt b (.cells cs.toArray T (0, 0))))
    {t : TypeId} {x y : Operand} (ho : o.op = .store t x y) (hw : Region.wanted o (yielded ops a.tmps) = true) {off : Nat} (hx : a.eval x = .pointer (some ⟨b, off, none⟩)) {v : Value} (hy : a.eval y = v)
    (hn : ∀ w, (Go.sizeOf t).run P w = .ok 1 w) (hv : v.cells = #[v]) (h1 : v.oneCell' = true) (hfit : off < cs.length)
    (h : ∀ w', Ent (l.set i (pt b (.cells (cs.set off v).toArray T (0, 0)))) w' → wpList P ops Q rest (a.put o.dst undef) w') : wpList P ops Q (o :: rest) a w := by
  refine wpl_store hE i hi ho hw hx hy hn (by rw [hv]; rfl) (by rw [hv]; simpa using h1) (by simp; omega) fun w' hE' => h w' ?_
  have e : (cs.toArray.toList.take off ++ v.cells.toList ++ cs.toArray.toList.drop (off + v.cells.toList.length)).toArray = (cs.set off v).toArray := by
    rw [hv]
    simp only [List.toList_toArray, List.length_cons, List.length_nil, Nat.zero_add]
    rw [List.set_eq_take_append_cons_drop, if_pos hfit]
    simp
  rw [e] at hE'
  exact hE'
/-- the same, the block's place found by the lemma's own tactic -/
theorem stX (hE : Ent l w) {b : Nat} {cs cs' : List Value} {T : TypeId} {t : TypeId} {x y : Operand} {off : Nat} {v : Value} {l' : List HProp}
    (h : ∀ w', Ent l' w' → wpList P ops Q rest (a.put o.dst undef) w')
    (ho : o.op = .store t x y := by with_reducible rfl) (hw : Region.wanted o (yielded ops a.tmps) = true := by rfl)
    (hx : a.eval x = .pointer (some ⟨b, off, none⟩) := by rfl)
    (hy : a.eval y = v := by first | (simp only [Act.eval, getD_lit, List.getD_cons_succ, List.getD_cons_zero]; rfl) | rfl)
    (hn : ∀ w, (Go.sizeOf t).run P w = .ok 1 w := by first | (simp [go_sem]; done) | (simp [go_sem]; rfl))
    (hu : Upd (pt b (.cells cs.toArray T (0, 0))) (pt b (.cells cs'.toArray T (0, 0))) l l' := by first | ((repeat (first | with_reducible exact Upd.z | apply Upd.s)); done) | ((repeat (first | exact Upd.z | apply Upd.s)); done))
    (hs : cs.set off v = cs' := by first | (simp only [List.set_cons_zero, List.set_cons_succ]; rfl) | rfl)
    (hv : v.cells = #[v] := by rfl) (h1 : v.oneCell' = true := by rfl) (hfit : off < cs.length := by simp) : wpList P ops Q (o :: rest) a w := by
  subst hs
  obtain ⟨i, hi, rfl⟩ := hu.at
  exact wpl_st1 hE i hi ho hw hx hy hn hv h1 hfit h
end
end Go.SL
namespace Go.Proofs.YtjdignaddfhohaaDoor
open Go.RowKit Go.SL

theorem cb_lt : ∀ (a b : List UInt8), Lib.compareBytes a b < 0 ↔ Op.bytesLess a b = true
  | [], [] => by simp [Lib.compareBytes, Op.bytesLess]
  | [], _ :: _ => by simp [Lib.compareBytes, Op.bytesLess]
  | _ :: _, [] => by simp [Lib.compareBytes, Op.bytesLess]
  | a :: as_, b :: bs => by
    have ih := cb_lt as_ bs
    unfold Lib.compareBytes
    rw [bl_cons]
    by_cases h1 : a < b
    · rw [if_pos h1]
      simp [UInt8.lt_iff_toNat_lt] at h1
      simp [h1]
    · rw [if_neg h1]
      have h1' : ¬ a.toNat < b.toNat := by rw [← UInt8.lt_iff_toNat_lt]; exact h1
      by_cases h2 : b < a
      · rw [if_pos h2]
        have hne : a ≠ b := fun e => by subst e; exact h1 h2
        simp [h1', hne]
      · rw [if_neg h2, ih]
        have h2' : ¬ b.toNat < a.toNat := by rw [← UInt8.lt_iff_toNat_lt]; exact h2
        have e : a = b := UInt8.toNat_inj.1 (by omega)
        simp [e]
theorem cb_eq : ∀ (a b : List UInt8), Lib.compareBytes a b = 0 ↔ a = b
  | [], [] => by simp [Lib.compareBytes]
  | [], _ :: _ => by simp [Lib.compareBytes]
  | _ :: _, [] => by simp [Lib.compareBytes]
  | a :: as_, b :: bs => by
    have ih := cb_eq as_ bs
    unfold Lib.compareBytes
    by_cases h1 : a < b
    · rw [if_pos h1]
      have hne : a ≠ b := fun e => by subst e; simp at h1
      simp [hne]
    · rw [if_neg h1]
      by_cases h2 : b < a
      · rw [if_pos h2]
        have hne : a ≠ b := fun e => by subst e; exact h1 h2
        simp [hne]
      · rw [if_neg h2, ih]
        have h1' : ¬ a.toNat < b.toNat := by rw [← UInt8.lt_iff_toNat_lt]; exact h1
        have h2' : ¬ b.toNat < a.toNat := by rw [← UInt8.lt_iff_toNat_lt]; exact h2
        have e : a = b := UInt8.toNat_inj.1 (by omega)
        simp [e]

set_option maxRecDepth 100000 in
theorem CompareString_any (a b : List UInt8) (w : World) : Calls Tryd.prog 79 #[.string ⟨a.toArray⟩, .string ⟨b.toArray⟩] w (fun e w' => e = .returned (.int .i64 (Lib.compareBytes a b)) ∧ w' = w) := by
  go_enter Tryd.func79, Tryd.ntmps79
  go_wp2
  rw [run_callFunc_extern Tryd.func92 (by kernel_rfl) (by kernel_rfl) (by kernel_rfl) (e := Extern.BytealgCompare.compare) (by kernel_rfl), Lib.run_compareString]
  simp only [Result.andThen]
  rw [Oper.upon_value]
  go_wp2
  go_ret
  exact ⟨rfl, rfl⟩
theorem Compare_any (a b : List UInt8) (w : World) : Calls Tryd.prog 59 #[.string ⟨a.toArray⟩, .string ⟨b.toArray⟩] w (fun e w' => e = .returned (.int .i64 (Lib.compareBytes a b)) ∧ w' = w) := by
  go_enter Tryd.func59, Tryd.ntmps59
  go_wp2_with (go_at_call 79; refine (CompareString_any a b _).mono ?_; rintro e w' ⟨rfl, rfl⟩)
  go_ret
  exact ⟨rfl, rfl⟩
theorem name_any (k : List UInt8 × Tr) (v : Value) {l : List HProp} {w : World} (hE : Ent l w) :
    Calls Tryd.prog 44 #[.agg (kC k v).toArray] w (Ret fun r w' => r = .string ⟨k.1.toArray⟩ ∧ Ent l w') := by
  go_enter Tryd.func44, Tryd.ntmps44
  go_wp2_with (first
    | go_skip
    | ((with_reducible (show Go.wpList _ _ _ (Go.Oper.mk _ (.box _ _) _ _ _ _ :: _) _ _)); refine wpl_box hE rfl rfl rfl ?_; clear hE; intro b1 w1 hE)
    | ((with_reducible (show Go.wpList _ _ _ (Go.Oper.mk _ (.load _ _) _ _ _ _ :: _) _ _)); refine wpl_load1 hE 0 rfl rfl rfl rfl (by simp [go_sem]) (v := .string ⟨k.1.toArray⟩) rfl ?_))
  go_ret
  exact ⟨_, rfl, rfl, hE.tail⟩
/-- the block of the closure: the function that names a kid -/
def ofB (b : Nat) : HProp := pt b (.cells #[.func (.func 44) #[] #[]] 87)
theorem cmp_any (k : List UInt8 × Tr) (v : Value) (nm : List UInt8) {b : Nat} {l : List HProp} {w : World} (hE : Ent (ofB b :: l) w) :
    Calls Tryd.prog 58 #[.agg (kC k v).toArray, .string ⟨nm.toArray⟩, .pointer (some ⟨b, 0, none⟩)] w (Ret fun r w' => r = .int .i64 (Lib.compareBytes k.1 nm) ∧ Ent (ofB b :: l) w') := by
  unfold ofB at *
  go_enter Tryd.func58, Tryd.ntmps58
  go_wp2_with (first
    | go_skip
    | ((with_reducible (show Go.wpList _ _ _ (Go.Oper.mk _ (.box _ _) _ _ _ _ :: _) _ _)); refine wpl_box hE rfl rfl rfl ?_; clear hE; intro b1 w1 hE)
    | ((with_reducible (show Go.wpList _ _ _ (Go.Oper.mk _ (.load _ (.tmp 2)) _ _ _ _ :: _) _ _)); refine wpl_load1 hE 1 rfl rfl rfl rfl (by simp [go_sem]) rfl ?_)
    | ((with_reducible (show Go.wpList _ _ _ (Go.Oper.mk _ (.load _ (.tmp 3)) _ _ _ _ :: _) _ _)); refine wpl_loadW (xs := kC k v) hE 0 rfl rfl rfl rfl Tryd.isAgg55 Tryd.sizeOf55 rfl ?_)
    | (go_at_call 44; refine (name_any k v hE).mono ?_; clear hE; rintro e w2 ⟨r, rfl, rfl, hE⟩)
    | (go_at_call 59; refine (Compare_any k.1 nm _).mono ?_; rintro e w' ⟨rfl, rfl⟩))
  go_ret
  exact ⟨_, rfl, rfl, hE.tail⟩

def BsRel (n p : Nat) (l : List HProp) (i j : Value) (wr : World) : Prop := ∃ lo hi : Nat, i = .int .i64 lo ∧ j = .int .i64 hi ∧ lo ≤ p ∧ p ≤ hi ∧ hi ≤ n ∧ Ent l wr
set_option maxRecDepth 100000 in
set_option maxHeartbeats 4000000 in
theorem search_any {ks : List (List UInt8 × Tr)} {vs : List Value} (hl : vs.length = ks.length) (hr : Rising (ks.map Prod.fst)) (hn : ks.length ≤ 1000000) (nm : List UInt8) {ao : Option Addr} {c b : Nat} {l : List HProp} {w : World} (hk : Knows l (reads (.slice ao ks.length c) ks.length (kCs ks vs))) (hE : Ent (ofB b :: l) w) :
    Calls Tryd.prog 57 #[.slice ao ks.length c, .string ⟨nm.toArray⟩, .func (.func 58) #[] #[.pointer (some ⟨b, 0, none⟩)]] w
      (Ret fun v w' => v = .tuple #[.int .i64 (placeOf (ks.map Prod.fst) nm), .bool (isIn (ks.map Prod.fst) nm)] ∧ Ent (ofB b :: l) w') := by
  obtain ⟨_, hp1, _, hp3⟩ := find_at hr nm
  have hp2 := fun i hi => Tr.place_lt hr (n := nm) i hi
  rw [List.length_map] at hp1
  simp only [List.length_map, List.getElem_map] at hp2 hp3
  have Hp3 := SL.hid hp3
  have Hp2 := SL.hid hp2
  clear hp2 hp3
  generalize placeOf (ks.map Prod.fst) nm = p at *
  generalize isIn (ks.map Prod.fst) nm = is at *
  go_enter Tryd.func57, Tryd.ntmps57
  go_wp2
  go_loopw [9, 10] (fun i j wr => BsRel ks.length p (ofB b :: l) i j wr) (fun i j _ => (intOf j).toNat - (intOf i).toNat)
  case atStart => exact ⟨0, ks.length, rfl, rfl, Nat.zero_le _, hp1, Nat.le_refl _, hE⟩
  case round =>
    clear hE
    obtain ⟨lo, hi, rfl, rfl, h1, h2, hin, hE⟩ := hrel
    by_cases hlt : lo < hi
    · have hm : (lo + hi) / 2 < ks.length := by omega
      obtain ⟨bb, off, rfl, hc⟩ := kids_at hl (hk _ hE.tail) hm
      have hcm := cmp_any ks[(lo + hi) / 2] (vs[(lo + hi) / 2]'(by omega)) nm hE
      have hlt2 := (cb_lt ks[(lo + hi) / 2].1 nm).trans (Hp2.out _ hm).symm
      by_cases hb : (lo + hi) / 2 < p
      · have hcn := hlt2.2 hb
        go_wp2_with (first
          | ((with_reducible (show Go.wpList _ _ _ (Go.Oper.mk _ (.load 55 _) _ _ _ _ :: _) _ _)); refine wpl_loadC rfl rfl rfl Tryd.isAgg55 Tryd.sizeOf55 (kC ks[(lo + hi) / 2] (vs[(lo + hi) / 2]'(by omega))) rfl (fun j v hv => by rw [Addr.add_lit]; exact hc j v hv) ?_)
          | (go_at_call 58; refine hcm.mono ?_; clear hcm; rintro e w' ⟨v, rfl, rfl, hE2⟩))
        go_roundw
        case rel => exact ⟨(lo + hi) / 2 + 1, hi, by rw [show ((lo : Int) + (hi : Int)) / 2 + 1 = (((lo + hi) / 2 + 1 : Nat) : Int) by omega], rfl, by omega, h2, hin, hE2⟩
        case measure => simp [intOf] <;> omega
      · have hcn : ¬ Lib.compareBytes ks[(lo + hi) / 2].1 nm < 0 := fun h => hb (hlt2.1 h)
        go_wp2_with (first
          | ((with_reducible (show Go.wpList _ _ _ (Go.Oper.mk _ (.load 55 _) _ _ _ _ :: _) _ _)); refine wpl_loadC rfl rfl rfl Tryd.isAgg55 Tryd.sizeOf55 (kC ks[(lo + hi) / 2] (vs[(lo + hi) / 2]'(by omega))) rfl (fun j v hv => by rw [Addr.add_lit]; exact hc j v hv) ?_)
          | (go_at_call 58; refine hcm.mono ?_; clear hcm; rintro e w' ⟨v, rfl, rfl, hE2⟩))
        go_roundw
        case rel => exact ⟨lo, (lo + hi) / 2, rfl, by rw [show ((lo : Int) + (hi : Int)) / 2 = (((lo + hi) / 2 : Nat) : Int) by omega], h1, by omega, by omega, hE2⟩
        case measure => simp [intOf] <;> omega
    · obtain rfl : lo = hi := by omega
      obtain rfl : lo = p := by omega
      clear h1 h2 hlt
      by_cases hn2 : lo < ks.length
      · obtain ⟨bb, off, rfl, hc⟩ := kids_at hl (hk _ hE.tail) hn2
        have hcm := cmp_any ks[lo] (vs[lo]'(by omega)) nm hE
        have hz := cb_eq ks[lo].1 nm
        have his : (Lib.compareBytes ks[lo].1 nm == 0) = is := by
          rw [Bool.eq_iff_iff, beq_iff_eq, hz, Hp3.out]
          exact ⟨fun h => ⟨hn2, h⟩, fun ⟨_, h⟩ => h⟩
        go_wp2_with (first
          | ((with_reducible (show Go.wpList _ _ _ (Go.Oper.mk _ (.load 55 _) _ _ _ _ :: _) _ _)); refine wpl_loadC rfl rfl rfl Tryd.isAgg55 Tryd.sizeOf55 (kC ks[lo] (vs[lo]'(by omega))) rfl (fun j v hv => by rw [Addr.add_lit]; exact hc j v hv) ?_)
          | (go_at_call 58; refine hcm.mono ?_; clear hcm; rintro e w' ⟨v, rfl, rfl, hE2⟩))
        go_ret2
        exact ⟨_, rfl, by first | rfl | simp, hE2⟩
      · have his : is = false := by
          rw [← Bool.not_eq_true, Hp3.out]
          rintro ⟨h, _⟩
          exact hn2 h
        go_wp2
        go_ret2
        exact ⟨_, rfl, by rw [his]; rfl, hE⟩
set_option maxRecDepth 100000 in
theorem find_any {l : List HProp} {v : Value} {ks : List (List UInt8 × Tr)} (hk : KidsAt l v ks) (hr : Rising (ks.map Prod.fst)) (hn : ks.length ≤ 1000000) (nm : List UInt8) {w : World} (hE : Ent l w) :
    Calls Tryd.prog 43 #[v, .string ⟨nm.toArray⟩, .func (.func 44) #[] #[]] w
      (Ret fun r w' => r = .tuple #[.int .i64 (placeOf (ks.map Prod.fst) nm), .bool (isIn (ks.map Prod.fst) nm)] ∧ Ent l w') := by
  obtain ⟨ao, c, vs, rfl, hc, hl, hkn, _, _⟩ := hk.open
  have hS := fun (b : Nat) (w : World) (h : Ent (ofB b :: l) w) => search_any hl hr hn nm (b := b) hkn h
  generalize placeOf (ks.map Prod.fst) nm = p at *
  generalize isIn (ks.map Prod.fst) nm = is at *
  go_enter Tryd.func43, Tryd.ntmps43
  go_wp2_with (first
    | go_skip
    | ((with_reducible (show Go.wpList _ _ _ (Go.Oper.mk _ (.box _ _) _ _ _ _ :: _) _ _)); refine wpl_box hE rfl rfl rfl ?_; clear hE; intro b1 w1 hE)
    | (go_at_call 57; refine (hS b1 _ hE).mono ?_; clear hS; rintro e w2 ⟨r, rfl, rfl, hE2⟩))
  go_ret2
  exact ⟨_, rfl, rfl, hE2.tail⟩
end Go.Proofs.YtjdignaddfhohaaDoor
namespace Go.Proofs.YtjdignaddfhohaaDoor
open Go.RowKit Go.SL

theorem str_at (s : List UInt8) (k : Nat) (hb : k < (⟨s.toArray⟩ : ByteArray).size) : (⟨s.toArray⟩ : ByteArray)[k]'hb = s.getD k 0 := by
  have hk : k < s.length := by rwa [bytes_size] at hb
  rw [List.getD_eq_getElem?_getD, List.getElem?_eq_getElem hk]
  rfl
set_option maxRecDepth 100000 in
set_option maxHeartbeats 1000000 in
theorem good_any (c : UInt8) (w : World) : Calls Tryd.prog 56 #[.int .u8 c.toNat] w (fun e w' => e = .returned (.bool (goodB c)) ∧ w = w') := by
  have h : goodB c = (decide ((33 : Int) ≤ (c.toNat : Int)) && (decide ((c.toNat : Int) ≤ 126) && ((c.toNat : Int) != 47))) := by
    have e : (c != 47) = ((c.toNat : Int) != 47) := by
      rw [Bool.eq_iff_iff]
      simp [← UInt8.toNat_inj]
      omega
    rw [goodB, e]
    congr 1
    · exact decide_eq_decide.2 (by omega)
    · congr 1
      exact decide_eq_decide.2 (by omega)
  have H := SL.hid h
  clear h
  have h47 : (⟨#[47]⟩ : ByteArray)[0]'(by decide) = 47 := rfl
  generalize goodB c = g at *
  generalize c.toNat = n at *
  cases h1 : decide ((33 : Int) ≤ (n : Int)) with
  | false =>
    have R := SL.hid (show g = false by rw [H.out, h1]; rfl)
    go_enter Tryd.func56, Tryd.ntmps56
    go_wp2_with (first | go_skip)
    go_ret
    exact ⟨by rw [R.out]; rfl, rfl⟩
  | true =>
    cases h2 : decide ((n : Int) ≤ 126) with
    | false =>
      have R := SL.hid (show g = false by rw [H.out, h1, h2]; rfl)
      go_enter Tryd.func56, Tryd.ntmps56
      go_wp2_with (first | go_skip)
      go_ret
      exact ⟨by rw [R.out]; rfl, rfl⟩
    | true =>
      cases h3 : ((n : Int) != 47)
      all_goals
        have R := SL.hid (H.out.trans (show _ = ((n : Int) != 47) by rw [h1, h2]; rfl))
        rw [h3] at R
        go_enter Tryd.func56, Tryd.ntmps56
        go_wp2_with (first | go_skip)
        go_ret
        exact ⟨by rw [R.out]; rfl, rfl⟩

def NmRel (s : List UInt8) (i : Value) : Prop := ∃ k : Nat, k ≤ s.length ∧ i = .int .i64 k ∧ (s.take k).all goodB = true
theorem all_step {s : List UInt8} {k : Nat} (h : k < s.length) (ha : (s.take k).all goodB = true) : (goodB (s.getD k 0) = true → (s.take (k + 1)).all goodB = true) ∧ (goodB (s.getD k 0) = false → isName s = false) := by
  have e : s.getD k 0 = s[k] := by rw [List.getD_eq_getElem?_getD, List.getElem?_eq_getElem h]; rfl
  rw [e]
  refine ⟨fun hg => ?_, fun hg => ?_⟩
  · rw [List.take_succ_eq_append_getElem h, List.all_append, ha]
    simp [hg]
  · have : s.all goodB = false := List.all_eq_false.2 ⟨_, List.getElem_mem h, by simp [hg]⟩
    rw [isName, this, Bool.false_and]
set_option maxRecDepth 100000 in
set_option maxHeartbeats 1000000 in
theorem Name_any (s : List UInt8) (hs : s.length ≤ 1099511627776) (w : World) : Calls Tryd.prog 42 #[.string ⟨s.toArray⟩] w (fun e w' => e = .returned (.bool (isName s)) ∧ w = w') := by
  go_enter Tryd.func42, Tryd.ntmps42
  go_wp2
  go_loop [7] (fun i => NmRel s i) (fun i => s.length - (intOf i).toNat)
  case atStart => exact ⟨0, Nat.zero_le _, rfl, rfl⟩
  case round =>
    obtain ⟨k, hkl, rfl, hall⟩ := hrel
    by_cases hlt : k < s.length
    · have hix := str_at s k (by rw [bytes_size]; exact hlt)
      have Hs := SL.hid (all_step hlt hall)
      have hg := fun w => good_any (s.getD k 0) w
      clear hall
      generalize s.getD k 0 = c at *
      cases hgc : goodB c with
      | false =>
        rw [hgc] at hg
        have R := SL.hid (Hs.out.2 hgc)
        clear hgc
        go_wp2_with (first
          | go_skip
          | (go_at_call 56; refine (hg _).mono ?_; rintro e w2 ⟨rfl, rfl⟩))
        go_ret
        exact ⟨by rw [R.out]; rfl, rfl⟩
      | true =>
        rw [hgc] at hg
        have R := SL.hid (Hs.out.1 hgc)
        clear hgc
        go_wp2_with (first
          | go_skip
          | (go_at_call 56; refine (hg _).mono ?_; rintro e w2 ⟨rfl, rfl⟩))
        go_round
        case rel => exact ⟨k + 1, hlt, by simp, R.out⟩
        case measure => simp [intOf]; omega
    · have ha : s.all goodB = true := by rwa [show k = s.length by omega, List.take_length] at hall
      have R := SL.hid (show isName s = (decide ((1 : Int) ≤ (s.length : Int)) && decide ((s.length : Int) ≤ 16)) by
        rw [isName, ha, Bool.true_and]
        congr 1
        · exact decide_eq_decide.2 (by omega)
        · exact decide_eq_decide.2 (by omega))
      clear hall ha
      have hlt' : decide (k < s.length) = false := decide_eq_false hlt
      clear hlt hkl
      cases h1 : decide ((1 : Int) ≤ (s.length : Int)) with
      | false =>
        have R1 := SL.hid (show isName s = false by rw [R.out, h1]; rfl)
        go_wp2_with (first | go_skip)
        go_ret
        exact ⟨by rw [R1.out]; rfl, rfl⟩
      | true =>
        have R1 := SL.hid (show isName s = decide ((s.length : Int) ≤ 16) by rw [R.out, h1]; rfl)
        cases h2 : decide ((s.length : Int) ≤ 16)
        all_goals
          rw [h2] at R1
          go_wp2_with (first | go_skip)
          go_ret
          exact ⟨by rw [R1.out]; rfl, rfl⟩

end Go.Proofs.YtjdignaddfhohaaDoor
namespace Go.Proofs.YtjdignaddfhohaaDoor
open Go.RowKit Go.SL

theorem wide_fn (f : FuncId) : Fence.wide.fn f = True := rfl
theorem wide_depth : Fence.wide.depth = none := rfl
attribute [local go_sem] Oper.semAt_some wide_fn wide_depth

/-- the iterator's own heap: what is left, the text between, how much of it is kept -/
def itSt (p : List UInt8) (bs bsep bsave : Nat) (pre : List (List UInt8)) : List HProp :=
  [pt bs (.cells #[.string ⟨(rst p pre).toArray⟩] 9), pt bsep (.cells #[.string ⟨#[47]⟩] 9), pt bsave (.cells #[.int .i64 0] 3)]
def strLeft (b : Nat) (w : World) : Nat := match w.cell? ⟨b, 0, none⟩ with
  | some (.string s) => s.size
  | _ => 0

theorem strLeft_eq {b : Nat} {w : World} {s : List UInt8} (h : w.cell? ⟨b, 0, none⟩ = some (.string ⟨s.toArray⟩)) : strLeft b w = s.length := by
  unfold strLeft
  rw [h]
  exact bytes_size s
theorem perm_rev3 {A B C : HProp} {l : List HProp} : (A :: B :: C :: l).Perm (C :: B :: A :: l) :=
  (List.Perm.swap B A (C :: l)).trans (((List.Perm.swap C A l).cons B).trans (List.Perm.swap C B (A :: l)))
set_option maxRecDepth 100000 in
theorem splitSeq_any (p : List UInt8) {l : List HProp} {w : World} (hE : Ent l w) :
    Calls Tryd.prog 55 #[.string ⟨p.toArray⟩, .string ⟨#[47]⟩, .int .i64 0] w (Ret fun v w' => ∃ bs bsep bsave, v = .func (.func 78) #[] #[.pointer (some ⟨bsep, 0, none⟩), .pointer (some ⟨bs, 0, none⟩), .pointer (some ⟨bsave, 0, none⟩)] ∧ Ent (itSt p bs bsep bsave [] ++ l) w') := by
  go_enter Tryd.func55, Tryd.ntmps55
  go_wp2_with (first
    | go_skip
    | ((with_reducible (show Go.wpList _ _ _ (Go.Oper.mk _ (.box _ (.tmp 0)) _ _ _ _ :: _) _ _)); refine wpl_box hE rfl rfl rfl ?_; clear hE; intro b0 w hE1)
    | ((with_reducible (show Go.wpList _ _ _ (Go.Oper.mk _ (.box _ (.tmp 1)) _ _ _ _ :: _) _ _)); refine wpl_box hE1 rfl rfl rfl ?_; clear hE1; intro b1 w hE2)
    | ((with_reducible (show Go.wpList _ _ _ (Go.Oper.mk _ (.box _ (.tmp 2)) _ _ _ _ :: _) _ _)); refine wpl_box hE2 rfl rfl rfl ?_; clear hE2; intro b2 w hE3))
  go_ret
  refine ⟨_, rfl, b0, b1, b2, rfl, ?_⟩
  rw [itSt, rst_nil]
  exact hE3.perm perm_rev3
set_option maxRecDepth 100000 in
theorem SplitSeq_any (p : List UInt8) {l : List HProp} {w : World} (hE : Ent l w) :
    Calls Tryd.prog 41 #[.string ⟨p.toArray⟩, .string ⟨#[47]⟩] w (Ret fun v w' => ∃ bs bsep bsave, v = .func (.func 78) #[] #[.pointer (some ⟨bsep, 0, none⟩), .pointer (some ⟨bs, 0, none⟩), .pointer (some ⟨bsave, 0, none⟩)] ∧ Ent (itSt p bs bsep bsave [] ++ l) w') := by
  go_enter Tryd.func41, Tryd.ntmps41
  go_wp2_with (first
    | go_skip
    | (go_at_call 55; refine (splitSeq_any p hE).mono ?_; clear hE; rintro e w2 ⟨v, rfl, b0, b1, b2, rfl, hE2⟩))
  go_ret
  exact ⟨_, rfl, b0, b1, b2, rfl, hE2⟩

set_option maxRecDepth 100000 in
set_option maxHeartbeats 4000000 in
theorem split_iter (p : List UInt8) (hp : p.length ≤ 1099511627776) (bs bsep bsave : Nat) :
    SeqSL Tryd.prog 78 #[.pointer (some ⟨bsep, 0, none⟩), .pointer (some ⟨bs, 0, none⟩), .pointer (some ⟨bsave, 0, none⟩)] (fun x : List UInt8 => #[.string ⟨x.toArray⟩]) (cuts p) (itSt p bs bsep bsave) := by
  intro lp J Jx W hW hY
  refine callsIn_of_wp Tryd.func78 rfl trivial ?_ rfl
  simp only [Tryd.ntmps78, List.size_toArray, List.length_cons, List.length_nil, Nat.reduceAdd, Nat.reduceSub, Array.replicate_succ, Array.replicate_zero, List.push_toArray, List.append_toArray, List.nil_append, List.cons_append]
  have k1 := hW.cell 1 rfl 0
  have k0 := hW.cell 0 rfl 0
  have k2 := hW.cell 2 rfl 0
  simp only [List.getElem?_toArray, List.getElem?_cons_zero] at k0 k1 k2
  gi_wp2
  clear k0 k1 k2
  gi_loopw [7] (fun _ wr => ∃ pre, cuts p = pre ++ cuts (rst p pre) ∧ Ent (itSt p bs bsep bsave pre ++ J pre) wr) (fun _ wr => strLeft bs wr)
  case atStart => exact ⟨[], by rw [rst_nil]; rfl, hW⟩
  case round =>
    obtain ⟨pre, hc, hE⟩ := hrel
    have k0 : wr.cell? ⟨bs, 0, none⟩ = some (.string ⟨(rst p pre).toArray⟩) := hE.cell 0 rfl 0
    have k1 : wr.cell? ⟨bsep, 0, none⟩ = some (.string ⟨#[47]⟩) := hE.cell 1 rfl 0
    have k2 : wr.cell? ⟨bsave, 0, none⟩ = some (.int .i64 0) := hE.cell 2 rfl 0
    have hix := index_one ⟨(rst p pre).toArray⟩ 47 wr
    have hst := fun x (hk : x < (rst p pre).length) => rst_step p pre hk
    rcases idx_cuts (rst p pre) with ⟨hi, he⟩ | ⟨k, hk, hi, he⟩
    · have hpre : pre ++ [rst p pre] <+: cuts p := by rw [hc, he]; exact List.prefix_rfl
      have hJ := SL.hid (show cuts p = pre ++ [rst p pre] by rw [hc, he])
      obtain ⟨fn, tmps, assign, body, hy, hR⟩ := hY pre (rst p pre) wr hpre hE
      simp only [List.toList_toArray] at hix
      rw [hi] at hix
      clear hst hY hc hpre hi he
      gi_wp2_with (gi_at_call 54; refine (callsIn_wide.2 hix).mono ?_; rintro e w' ⟨rfl, rfl⟩)
      refine hR.mono ?_
      rintro e W3 (⟨rfl, hE3⟩ | ⟨rfl, hE3⟩)
      · gi_wp2
        go_end0
        exact ⟨⟨_, rfl⟩, .inl (by rw [hJ.out]; exact hE3.drop)⟩
      · gi_wp2
        go_end0
        exact ⟨⟨_, rfl⟩, .inr ⟨_, by rw [hJ.out]; exact List.prefix_rfl, hE3⟩⟩
    · have hpre : pre ++ [(rst p pre).take k] <+: cuts p := by rw [hc, he]; exact ⟨cuts ((rst p pre).drop (k + 1)), by simp⟩
      have hJ := SL.hid (show cuts p = (pre ++ [(rst p pre).take k]) ++ cuts (rst p (pre ++ [(rst p pre).take k])) by rw [hst k hk, hc, he]; simp)
      obtain ⟨fn, tmps, assign, body, hy, hR⟩ := hY pre ((rst p pre).take k) wr hpre hE
      simp only [List.toList_toArray] at hix
      rw [hi] at hix
      have hlen : (rst p pre).length ≤ 1099511627776 := by rw [rst, List.length_drop]; omega
      have hs1 := fun w => run_slice_sHi (P := Tryd.prog) Tryd.underlying9 (bs := rst p pre) (k := k) (by omega) w
      have hs2 := fun w => run_slice_sLo (P := Tryd.prog) Tryd.underlying9 (bs := rst p pre) (k := k + 1) (by omega) w
      have hw0 : wrap64 ((k : Int) + 1) = ((k + 1 : Nat) : Int) := by unfold wrap64; omega
      have hwk : wrap64 (k : Int) = (k : Int) := by unfold wrap64; omega
      have hex : (⟨(rst p pre).toArray⟩ : ByteArray).extract 0 k = ⟨((rst p pre).take k).toArray⟩ := by rw [extract_mk]; simp
      have hex2 : (⟨(rst p pre).toArray⟩ : ByteArray).extract (k + 1) (rst p pre).length = ⟨((rst p pre).drop (k + 1)).toArray⟩ := by rw [extract_mk, List.take_of_length_le (by simp)]
      have hkl : (k : Int) ≤ ((rst p pre).length : Int) := by omega
      have hkl1 : ((k + 1 : Nat) : Int) ≤ ((rst p pre).length : Int) := by omega
      have hkn : decide ((k : Int) < 0) = false := decide_eq_false (by omega)
      have hst2 := SL.hid (hst k hk)
      have hlt := SL.hid hk
      clear hst hY hc he hi hk
      gi_wp2_with (gi_at_call 54; refine (callsIn_wide.2 hix).mono ?_; rintro e w' ⟨rfl, rfl⟩)
      refine hR.mono ?_
      rintro e W3 (⟨rfl, hE3⟩ | ⟨rfl, hE3⟩)
      · have j0 : W3.cell? ⟨bs, 0, none⟩ = some (.string ⟨(rst p pre).toArray⟩) := hE3.cell 0 rfl 0
        have j1 : W3.cell? ⟨bsep, 0, none⟩ = some (.string ⟨#[47]⟩) := hE3.cell 1 rfl 0
        have jf : W3.frozen? ⟨bs, 0, none⟩ = false := hE3.frozen 0 rfl 0
        gi_wp2
        go_roundw
        case rel =>
          have h := hE3.setCell 0 rfl 0 (.string ⟨((rst p pre).drop (k + 1)).toArray⟩)
          refine ⟨_, hJ.out, ?_⟩
          rw [itSt, hst2.out]
          exact h
        case measure =>
          have h := hE3.setCell 0 rfl 0 (.string ⟨((rst p pre).drop (k + 1)).toArray⟩)
          rw [strLeft_eq k0, strLeft_eq (h.cell 0 rfl 0), List.length_drop]
          have := hlt.out
          omega
      · gi_wp2
        refine bodyPost_ret (results_none rfl _ _ _) rfl ?_
        exact ⟨⟨_, rfl⟩, .inr ⟨_, hJ.out ▸ List.prefix_append _ _, hE3⟩⟩
end Go.Proofs.YtjdignaddfhohaaDoor
namespace Go.SL
theorem results_2v {P : Program} {w : World} {fn : Func} {k j : Tmp} {t u : TypeId} (h : fn.results = #[.cell k t, .cell j u]) {tmps : Array Value} {b b2 : Nat} {v v2 : Value} (hp : tmps.getD k undef = .pointer (some ⟨b, 0, none⟩)) (hp2 : tmps.getD j undef = .pointer (some ⟨b2, 0, none⟩))
    (hA : ∀ w, (isAgg t).run P w = .ok false w) (hA2 : ∀ w, (isAgg u).run P w = .ok false w) (hc : w.cell? ⟨b, 0, none⟩ = some v) (hc2 : w.cell? ⟨b2, 0, none⟩ = some v2) : (results fn tmps).run P w = .ok (.tuple #[v, v2]) w := by
  have hp' : tmps[k]?.getD undef = .pointer (some ⟨b, 0, none⟩) := by simpa using hp
  have hp2' : tmps[j]?.getD undef = .pointer (some ⟨b2, 0, none⟩) := by simpa using hp2
  simp only [results, h]
  simp [hp', hp2', asAddr, loadVar, hA, hA2, hc, hc2]
end Go.SL
namespace Go.Proofs.YtjdignaddfhohaaDoor
open Go.RowKit Go.SL

attribute [local go_sem] Oper.semAt_some wide_fn wide_depth

def strv (s : List UInt8) : Value := .string ⟨s.toArray⟩
abbrev rowS (ao : Option Addr) (c : Nat) (xs : List (List UInt8)) : HProp := row 9 1 (.slice ao xs.length c) xs.length (xs.map strv)
theorem info_str : elemInfo Tryd.prog 9 = some (some 1, 1, 16) := by kernel_rfl

def spI (b2 b3 b4 : Nat) (l : List HProp) (pre : List (List UInt8)) : List HProp :=
  pt b2 (.cells #[.slice none 0 0] 62) :: pt b3 (.cells #[.int .i64 0] 39) :: (ex fun z : { _z : Option Addr × Nat // pre.all isName = true } => [pt b4 (.cells #[.slice z.1.1 pre.length z.1.2] 62), rowS z.1.1 z.1.2 pre]) :: l
def spX (b2 b3 : Nat) (l : List HProp) (c : Code) (pre : List (List UInt8)) : List HProp :=
  pt b2 (.cells #[.slice none 0 0] 62) :: pt b3 (.cells #[.int .i64 7] 39) :: (ex fun _ : c = .ret ∧ pre.all isName = false => []) :: l

set_option maxRecDepth 100000 in
set_option maxHeartbeats 4000000 in
theorem Split_some {p : List UInt8} (hp : p.length ≤ 1000000) (h0 : p ≠ []) {l : List HProp} {w : World} (hE : Ent l w) :
    Calls Tryd.prog 27 #[.string ⟨p.toArray⟩] w (Ret fun v w' => ∃ ao c, v = .tuple #[.slice ao (splitL p).length c, .int .i64 (splitE p)] ∧ Ent (rowS ao c (splitL p) :: l) w') := by
  have hne : (p == []) = false := by simpa using h0
  refine calls_of_marks Tryd.func27 rfl ?_
  simp only [Tryd.ntmps27, List.size_toArray, List.length_cons, List.length_nil, Nat.reduceAdd, Nat.reduceSub, Array.replicate_succ, Array.replicate_zero, List.push_toArray, List.append_toArray, List.nil_append, List.cons_append]
  go_wp2_with (first
    | go_skip
    | ((with_reducible (show Go.wpList _ _ _ (Go.Oper.mk _ (.alloc 62) _ _ _ _ :: _) _ _)); refine wpl_alloc hE rfl rfl (by simp [go_sem]; rfl) ?_; clear hE; intro b2 w hE1; simp only [Act.eval, Act.put, List.setIfInBounds_toArray, List.set_cons_zero, List.set_cons_succ, getD_lit, List.getD_cons_succ, List.getD_cons_zero, Value.cells] at hE1)
    | ((with_reducible (show Go.wpList _ _ _ (Go.Oper.mk _ (.alloc 39) _ _ _ _ :: _) _ _)); refine wpl_alloc hE1 rfl rfl (by simp [go_sem]; rfl) ?_; clear hE1; intro b3 w hE2; simp only [Act.eval, Act.put, List.setIfInBounds_toArray, List.set_cons_zero, List.set_cons_succ, getD_lit, List.getD_cons_succ, List.getD_cons_zero, Value.cells] at hE2)
    | ((with_reducible (show Go.wpList _ _ _ (Go.Oper.mk _ (.alloc 62) _ _ _ _ :: _) _ _)); refine wpl_alloc hE2 rfl rfl (by simp [go_sem]; rfl) ?_; clear hE2; intro b4 w hE3; simp only [Act.eval, Act.put, List.setIfInBounds_toArray, List.set_cons_zero, List.set_cons_succ, getD_lit, List.getD_cons_succ, List.getD_cons_zero, Value.cells] at hE3)
    | (go_at_call 41; refine (SplitSeq_any p hE3).mono ?_; clear hE3; rintro e w2 ⟨v, rfl, bs, bsep, bsave, rfl, hE4⟩))
  refine wpIn_wide.1 (wpIn_rangeSL (gf := 78) rfl (enters_of Tryd.func78 (by kernel_rfl) rfl) (split_iter p (by omega) bs bsep bsave) (fun _ => rfl) (spI b2 b3 b4 l) (spX b2 b3 l) ?e0
    (fun x => { tmps := #[.string ⟨p.toArray⟩, undef, .pointer (some ⟨b2, 0, none⟩), .pointer (some ⟨b3, 0, none⟩), .pointer (some ⟨b4, 0, none⟩), .string ⟨x.toArray⟩, .string ⟨p.toArray⟩, .bool false, .string ⟨p.toArray⟩, .func (.func 78) #[] #[.pointer (some ⟨bsep, 0, none⟩), .pointer (some ⟨bs, 0, none⟩), .pointer (some ⟨bsave, 0, none⟩)], .string ⟨x.toArray⟩, undef, undef, undef, undef, undef, undef, undef, undef, undef, undef, undef], defers := [] }) ?assign ?body ?done ?stop)
  case e0 =>
    have h := ((hE4.nil 9 1).front 4 rfl)
    have h2 := Ent.pack (f := fun z : { _z : Option Addr × Nat // ([] : List (List UInt8)).all isName = true } => [pt b4 (.cells #[.slice z.1.1 ([] : List (List UInt8)).length z.1.2] 62), rowS z.1.1 z.1.2 []]) ⟨(none, 0), rfl⟩ h
    exact ((((h2.front 4 rfl).front 5 rfl).front 5 rfl).front 5 rfl).front 5 rfl
  case assign =>
    intro lp x W K hK
    gi_wp2
    exact hK
  case body =>
    intro lp pre x W L hpre hW
    obtain ⟨⟨⟨ao, c⟩, hall⟩, hW'⟩ := (hW.front 2 rfl).unpack
    have Hall := SL.hid hall
    replace hW : Ent (pt b4 (.cells #[.slice ao pre.length c] 62) :: rowS ao c pre :: pt b2 (.cells #[.slice none 0 0] 62) :: pt b3 (.cells #[.int .i64 0] 39) :: (l ++ L)) W := hW'
    clear hW' hall
    have hxm : x ∈ cuts p := by
      obtain ⟨t, ht⟩ := hpre
      rw [← ht]; simp
    have hxl := (cuts_len p).2 x hxm
    have hpl : pre.length ≤ 1000001 := by
      have h1 := hpre.length_le
      have h2 := (cuts_len p).1
      simp at h1
      omega
    have j4 : W.cell? ⟨b4, 0, none⟩ = some (.slice ao pre.length c) := hW.cell 0 rfl 0
    have Hpre := SL.hid hpre
    clear hpre hxm
    cases hn : isName x with
    | false =>
      have Hn := SL.hid (show (pre ++ [x]).all isName = false from List.all_eq_false.2 ⟨x, by simp, by simp [hn]⟩)
      have hN := fun w => Name_any x (by omega) w
      rw [hn] at hN
      clear hn
      have j2 : W.cell? ⟨b2, 0, none⟩ = some (.slice none 0 0) := hW.cell 2 rfl 0
      have f2 : W.frozen? ⟨b2, 0, none⟩ = false := hW.frozen 2 rfl 0
      have hS := (hW.setCell 2 rfl 0 (.slice none 0 0))
      have s3 : (W.setCell ⟨b2, 0, none⟩ (.slice none 0 0)).cell? ⟨b3, 0, none⟩ = some (.int .i64 0) := hS.cell 3 rfl 0
      have g3 : (W.setCell ⟨b2, 0, none⟩ (.slice none 0 0)).frozen? ⟨b3, 0, none⟩ = false := hS.frozen 3 rfl 0
      gi_wp2_with (gi_at_call 42; refine (CallsIn.inRound lp (callsIn_wide.2 (hN _))).mono ?_; rintro e w' ⟨rfl, rfl⟩)
      have hF := (hS.setCell 3 rfl 0 (.int .i64 7)).tail.tail
      have hG := Ent.pack (f := fun _ : Code.ret = .ret ∧ (pre ++ [x]).all isName = false => []) ⟨rfl, Hn.out⟩ hF
      exact (hG.front 2 rfl).front 2 rfl
    | true =>
      have Hn := SL.hid (show (pre ++ [x]).all isName = true by rw [List.all_append, Hall.out]; simp [hn])
      have hN := fun w => Name_any x (by omega) w
      rw [hn] at hN
      clear hn
      gi_wp2_with (first
        | (gi_at_call 42; refine (CallsIn.inRound lp (callsIn_wide.2 (hN _))).mono ?_; rintro e w' ⟨rfl, rfl⟩)
        | (refine wplIn_one rfl rfl rfl (by intro c h; cases h) (by rintro ⟨_, _, h⟩; exact h) ?_; (with_reducible (show Go.wpList _ _ _ (Go.Oper.mk _ (.call { callee := .builtin .append, args := _, argTypes := _ }) _ _ _ _ :: _) _ _)); have hE9 := hW.alloc (.cells #[.string ⟨x.toArray⟩] 9); refine wpl_appendG hE9 2 rfl rfl rfl rfl rfl Tryd.underlying62 info_str (by decide) (m := 1) (news := [strv x]) (reads_pt hE9 0 rfl (off := 0) (fun j u hu => by rw [Nat.zero_add, List.getElem?_toArray]; exact hu)) rfl (by simp [strv, Value.oneCell']) (by omega) (by omega) ?_; clear hE9 hW; intro ao' c' w6 hE10; simp only [List.set_cons_zero, List.set_cons_succ] at hE10; refine wplIn_nil ?_)
        | (refine wplIn_one rfl rfl rfl (by intro c h; cases h) (by rintro ⟨_, _, h⟩; exact h) ?_; (with_reducible (show Go.wpList _ _ _ (Go.Oper.mk _ (.store 62 _ _) _ _ _ _ :: _) _ _)); refine wpl_store hE10 1 rfl rfl rfl rfl rfl (by simp [go_sem]; rfl) (by rfl) (by simp [Act.put, Value.cells, Value.oneCell', Act.eval]) (by simp) ?_; clear hE10; intro w hE11; simp only [Act.eval, getD_lit, List.getD_cons_succ, List.getD_cons_zero, Value.cells, List.set_cons_zero, List.set_cons_succ, List.take_succ_cons, List.take_zero, List.nil_append, List.cons_append, List.drop_succ_cons, List.drop_zero, List.length_cons, List.length_nil, Nat.reduceAdd, Nat.zero_add] at hE11; refine wplIn_nil ?_))
      have hF := hE11.tail
      have e1 : (pre ++ [x]).length = pre.length + 1 := by simp
      have e2 : (pre ++ [x]).map strv = pre.map strv ++ [strv x] := by simp
      have hG := Ent.pack (f := fun z : { _z : Option Addr × Nat // (pre ++ [x]).all isName = true } => [pt b4 (.cells #[.slice z.1.1 (pre ++ [x]).length z.1.2] 62), rowS z.1.1 z.1.2 (pre ++ [x])]) ⟨(ao', c'), Hn.out⟩ (by simp only [rowS, e1, e2]; exact hF)
      exact (hG.front 2 rfl).front 2 rfl
  case done =>
    intro D W hW
    obtain ⟨⟨⟨ao, c⟩, hall⟩, hW'⟩ := (hW.front 3 rfl).unpack
    replace hW : Ent (pt b4 (.cells #[.slice ao (cuts p).length c] 62) :: rowS ao c (cuts p) :: pt D (.deferred (some [])) :: pt b2 (.cells #[.slice none 0 0] 62) :: pt b3 (.cells #[.int .i64 0] 39) :: l) W := hW'
    clear hW'
    by_cases h6 : (cuts p).length ≤ 6
    · have R := SL.hid (split_good h0 hall h6)
      have hd : decide ((6 : Int) < ((cuts p).length : Int)) = false := decide_eq_false (by omega)
      clear h6 hall
      go_wp2_with (first
        | go_skip
        | ((with_reducible (show Go.wpList _ _ _ (Go.Oper.mk _ (.load 62 _) _ _ _ _ :: _) _ _)); refine wpl_load1 hW 0 rfl rfl rfl rfl (by simp [go_sem]) rfl ?_)
        | ((with_reducible (show Go.wpList _ _ _ (Go.Oper.mk _ (.store 62 _ _) _ _ _ _ :: _) _ _)); refine wpl_store hW 3 rfl rfl rfl rfl rfl (by simp [go_sem]; rfl) (by rfl) (by simp [Act.put, Value.cells, Value.oneCell', Act.eval]) (by simp) ?_; clear hW; intro w hE1; simp only [Act.eval, getD_lit, List.getD_cons_succ, List.getD_cons_zero, Value.cells, List.set_cons_zero, List.set_cons_succ, List.take_succ_cons, List.take_zero, List.nil_append, List.cons_append, List.drop_succ_cons, List.drop_zero, List.length_cons, List.length_nil, Nat.reduceAdd, Nat.zero_add] at hE1)
        | ((with_reducible (show Go.wpList _ _ _ (Go.Oper.mk _ (.store 39 _ _) _ _ _ _ :: _) _ _)); refine wpl_store hE1 4 rfl rfl rfl rfl rfl (by simp [go_sem]; rfl) (by rfl) (by simp [Act.put, Value.cells, Value.oneCell', Act.eval]) (by simp) ?_; clear hE1; intro w hE2; simp only [Act.eval, getD_lit, List.getD_cons_succ, List.getD_cons_zero, Value.cells, List.set_cons_zero, List.set_cons_succ, List.take_succ_cons, List.take_zero, List.nil_append, List.cons_append, List.drop_succ_cons, List.drop_zero, List.length_cons, List.length_nil, Nat.reduceAdd, Nat.zero_add] at hE2))
      refine post_mark rfl (hE2.front 2 rfl) (fun w' hw' => ⟨_, results_2v rfl rfl rfl (by simp [go_sem]) (by simp [go_sem]) (hw'.cell 2 rfl 0) (hw'.cell 3 rfl 0), _, rfl, ao, c, ?_, ?_⟩)
      · rw [R.out.1, R.out.2]; rfl
      · rw [R.out.1]
        exact ((hw'.tail.erase 1).erase 1)
    · have R := SL.hid (split_many h0 hall h6)
      have hd : (6 : Int) < ((cuts p).length : Int) := by omega
      clear h6 hall
      go_wp2_with (first
        | go_skip
        | ((with_reducible (show Go.wpList _ _ _ (Go.Oper.mk _ (.load 62 _) _ _ _ _ :: _) _ _)); refine wpl_load1 hW 0 rfl rfl rfl rfl (by simp [go_sem]) rfl ?_)
        | ((with_reducible (show Go.wpList _ _ _ (Go.Oper.mk _ (.store 62 _ _) _ _ _ _ :: _) _ _)); refine wpl_store hW 3 rfl rfl rfl rfl rfl (by simp [go_sem]; rfl) (by rfl) (by simp [Act.put, Value.cells, Value.oneCell', Act.eval]) (by simp) ?_; clear hW; intro w hE1; simp only [Act.eval, getD_lit, List.getD_cons_succ, List.getD_cons_zero, Value.cells, List.set_cons_zero, List.set_cons_succ, List.take_succ_cons, List.take_zero, List.nil_append, List.cons_append, List.drop_succ_cons, List.drop_zero, List.length_cons, List.length_nil, Nat.reduceAdd, Nat.zero_add] at hE1)
        | ((with_reducible (show Go.wpList _ _ _ (Go.Oper.mk _ (.store 39 _ _) _ _ _ _ :: _) _ _)); refine wpl_store hE1 4 rfl rfl rfl rfl rfl (by simp [go_sem]; rfl) (by rfl) (by simp [Act.put, Value.cells, Value.oneCell', Act.eval]) (by simp) ?_; clear hE1; intro w hE2; simp only [Act.eval, getD_lit, List.getD_cons_succ, List.getD_cons_zero, Value.cells, List.set_cons_zero, List.set_cons_succ, List.take_succ_cons, List.take_zero, List.nil_append, List.cons_append, List.drop_succ_cons, List.drop_zero, List.length_cons, List.length_nil, Nat.reduceAdd, Nat.zero_add] at hE2))
      refine post_mark rfl (hE2.front 2 rfl) (fun w' hw' => ⟨_, results_2v rfl rfl rfl (by simp [go_sem]) (by simp [go_sem]) (hw'.cell 2 rfl 0) (hw'.cell 3 rfl 0), _, rfl, none, 0, ?_, ?_⟩)
      · rw [R.out.1, R.out.2]; rfl
      · rw [R.out.1]
        exact (hw'.tail.tail.tail.tail.nil _ _)
  case stop =>
    intro D c pre W hpre hW
    obtain ⟨⟨rfl, hbad⟩, hW'⟩ := (hW.front 3 rfl).unpack
    have R := SL.hid (show splitL p = [] ∧ splitE p = 7 by
      obtain ⟨x, hx, hxn⟩ := List.all_eq_false.1 hbad
      obtain ⟨t, ht⟩ := hpre
      exact split_bad h0 (x := x) (by rw [← ht]; simp [hx]) (by simpa using hxn))
    replace hW : Ent (pt D (.deferred (some [])) :: pt b2 (.cells #[.slice none 0 0] 62) :: pt b3 (.cells #[.int .i64 7] 39) :: l) W := hW'
    clear hW' hbad hpre
    refine wpIn_wide.2 ?_
    go_wp2
    refine post_mark rfl hW (fun w' hw' => ⟨_, results_2v rfl rfl rfl (by simp [go_sem]) (by simp [go_sem]) (hw'.cell 0 rfl 0) (hw'.cell 1 rfl 0), _, rfl, none, 0, ?_, ?_⟩)
    · rw [R.out.1, R.out.2]; rfl
    · rw [R.out.1]
      exact hw'.tail.tail.nil _ _

set_option maxRecDepth 100000 in
theorem Split_any {p : List UInt8} (hp : p.length ≤ 1000000) {l : List HProp} {w : World} (hE : Ent l w) :
    Calls Tryd.prog 27 #[.string ⟨p.toArray⟩] w (Ret fun v w' => ∃ ao c, v = .tuple #[.slice ao (splitL p).length c, .int .i64 (splitE p)] ∧ Ent (rowS ao c (splitL p) :: l) w') := by
  by_cases h0 : p = []
  · subst h0
    refine calls_of_marks Tryd.func27 rfl ?_
    simp only [Tryd.ntmps27, List.size_toArray, List.length_cons, List.length_nil, Nat.reduceAdd, Nat.reduceSub, Array.replicate_succ, Array.replicate_zero, List.push_toArray, List.append_toArray, List.nil_append, List.cons_append]
    go_wp2_with (first
      | go_skip
      | ((with_reducible (show Go.wpList _ _ _ (Go.Oper.mk _ (.alloc 62) _ _ _ _ :: _) _ _)); refine wpl_alloc hE rfl rfl (by simp [go_sem]; rfl) ?_; clear hE; intro b2 w hE1; simp only [Act.eval, Act.put, List.setIfInBounds_toArray, List.set_cons_zero, List.set_cons_succ, getD_lit, List.getD_cons_succ, List.getD_cons_zero, Value.cells] at hE1)
      | ((with_reducible (show Go.wpList _ _ _ (Go.Oper.mk _ (.alloc 39) _ _ _ _ :: _) _ _)); refine wpl_alloc hE1 rfl rfl (by simp [go_sem]; rfl) ?_; clear hE1; intro b3 w hE2; simp only [Act.eval, Act.put, List.setIfInBounds_toArray, List.set_cons_zero, List.set_cons_succ, getD_lit, List.getD_cons_succ, List.getD_cons_zero, Value.cells] at hE2)
      | ((with_reducible (show Go.wpList _ _ _ (Go.Oper.mk _ (.store 62 _ _) _ _ _ _ :: _) _ _)); refine wpl_store hE2 1 rfl rfl rfl rfl rfl (by simp [go_sem]; rfl) (by rfl) (by simp [Act.put, Value.cells, Value.oneCell', Act.eval]) (by simp) ?_; clear hE2; intro w hE3; simp only [Act.eval, getD_lit, List.getD_cons_succ, List.getD_cons_zero, Value.cells, List.set_cons_zero, List.set_cons_succ, List.take_succ_cons, List.take_zero, List.nil_append, List.cons_append, List.drop_succ_cons, List.drop_zero, List.length_cons, List.length_nil, Nat.reduceAdd, Nat.zero_add] at hE3)
      | ((with_reducible (show Go.wpList _ _ _ (Go.Oper.mk _ (.store 39 _ _) _ _ _ _ :: _) _ _)); refine wpl_store hE3 0 rfl rfl rfl rfl rfl (by simp [go_sem]; rfl) (by rfl) (by simp [Act.put, Value.cells, Value.oneCell', Act.eval]) (by simp) ?_; clear hE3; intro w hE4; simp only [Act.eval, getD_lit, List.getD_cons_succ, List.getD_cons_zero, Value.cells, List.set_cons_zero, List.set_cons_succ, List.take_succ_cons, List.take_zero, List.nil_append, List.cons_append, List.drop_succ_cons, List.drop_zero, List.length_cons, List.length_nil, Nat.reduceAdd, Nat.zero_add] at hE4))
    refine post_none rfl (results_2v rfl rfl rfl (by simp [go_sem]) (by simp [go_sem]) (hE4.cell 1 rfl 0) (hE4.cell 0 rfl 0)) ⟨_, rfl, none, 0, rfl, ?_⟩
    exact hE4.tail.tail.nil _ _
  · exact Split_some hp h0 hE
end Go.Proofs.YtjdignaddfhohaaDoor
namespace Go.Proofs.YtjdignaddfhohaaDoor
open Go.RowKit Go.SL
theorem str_cells {w : World} {b off n c : Nat} {xs : List (List UInt8)} (hr : reads (.slice (some ⟨b, off, none⟩) n c) n (xs.map strv) w) {i : Nat} (hi : i < xs.length) : w.cell? ⟨b, off + i, none⟩ = some (.string ⟨xs[i].toArray⟩) := by
  obtain ⟨ao, c', e, _, h2⟩ := hr
  cases e
  have := h2 _ rfl i (strv xs[i]) (by simp [List.getElem?_eq_getElem hi])
  rwa [Addr.add_lit] at this
theorem cell_below {w : World} {b o : Nat} {v : Value} (h : w.cell? ⟨b, o, none⟩ = some v) : b < w.heap.size := by
  by_cases hb : b < w.heap.size
  · exact hb
  · exfalso
    have e : w.heap[b]? = none := Array.getElem?_eq_none (by omega)
    simp [World.cell?, e] at h
set_option maxRecDepth 100000 in
theorem Join_any {xs : List (List UInt8)} (hn : xs.length ≤ 1000) (hx : ∀ x ∈ xs, x.length ≤ 600) {ao : Option Addr} {c : Nat} (hc : xs.length ≤ c) {l : List HProp} {w : World} (hE : Ent l w) (hk : Knows l (reads (.slice ao xs.length c) xs.length (xs.map strv))) :
    Calls Tryd.prog 32 #[.slice ao xs.length c] w (Ret fun v w' => v = .string ⟨(joinP xs).toArray⟩ ∧ Ent l w') := by
  have hj : Calls Tryd.prog 45 #[.slice ao xs.length c, .string ⟨#[47]⟩] w (Ret fun v w' => v = .string ⟨(joinP xs).toArray⟩ ∧ Ent l w') := by
    cases xs with
    | nil =>
      refine (join_none ao c _ w).mono ?_
      rintro e w' ⟨rfl, rfl⟩
      exact ⟨_, rfl, rfl, hE⟩
    | cons x t =>
      obtain ⟨b, o, rfl, _⟩ := reads_form (hk _ hE) (by simp) (by simp)
      have hcell := fun i (hi : i < (x :: t).length) => str_cells (hk _ hE) hi
      have e1 : ((x :: t).map fun s => (⟨s.toArray⟩ : ByteArray)).map (·.data.toList) = x :: t := by
        rw [List.map_map]
        conv => rhs; rw [← List.map_id (x :: t)]
        congr 1
      have e2 : ((x :: t).map fun s => (⟨s.toArray⟩ : ByteArray)).length = (x :: t).length := List.length_map _
      have hl := joinP_len (x :: t) hx
      have hN := Nat.mul_le_mul_right 601 hn
      have h := join_many b o c ((x :: t).map fun s => (⟨s.toArray⟩ : ByteArray)) ⟨#[47]⟩ w
        (fun j y hy => by
          rw [List.getElem?_map] at hy
          by_cases hj : j < (x :: t).length
          · rw [List.getElem?_eq_getElem hj] at hy
            cases hy
            exact hcell j hj
          · rw [List.getElem?_eq_none (by omega)] at hy; cases hy)
        (cell_below (hcell 0 (by simp))) (by rw [e2]; omega) (by rw [e2]; exact hc) (by rw [e1]; show (joinP (x :: t)).length ≤ _; omega)
      rw [e1, e2] at h
      refine h.mono ?_
      rintro e w' ⟨rfl, hb⟩
      exact ⟨_, rfl, rfl, hE.ofBelow hb⟩
  go_enter Tryd.func32, Tryd.ntmps32
  go_wp2_with (first
    | go_skip
    | (go_at_call 45; refine hj.mono ?_; clear hE; rintro e w2 ⟨v, rfl, rfl, hE⟩))
  go_ret
  exact ⟨_, rfl, rfl, hE⟩
def RjRel (xs : List (List UInt8)) (l : List HProp) (s i : Value) (wr : World) : Prop := ∃ k : Nat, k ≤ xs.length ∧ i = .int .i64 k ∧ s = .string ⟨(joinP (xs.take k)).toArray⟩ ∧ Ent l wr
theorem catB (a b : List UInt8) (h : a.length + b.length ≤ 1099511627776) : ∃ p : List UInt8, p = a ++ b ∧ (⟨a.toArray⟩ : ByteArray) ++ ⟨b.toArray⟩ = ⟨p.toArray⟩ ∧ ¬ (9223372036854775807 < a.length + b.length) :=
  ⟨a ++ b, rfl, bytes_join a b, by omega⟩
theorem row_capJ {l : List HProp} {w : World} (hE : Ent l w) (i : Nat) {ao : Option Addr} {c : Nat} {xs : List (List UInt8)} (hi : l[i]? = some (rowS ao c xs)) : xs.length ≤ c := by
  rcases Nat.eq_zero_or_pos xs.length with h | h
  · omega
  · obtain ⟨_, _, h2, _⟩ := hE.rowIs i hi h
    exact h2
end Go.Proofs.YtjdignaddfhohaaDoor
namespace Go.SL
open Go.RowKit
section
variable {P : Program}
theorem wpIn_rangeSLB {α β : Type} {g : Operand} {ps : Array Tmp} {assign body : Code} {Q : Exit → Act → World → Prop} {a : Act} {w : World} {gf : Nat} {lb : Array Value}
    (hg : a.eval g = .func (.func gf) #[] lb) (eg : ∀ args w, (callFunc gf args).run P w = .ok (.enter gf args) w)
    {encs : α → Array Value} {xs : List α} {st : List α → List HProp} (hseq : SeqSL P gf lb encs xs st) (hps : ∀ x, (encs x).size = ps.size)
    (I : List α → List HProp) (Ix : Code → List α → List HProp) (hE : Ent (st [] ++ I []) w) (a₁ : α → β → Act) (B : α → β → List HProp)
    (hassign : ∀ (lp : Nat) (x : α) (W : World) (L : List HProp) (K : Act → World → Prop), Ent L W → (∀ y W', Ent (B x y ++ L) W' → K (a₁ x y) W') →
      assign.wpIn (Fence.wide.inRound lp) 0 P (Exit.then K (fun _ _ _ => False)) { tmps := (ps.zip (encs x)).foldl (fun t (p, v) => t.setIfInBounds p v) a.tmps, defers := [] } W)
    (hbody : ∀ (lp : Nat) (pre : List α) (x : α) (y : β) (W : World) (L : List HProp), pre ++ [x] <+: xs → Ent (B x y ++ (I pre ++ L)) W → body.wpIn (Fence.wide.inRound lp) 0 P (roundSL I Ix L (pre ++ [x])) (a₁ x y) W)
    (hdone : ∀ (D : Nat) (W : World), Ent (pt D (.deferred (some [])) :: I xs) W → Q .normal { a with defers := { target := .collected D, args := #[] } :: a.defers } W)
    (hstop : ∀ (D : Nat) (c : Code) (pre : List α) (W : World), pre <+: xs → Ent (pt D (.deferred (some [])) :: Ix c pre) W → c.wpIn Fence.wide 0 P Q { a with defers := { target := .collected D, args := #[] } :: a.defers } W) :
    (Code.rangeFunc g ps assign body).wpIn Fence.wide 0 P Q a w := by
  refine wpIn_rangeFunc ?_
  intro fn hfn
  obtain ⟨d, hd⟩ : ∃ d, d = w.heap.size := ⟨_, rfl⟩
  obtain ⟨rc, hrc⟩ : ∃ rc : LoopState → Option Code → Loop, rc = fun s p => { state := s, pending := p, fn, tmps := a.tmps, params := ps, assign, body, defers := d } := ⟨_, rfl⟩
  have h1 : Ent (pt (d + 1) (.loop (rc .ready none)) :: pt d (.deferred (some [])) :: (st [] ++ I [])) ((w.alloc (.deferred (some []))).alloc (.loop (rc .ready none))) := by
    have := (hE.alloc (.deferred (some []))).alloc (.loop (rc .ready none))
    rwa [World.size_alloc, ← hd] at this
  generalize hW1 : (w.alloc (.deferred (some []))).alloc (.loop (rc .ready none)) = W1 at h1
  refine ⟨d + 1, [{ target := .collected d, args := #[] }], W1, { target := .fn (.func gf) lb, args := #[.func (.yield (d + 1)) #[] #[]] }, W1, gf, #[.func (.yield (d + 1)) #[] #[]] ++ lb, W1, ?_, ?_, fun _ _ => trivial, ?_, fun h => (by cases h), ?_⟩
  · rw [← hW1, hrc, hd]; exact run_enterLoop_outer _ _ _ _ _
  · simp only [resolve, hg]
    simp [go_sem]
  · simp [invoke, go_sem, eg]
  · refine (hseq (d + 1) (fun pre => I pre ++ [pt (d + 1) (.loop (rc .ready none)), pt d (.deferred (some []))]) (fun pre => [ex fun c => Ix c pre ++ [pt (d + 1) (.loop (rc .done (some c))), pt d (.deferred (some []))]]) W1 (h1.perm perm_2') ?_).mono ?_
    · rintro pre x W hpre hW
      replace hW := hW.perm perm_2
      have hy := run_yield (P := P) (args := encs x) hW.head (by rw [hrc]; exact hps x)
      rw [hrc] at hy
      refine ⟨fn, _, assign, body, hy, roundIn_of_wpIn trivial (hassign _ x W _ _ hW fun y W' hW' => ?_)⟩
      clear hy
      replace hW := hW'.perm List.perm_middle
      clear hW'
      refine ⟨_, run_beginRound hW.head (by rw [hrc]), ?_⟩
      have hb : Ent (pt (d + 1) (.loop { rc .ready none with state := .busy }) :: (B x y ++ (pt d (.deferred (some [])) :: (st pre ++ I pre)))) (W'.putObj (d + 1) (.loop { rc .ready none with state := .busy })) := hW.setMap 0 rfl
      replace hb := hb.perm (List.perm_middle (l₁ := B x y)).symm
      refine wpIn_mono (hbody _ pre x y _ (pt (d + 1) (.loop { rc .ready none with state := .busy }) :: pt d (.deferred (some [])) :: st pre) hpre (hb.perm (perm_3.symm.append_left _))) ?_
      rintro e a3 W3 hp
      cases e with
      | normal =>
        have h3 : Ent _ W3 := Ent.perm hp perm_3
        refine ⟨_, _, run_endRound none h3.head, .inl ⟨rfl, ?_⟩⟩
        have h4 := h3.setMap 0 (ob' := .loop { { rc .ready none with state := .busy } with state := if (none : Option Code).isNone then .ready else .done, pending := none }) rfl
        rw [hrc] at h4 ⊢
        exact Ent.perm h4 perm_2'
      | ret =>
        have h3 : Ent _ W3 := (Ent.perm hp perm_3)
        refine ⟨_, _, run_endRound (some .ret) h3.head, .inr ⟨rfl, ?_⟩⟩
        have h4 := h3.setMap 0 (ob' := .loop { { rc .ready none with state := .busy } with state := if (some Code.ret).isNone then .ready else .done, pending := some .ret }) rfl
        rw [hrc] at h4 ⊢
        exact Ent.pack (l := []) Code.ret (by rw [List.append_nil]; exact (Ent.perm h4 perm_2').drop)
      | exit id =>
        have h3 : Ent _ W3 := (Ent.perm hp perm_3)
        refine ⟨_, _, run_endRound (some (.exit id)) h3.head, .inr ⟨rfl, ?_⟩⟩
        have h4 := h3.setMap 0 (ob' := .loop { { rc .ready none with state := .busy } with state := if (some (Code.exit id)).isNone then .ready else .done, pending := some (.exit id) }) rfl
        rw [hrc] at h4 ⊢
        exact Ent.pack (l := []) (Code.exit id) (by rw [List.append_nil]; exact (Ent.perm h4 perm_2').drop)
      | goto t => exact hp.elim
      | panic ch => exact hp.elim
      | outgrown => exact hp.elim
    · rintro e W2 ⟨⟨v, rfl⟩, hJ | ⟨pre, hpre, hJ⟩⟩
      · have h3 := Ent.perm hJ (perm_2 (l := []))
        refine ⟨none, _, by have := run_endLoop (P := P) h3.head (by rw [hrc]; simp); rw [hrc] at this; exact this, ?_⟩
        have h4 := h3.setMap 0 (ob' := .loop { rc .ready none with state := .exhausted }) rfl
        rw [hrc] at h4
        exact hdone d _ h4.tail
      · obtain ⟨c, hJ⟩ := hJ.unpack
        rw [List.append_nil] at hJ
        have h3 := Ent.perm hJ (perm_2 (l := []))
        refine ⟨some c, _, by have := run_endLoop (P := P) h3.head (by rw [hrc]; simp); rw [hrc] at this; exact this, ?_⟩
        have h4 := h3.setMap 0 (ob' := .loop { rc .done (some c) with state := .exhausted }) rfl
        rw [hrc] at h4
        exact hstop d c pre _ hpre h4.tail


/-- of a region that only comes to its end -/
def onlyN (K : Act → World → Prop) : Exit → Act → World → Prop
  | .normal, a, w => K a w
  | _, _, _ => False
theorem wp_onlyN {c : Code} {Q : Exit → Act → World → Prop} {a : Act} {w : World} (h : c.wp P (onlyN (fun a w => Q .normal a w)) a w) : c.wp P Q a w :=
  wp_mono h (by
    intro e a w h
    cases e <;> first | exact h | exact h.elim)
theorem onlyN_n {Q : Exit → Act → World → Prop} {a : Act} {w : World} (h : Q .normal a w) : onlyN (fun a w => Q .normal a w) .normal a w := h

/-- an operation carried out in a round, as anywhere -/
theorem opIn_of_op {F : Fence} {n : Nat} {ops : Array Oper} {Q : Exit → Act → World → Prop} {K : Act → World → Prop} {i : Nat} {a : Act} {w : World} (hF : F.fn = fun _ => True) (hdp : F.depth = none) (hal : F.alive = false) (hnd : ∀ o, ops[i]? = some o → ∀ c, o.op ≠ .defer c) (hlo : ¬ ∃ a w, Q .outgrown a w)
    (h : wpOp P ops Q i K a w) : wpOpIn F n P ops Q i K a w := by
  have e1 : Machine.fenced P F = Machine.fenced P Fence.wide := by
    funext m
    simp only [Machine.fenced, hF, hdp, hal, Fence.room, Fence.wide]
  have hCI : ∀ {f args w R}, Calls P f args w R → CallsIn F (n - 1) P f args w R := fun {f args w R} h => by
    refine ⟨by rw [hF]; trivial, fun cs _ => ?_⟩
    obtain ⟨e, w', fr, r, s, x⟩ := (callsIn_wide (n := n - 1)).2 h |>.2 cs (room_wide _)
    exact ⟨e, w', fr, r, by rw [e1]; exact s, x⟩
  unfold wpOp at h
  unfold wpOpIn
  split at h
  · rename_i ho; simp only [ho]; exact h
  · rename_i o ho
    simp only [ho]
    split at h
    · rename_i hw
      rw [if_pos hw]
      replace h := h.resolve_right (fun hh => hlo hh.2)
      refine ⟨fun _ _ => by rw [hF]; trivial, ?_⟩
      have hs : o.semAt F.round a.eval = execOp a.eval o := by
        cases hr : F.round with
        | none => simp [Oper.semAt_none]
        | some l => exact Oper.semAt_some l _ o (hnd o ho)
      rw [hs]
      unfold Oper.wp at h
      generalize (execOp a.eval o).run P w = r at h
      unfold Oper.upon at h
      unfold Oper.uponIn
      split at h
      · exact h
      · exact h
      · exact h
      · refine ⟨fun hh => (by rw [hdp] at hh; cases hh), (hCI h).mono ?_⟩
        intro e w2 h2
        cases e with
        | returned v => exact h2
        | panicked ch => exact h2
        | outgrown => exact h2
      · refine ⟨fun hh => (by rw [hdp] at hh; cases hh), fun c cs _ => ?_⟩
        obtain ⟨v, w', r, s⟩ := h c cs
        exact ⟨v, w', r, by rw [e1]; exact stepsIn_wide.2 s⟩
      · exact h
      · exact h.elim
    · rename_i hw
      rw [if_neg hw]
      exact ⟨fun _ _ => by rw [hF]; trivial, h⟩
theorem anyIn_of_held {F : Fence} {n : Nat} {md : Region.Mode} {ops : Array Oper} {Q : Exit → Act → World → Prop} {S : World → Prop} (hF : F.fn = fun _ => True) (hdp : F.depth = none) (hal : F.alive = false) (hnd : ∀ (i : Nat) o, ops[i]? = some o → ∀ c, o.op ≠ .defer c) (hlo : ¬ ∃ a w, Q .outgrown a w) :
    ∀ (fuel : Nat) (listed : Array Bool) (a : Act) (w : World), wpAnyH P md ops Q S fuel listed a w → wpAnyIn F n P md ops Q fuel listed a w
  | 0, _, _, _, h => h
  | fuel + 1, _, _, _, h => ⟨h.1, fun i hi => wpOpIn_mono (fun a' w' h' => anyIn_of_held hF hdp hal hnd hlo fuel _ a' w' h'.2) (opIn_of_op hF hdp hal (hnd i) hlo (h.2 i hi))⟩

/-- A region that draws its order, in a round: walked as anywhere, and it comes to its end. -/
theorem wpIn_region_held_drew {F : Fence} {n : Nat} {ops : Array Oper} {Q : Exit → Act → World → Prop} {S : World → Prop} {id : Nat} {a : Act} {w : World} (hF : F.fn = fun _ => True) (hdp : F.depth = none) (hal : F.alive = false) (hnd : (ops.toList.all fun o => match o.op with | .defer _ => false | _ => true) = true)
    (hm : P.follows .mixedOrders = true) (hS : S w.drew) (h : S w.drew → wpAnyH P .any ops (onlyN (fun a w => Q .normal a w)) S ops.size (Array.replicate ops.size false) a w.drew) : (Code.region id ops true).wpIn F n P Q a w := by
  have hnd' : ∀ (i : Nat) o, ops[i]? = some o → ∀ c, o.op ≠ .defer c := fun i o ho c hc => by
    have hm : o ∈ ops.toList := by
      have h2 : ops.toList[i]? = some o := by simpa using ho
      exact List.mem_of_getElem? h2
    have := List.all_eq_true.1 hnd o hm
    rw [hc] at this
    cases this
  refine wpIn_mono (Q := onlyN (fun a w => Q .normal a w)) (wpIn_region_any hm (anyIn_of_held hF hdp hal hnd' (by rintro ⟨_, _, h⟩; exact h) _ _ _ _ (h hS))) ?_
  intro e a w h
  cases e <;> first | exact h | exact h.elim
end
end Go.SL
