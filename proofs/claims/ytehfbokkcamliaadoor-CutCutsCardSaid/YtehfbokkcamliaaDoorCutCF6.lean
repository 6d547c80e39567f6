/-
  A tree and its entries, plain: what is right in a directory, by names, and all that is in it.
-/
import Derived.Test.YtehfbokkcamliaaDoorCutCF5
import Derived.Shelf.Lay
import Derived.Lib.Strings
import Derived.Lib.Walk
import Derived.Lib.Bytealg
import Derived.Shelf.RegionOpen
namespace Go.Proofs.YtehfbokkcamliaaDoor
open Go.RowKit Go.SL

/-- a kid's entry -/
def entOf (q : List (List UInt8)) (k : List UInt8 × Tr) : En := ⟨joinP (q ++ [k.1]), k.2.dir, k.2.data⟩
def sortT (q : List (List UInt8)) (p : Tr) : List En := p.kids.map (entOf q)
theorem bl_append : ∀ (s a b : List UInt8), Op.bytesLess (s ++ a) (s ++ b) = Op.bytesLess a b
  | [], _, _ => rfl
  | c :: s, a, b => by
    rw [Bool.eq_iff_iff, List.cons_append, List.cons_append, bl_cons, bl_append s a b]
    constructor
    · rintro (h | h)
      · omega
      · exact h.2
    · exact fun h => .inr ⟨rfl, h⟩
theorem bl_join (q : List (List UInt8)) (a b : List UInt8) : Op.bytesLess (joinP (q ++ [a])) (joinP (q ++ [b])) = Op.bytesLess a b := by
  by_cases h : q = []
  · subst h
    rw [List.nil_append, List.nil_append, joinP_one, joinP_one]
  · rw [joinP_end h, joinP_end h, bl_append]
    exact bl_append [47] a b
theorem sortT_rising {q : List (List UInt8)} {p : Tr} (h : Rising p.names) : Rising ((sortT q p).map En.path) := by
  intro i hi
  simp only [sortT, List.length_map] at hi
  simp only [sortT, List.getElem_map, entOf, bl_join]
  have := h i (by simpa [Tr.names] using hi)
  simpa [Tr.names] using this
theorem kidsD_nodup {L : List En} (h : (L.map En.path).Nodup) (p : List UInt8) : (kidsD L p).Nodup := by
  have h2 : ((kidsD L p).map En.path).Nodup := h.sublist (List.Sublist.map _ List.filter_sublist)
  exact (List.pairwise_map.1 h2).imp fun h e => h (by rw [e])
/-- what the document sorts -/
theorem sortT_perm {t p : Tr} {L : List En} {d : Nat} {q : List (List UInt8)} (hR : Rel t L) (hw : Tr.Wf d t) (hq : q.all isName = true) (lq : q.length ≤ 6) (hg : Tr.get? q t = some p) :
    (kidsD L (joinP q)).Perm (sortT q p) := by
  obtain ⟨r1, r2, r3⟩ := hR
  obtain ⟨e, he⟩ := wf_get hw hg
  have hr := Tr.wf_rising he
  have n2 : (sortT q p).Nodup := by
    have := nodup_rising (sortT_rising (q := q) hr)
    exact (List.pairwise_map.1 this).imp fun h e => h (by rw [e])
  refine (List.perm_ext_iff_of_nodup (kidsD_nodup r2 _) n2).2 fun y => ?_
  constructor
  · intro hy
    obtain ⟨hy1, hy2⟩ := List.mem_filter.1 hy
    obtain ⟨n, hn⟩ := (kidsD_iff r1 hq lq hy1).1 (beq_iff_eq.1 hy2)
    have hl := (r3 (q ++ [n]) (by simp) y.dir y.data).2 ⟨y, hy1, hn, rfl, rfl⟩
    rw [Tr.look?, get_snoc hg] at hl
    cases hk : p.kid? n with
    | none => rw [hk] at hl; cases hl
    | some k =>
      rw [hk] at hl
      simp only [Option.map_some, Option.some.injEq, Prod.mk.injEq] at hl
      refine List.mem_map.2 ⟨(n, k), Tr.kid_mem hk, ?_⟩
      have hp := (split_names (r1 y hy1).1).2.2.1
      rw [hn] at hp
      rw [entOf, hp, hl.1, hl.2]
  · intro hy
    obtain ⟨⟨n, k⟩, hk, rfl⟩ := List.mem_map.1 hy
    have hkk := (Tr.kid_iff hr).2 hk
    have hl : Tr.look? (q ++ [n]) t = some (k.dir, k.data) := by rw [Tr.look?, get_snoc hg, hkk]; rfl
    obtain ⟨x, hx, e1, e2, e3⟩ := (r3 _ (by simp) _ _).1 hl
    have hp := (split_names (r1 x hx).1).2.2.1
    rw [e1] at hp
    have hxe : x = entOf q (n, k) := by
      obtain ⟨xp, xd, xb⟩ := x
      simp only at e2 e3 hp
      rw [entOf, e2, e3, hp]
    rw [← hxe]
    exact List.mem_filter.2 ⟨hx, beq_iff_eq.2 ((kidsD_iff r1 hq lq hx).2 ⟨n, e1⟩)⟩
/-- all that is in a directory, so deep -/
def entT : Nat → List (List UInt8) → Tr → List En
  | 0, _, _ => []
  | d + 1, q, t => t.kids.flatMap fun k => entOf q k :: entT d (q ++ [k.1]) k.2
theorem entT_file {d : Nat} {q : List (List UInt8)} {t : Tr} (h : t.kids = []) : entT d q t = [] := by
  cases d with
  | zero => rfl
  | succ d => rw [entT, h]; rfl
/-- deeper does not tell more -/
theorem entT_deep : ∀ {d : Nat} {q : List (List UInt8)} {t : Tr}, Tr.Wf d t → entT (d + 1) q t = entT d q t
  | 0, q, t, h => by rw [entT_file h.1, entT_file h.1]
  | d + 1, q, t, h => by
    rw [entT, entT]
    have : ∀ k ∈ t.kids, (entOf q k :: entT (d + 1) (q ++ [k.1]) k.2) = entOf q k :: entT d (q ++ [k.1]) k.2 := fun k hk => by
      rw [entT_deep (h.2.2.2.2.2 k hk).2]
    rw [List.flatMap_def, List.flatMap_def, List.map_congr_left this]
end Go.Proofs.YtehfbokkcamliaaDoor
namespace Go.Proofs.YtehfbokkcamliaaDoor
open Go.RowKit Go.SL

/-- what is at names, as the program finds it (kE: what names are behind a file; nE: there is none) -/
def atT (kE nE : Int) : List (List UInt8) → Tr → Int × Tr
  | [], t => (0, t)
  | n :: r, t => if t.dir then (match t.kid? n with
    | none => (nE, .zero)
    | some k => atT kE nE r k) else (kE, .zero)
theorem atT_get {kE nE : Int} (hk : kE ≠ 0) (hn : nE ≠ 0) : ∀ {q : List (List UInt8)} {t : Tr} {d : Nat}, Tr.Wf d t → ((atT kE nE q t).1 = 0 ↔ (Tr.get? q t).isSome) ∧ (∀ p, Tr.get? q t = some p → (atT kE nE q t).2 = p)
  | [], t, d, _ => ⟨⟨fun _ => rfl, fun _ => rfl⟩, fun p h => by cases h; rfl⟩
  | n :: r, t, d, hw => by
    rw [atT, Tr.get?]
    cases hd : t.dir with
    | false =>
      have : t.kid? n = none := by rw [Tr.kid?, Tr.wf_file hw hd]; rfl
      rw [this]
      exact ⟨⟨fun h => absurd h hk, fun h => by cases h⟩, fun p h => by cases h⟩
    | true =>
      rw [if_pos rfl]
      cases hkd : t.kid? n with
      | none => exact ⟨⟨fun h => absurd h hn, fun h => by cases h⟩, fun p h => by cases h⟩
      | some k =>
        obtain ⟨e, _, he⟩ := Tr.wf_kid hw (Tr.kid_mem hkd)
        exact atT_get hk hn he
/-- a kid of a name, as the document looks for it: an entry of that path, right in the directory -/
theorem kid_entry {t p : Tr} {L : List En} {d : Nat} {q : List (List UInt8)} (hR : Rel t L) (hw : Tr.Wf d t) (hq : q.all isName = true) (lq : q.length ≤ 6) (hg : Tr.get? q t = some p) {n : List UInt8} (hn : isName n = true) {y : En} :
    (y ∈ kidsD L (joinP q) ∧ y.path = joinP (q ++ [n])) ↔ ∃ k, p.kid? n = some k ∧ y = entOf q (n, k) := by
  have hperm := sortT_perm hR hw hq lq hg
  obtain ⟨e, he⟩ := wf_get hw hg
  have hr := Tr.wf_rising he
  rw [hperm.mem_iff, sortT, List.mem_map]
  constructor
  · rintro ⟨⟨⟨m, k⟩, hk, rfl⟩, hp⟩
    have hm : m = n := by
      have hb := bl_irrefl (joinP (q ++ [m]))
      have h1 : joinP (q ++ [m]) = joinP (q ++ [n]) := hp
      have h2 : Op.bytesLess m n = false := by rw [← bl_join q, h1]; exact bl_irrefl _
      have h3 : Op.bytesLess n m = false := by rw [← bl_join q, h1]; exact bl_irrefl _
      by_cases h4 : m = n
      · exact h4
      · have := bl_total h4 h2
        rw [h3] at this; cases this
    subst hm
    exact ⟨k, (Tr.kid_iff hr).2 hk, rfl⟩
  · rintro ⟨k, hk, rfl⟩
    exact ⟨⟨(n, k), Tr.kid_mem hk, rfl⟩, rfl⟩
/-- no kid has a name that is none -/
theorem kid_name {t k : Tr} {d : Nat} {n : List UInt8} (hw : Tr.Wf d t) (h : t.kid? n = some k) : isName n = true := by
  cases d with
  | zero => have := Tr.kid_mem h; rw [hw.1] at this; cases this
  | succ d => exact (hw.2.2.2.2.2 _ (Tr.kid_mem h)).1
theorem get_names : ∀ {q : List (List UInt8)} {t p : Tr} {d : Nat}, Tr.Wf d t → Tr.get? q t = some p → q.all isName = true ∧ q.length ≤ d
  | [], _, _, _, _, _ => ⟨rfl, Nat.zero_le _⟩
  | n :: q, t, p, d, hw, h => by
    rw [Tr.get?] at h
    cases hk : t.kid? n with
    | none => rw [hk] at h; cases h
    | some k =>
      rw [hk] at h
      obtain ⟨e, rfl, he⟩ := Tr.wf_kid hw (Tr.kid_mem hk)
      obtain ⟨a, b⟩ := get_names he h
      refine ⟨?_, by simp only [List.length_cons]; omega⟩
      rw [List.all_cons, kid_name hw hk, a]; rfl
end Go.Proofs.YtehfbokkcamliaaDoor
namespace Go.Proofs.YtehfbokkcamliaaDoor
open Go.RowKit Go.SL

theorem rising_ext {a b : List (List UInt8)} (ha : Rising a) (hb : Rising b) (h : ∀ n, n ∈ a ↔ n ∈ b) : a = b := by
  have hp : a.Perm b := (List.perm_ext_iff_of_nodup (nodup_rising ha) (nodup_rising hb)).2 h
  have pa : a.Pairwise fun x y => Op.bytesLess x y = true := List.pairwise_iff_getElem.2 fun i j _ hj hij => ha.of hij hj
  have pb : b.Pairwise fun x y => Op.bytesLess x y = true := List.pairwise_iff_getElem.2 fun i j _ hj hij => hb.of hij hj
  refine hp.eq_of_pairwise (fun x y _ _ h1 h2 => ?_) pa pb
  rw [bl_asymm h1] at h2; cases h2
theorem tr_ext : ∀ {d : Nat} {t s : Tr}, Tr.Wf d t → Tr.Wf d s → (∀ q, Tr.look? q t = Tr.look? q s) → t = s
  | 0, .nd a b c, .nd a' b' c', ht, hs, h => by
    have h0 := h []
    simp only [Tr.look_nil, Tr.dir, Tr.data, Option.some.injEq, Prod.mk.injEq] at h0
    have e1 : c = [] := ht.1
    have e2 : c' = [] := hs.1
    rw [e1, e2, h0.1, h0.2]
  | d + 1, t, s, ht, hs, h => by
    have h0 := h []
    simp only [Tr.look_nil, Option.some.injEq, Prod.mk.injEq] at h0
    have rt := Tr.wf_rising ht
    have rs := Tr.wf_rising hs
    have some_kid : ∀ {u : Tr} {n : List UInt8}, (Tr.look? [n] u).isSome = (u.kid? n).isSome := fun {u n} => by
      rw [Tr.look_cons]
      cases u.kid? n <;> rfl
    have hmem : ∀ {u : Tr} {n : List UInt8}, n ∈ u.names ↔ (u.kid? n).isSome = true := fun {u n} => by
      have : n ∈ u.names ↔ isIn u.names n = true := by rw [isIn, List.contains_iff_mem]
      rw [this]
      cases hk : u.kid? n with
      | none => rw [Tr.kid_none.1 hk]; simp
      | some k =>
        cases hi : isIn u.names n with
        | true => simp
        | false => rw [Tr.kid_none.2 hi] at hk; cases hk
    have hn : t.names = s.names := rising_ext rt rs fun n => by
      rw [hmem, hmem, ← some_kid, ← some_kid, h [n]]
    have hlen : t.kids.length = s.kids.length := by
      have := congrArg List.length hn
      simpa [Tr.names] using this
    have hk : t.kids = s.kids := by
      refine List.ext_getElem hlen fun i h1 h2 => ?_
      have e1 : t.kids[i].1 = s.kids[i].1 := by
        have : t.names[i]'(by simpa [Tr.names] using h1) = s.names[i]'(by simpa [Tr.names] using h2) := by simp only [hn]
        simpa [Tr.names] using this
      have k1 := Tr.kid_at rt h1
      have k2 := Tr.kid_at rs h2
      rw [← e1] at k2
      have e2 : t.kids[i].2 = s.kids[i].2 := by
        refine tr_ext (ht.2.2.2.2.2 _ (List.getElem_mem h1)).2 (hs.2.2.2.2.2 _ (List.getElem_mem h2)).2 fun q => ?_
        have := h (t.kids[i].1 :: q)
        rw [Tr.look_cons, Tr.look_cons, k1, k2] at this
        exact this
      exact Prod.ext e1 e2
    obtain ⟨a, b, c⟩ := t
    obtain ⟨a', b', c'⟩ := s
    have hk' : c = c' := hk
    have ha : a = a' := h0.1
    have hb : b = b' := h0.2
    rw [ha, hb, hk']
/-- who is among all entries -/
theorem entT_mem : ∀ {d : Nat} {q : List (List UInt8)} {t : Tr}, Tr.Wf d t → ∀ {y : En}, y ∈ entT d q t ↔ ∃ s k, s ≠ [] ∧ Tr.get? s t = some k ∧ y = ⟨joinP (q ++ s), k.dir, k.data⟩
  | 0, q, t, h, y => by
    constructor
    · intro h1; cases h1
    · rintro ⟨s, k, hs, hg, _⟩
      rcases s with _ | ⟨n, r⟩
      · exact absurd rfl hs
      · rw [Tr.get?, Tr.kid?, h.1] at hg; cases hg
  | d + 1, q, t, h, y => by
    have hr := Tr.wf_rising h
    rw [entT, List.mem_flatMap]
    constructor
    · rintro ⟨⟨n, k⟩, hk, hy⟩
      have hkk := (Tr.kid_iff hr).2 hk
      rcases List.mem_cons.1 hy with rfl | hy
      · refine ⟨[n], k, by simp, ?_, rfl⟩
        rw [Tr.get?, hkk]; rfl
      · obtain ⟨s, p, _, hg, rfl⟩ := (entT_mem (h.2.2.2.2.2 _ hk).2).1 hy
        refine ⟨n :: s, p, by simp, ?_, ?_⟩
        · rw [Tr.get?, hkk]; exact hg
        · rw [List.append_assoc]; rfl
    · rintro ⟨s, p, hs, hg, rfl⟩
      rcases s with _ | ⟨n, r⟩
      · exact absurd rfl hs
      · rw [Tr.get?] at hg
        cases hk : t.kid? n with
        | none => rw [hk] at hg; cases hg
        | some k =>
          rw [hk] at hg
          refine ⟨(n, k), Tr.kid_mem hk, ?_⟩
          by_cases hr0 : r = []
          · subst hr0
            cases hg
            exact List.mem_cons.2 (.inl rfl)
          · refine List.mem_cons.2 (.inr ((entT_mem (h.2.2.2.2.2 _ (Tr.kid_mem hk)).2).2 ⟨r, p, hr0, hg, ?_⟩))
            rw [List.append_assoc]; rfl
end Go.Proofs.YtehfbokkcamliaaDoor
namespace Go.Proofs.YtehfbokkcamliaaDoor
open Go.RowKit Go.SL

/-- the names of all entries -/
def entS : Nat → List (List UInt8) → Tr → List (List (List UInt8))
  | 0, _, _ => []
  | d + 1, q, t => t.kids.flatMap fun k => (q ++ [k.1]) :: entS d (q ++ [k.1]) k.2
theorem entS_path : ∀ {d : Nat} {q : List (List UInt8)} {t : Tr}, (entT d q t).map En.path = (entS d q t).map joinP
  | 0, _, _ => rfl
  | d + 1, q, t => by
    rw [entT, entS, List.map_flatMap, List.map_flatMap]
    congr 1
    funext k
    rw [List.map_cons, List.map_cons, entS_path]; rfl
theorem entS_pre : ∀ {d : Nat} {q s : List (List UInt8)} {t : Tr}, s ∈ entS d q t → ∃ n r, s = q ++ n :: r ∧ n ∈ t.names
  | 0, _, _, _, h => by cases h
  | d + 1, q, s, t, h => by
    rw [entS, List.mem_flatMap] at h
    obtain ⟨k, hk, h⟩ := h
    have hn : k.1 ∈ t.names := List.mem_map.2 ⟨k, hk, rfl⟩
    rcases List.mem_cons.1 h with rfl | h
    · exact ⟨k.1, [], rfl, hn⟩
    · obtain ⟨n, r, rfl, _⟩ := entS_pre h
      exact ⟨k.1, n :: r, by rw [List.append_assoc]; rfl, hn⟩
theorem entS_nodup : ∀ {d : Nat} {q : List (List UInt8)} {t : Tr}, Tr.Wf d t → (entS d q t).Nodup
  | 0, _, _, _ => List.nodup_nil
  | d + 1, q, t, h => by
    have hr := nodup_rising (Tr.wf_rising h)
    rw [entS]
    refine List.pairwise_flatMap.2 ⟨fun k hk => ?_, ?_⟩
    · refine List.nodup_cons.2 ⟨fun hm => ?_, entS_nodup (h.2.2.2.2.2 k hk).2⟩
      obtain ⟨n, r, e, _⟩ := entS_pre hm
      have := congrArg List.length e
      simp at this
    · refine (List.pairwise_map.1 hr).imp fun {a b} hab x hx y hy e => ?_
      have pre : ∀ {k : List UInt8 × Tr} {x : List (List UInt8)}, x ∈ (q ++ [k.1]) :: entS d (q ++ [k.1]) k.2 → ∃ r, x = q ++ k.1 :: r := fun {k x} hx => by
        rcases List.mem_cons.1 hx with rfl | hx
        · exact ⟨[], rfl⟩
        · obtain ⟨n, r, rfl, _⟩ := entS_pre hx
          exact ⟨n :: r, by rw [List.append_assoc]; rfl⟩
      obtain ⟨r1, e1⟩ := pre hx
      obtain ⟨r2, e2⟩ := pre hy
      rw [e1, e2] at e
      have := List.append_cancel_left e
      exact hab (List.cons.inj this).1
/-- each entry's directory stands ahead of it -/
def Ahead (base : List UInt8) (l : List En) : Prop := ∀ A x B, l = A ++ x :: B → parP x.path = base ∨ ∃ y ∈ A, y.path = parP x.path ∧ y.dir = true
theorem Ahead.nil (b : List UInt8) : Ahead b [] := fun A x B h => by cases A <;> cases h
theorem Ahead.append {b : List UInt8} {l m : List En} (h1 : Ahead b l) (h2 : Ahead b m) : Ahead b (l ++ m) := by
  intro A x B h
  rcases List.append_eq_append_iff.1 h with ⟨C, e1, e2⟩ | ⟨C, e1, e2⟩
  · rcases h2 C x B e2 with h3 | ⟨y, hy, h4⟩
    · exact .inl h3
    · exact .inr ⟨y, by rw [e1]; simp [hy], h4⟩
  · cases C with
    | nil =>
      rw [List.nil_append] at e2
      rcases h2 [] x B (by rw [← e2]; rfl) with h3 | ⟨y, hy, _⟩
      · exact .inl h3
      · cases hy
    | cons c C =>
      rw [List.cons_append] at e2
      obtain ⟨rfl, _⟩ := List.cons.inj e2
      exact h1 A x C e1
theorem Ahead.flat {b : List UInt8} {α : Type} {f : α → List En} : ∀ {l : List α}, (∀ a ∈ l, Ahead b (f a)) → Ahead b (l.flatMap f)
  | [], _ => Ahead.nil b
  | a :: l, h => by
    rw [List.flatMap_cons]
    exact (h a (by simp)).append (Ahead.flat fun c hc => h c (by simp [hc]))
theorem entT_ahead : ∀ {d : Nat} {q : List (List UInt8)} {t : Tr}, Tr.Wf d t → Ahead (joinP q) (entT d q t)
  | 0, q, t, _ => Ahead.nil _
  | d + 1, q, t, h => by
    rw [entT]
    refine Ahead.flat fun k hk => ?_
    have hn := (h.2.2.2.2.2 k hk).1
    have hwk := (h.2.2.2.2.2 k hk).2
    have ih := entT_ahead (q := q ++ [k.1]) hwk
    intro A x B e
    cases A with
    | nil =>
      rw [List.nil_append] at e
      obtain ⟨rfl, _⟩ := List.cons.inj e
      exact .inl (parP_join hn)
    | cons a A =>
      rw [List.cons_append] at e
      obtain ⟨rfl, e2⟩ := List.cons.inj e
      rcases ih A x B e2 with h3 | ⟨y, hy, h4⟩
      · refine .inr ⟨entOf q k, by simp, h3.symm, ?_⟩
        cases hd : k.2.dir with
        | true => exact hd
        | false =>
          have := entT_file (d := d) (q := q ++ [k.1]) (Tr.wf_file hwk hd)
          rw [this] at e2
          cases A <;> cases e2
      · exact .inr ⟨y, by simp [hy], h4⟩
end Go.Proofs.YtehfbokkcamliaaDoor
namespace Go.Proofs.YtehfbokkcamliaaDoor
open Go.RowKit Go.SL

theorem all_mem {t : Tr} {L : List En} (h : Good t L) {y : En} : y ∈ entT 6 [] t ↔ y ∈ L := by
  obtain ⟨⟨r1, r2, r3⟩, hw, hd, hb⟩ := h
  rw [entT_mem hw]
  constructor
  · rintro ⟨s, k, hs, hg, rfl⟩
    obtain ⟨x, hx, e1, e2, e3⟩ := (r3 s hs k.dir k.data).1 (by rw [Tr.look?, hg]; rfl)
    have hp := (split_names (r1 x hx).1).2.2.1
    rw [e1] at hp
    obtain ⟨xp, xd, xb⟩ := x
    simp only at e2 e3 hp
    rw [List.nil_append, hp, ← e2, ← e3]
    exact hx
  · intro hy
    obtain ⟨_, _, c, e⟩ := split_names (r1 y hy).1
    have hne : splitL y.path ≠ [] := fun h => (r1 y hy).2 (e.1 h)
    have hl := (r3 _ hne y.dir y.data).2 ⟨y, hy, rfl, rfl, rfl⟩
    rw [Tr.look?] at hl
    cases hg : Tr.get? (splitL y.path) t with
    | none => rw [hg] at hl; cases hl
    | some k =>
      rw [hg] at hl
      simp only [Option.map_some, Option.some.injEq, Prod.mk.injEq] at hl
      exact ⟨splitL y.path, k, hne, hg, by rw [List.nil_append, c, hl.1, hl.2]⟩
theorem entS_names : ∀ {d : Nat} {q s : List (List UInt8)} {t : Tr}, Tr.Wf d t → s ∈ entS d q t → ∃ r, s = q ++ r ∧ r.all isName = true ∧ r.length ≤ d
  | 0, _, _, _, _, h => by cases h
  | d + 1, q, s, t, hw, h => by
    rw [entS, List.mem_flatMap] at h
    obtain ⟨k, hk, h⟩ := h
    obtain ⟨hn, hwk⟩ := hw.2.2.2.2.2 k hk
    rcases List.mem_cons.1 h with rfl | h
    · exact ⟨[k.1], rfl, by simpa using hn, by simp⟩
    · obtain ⟨r, rfl, a, b⟩ := entS_names hwk h
      exact ⟨k.1 :: r, by rw [List.append_assoc]; rfl, by rw [List.all_cons, hn, a]; rfl, by simp only [List.length_cons]; omega⟩
theorem all_nodup {t : Tr} (hw : Tr.Wf 6 t) : ((entT 6 [] t).map En.path).Nodup := by
  rw [entS_path]
  refine List.pairwise_map.2 ((List.Pairwise.and_mem.1 (entS_nodup (q := []) hw)).imp fun {a b} h e => ?_)
  obtain ⟨r1, e1, a1, b1⟩ := entS_names hw h.1
  obtain ⟨r2, e2, a2, b2⟩ := entS_names hw h.2.1
  rw [List.nil_append] at e1 e2
  subst e1 e2
  exact h.2.2 (joinP_inj a1 a2 b1 b2 e)
theorem all_perm {t : Tr} {L : List En} (h : Good t L) : (entT 6 [] t).Perm L := by
  have n1 : (entT 6 [] t).Nodup := (List.pairwise_map.1 (all_nodup h.2.1)).imp fun h e => h (by rw [e])
  have n2 : L.Nodup := (List.pairwise_map.1 h.1.2.1).imp fun h e => h (by rw [e])
  exact (List.perm_ext_iff_of_nodup n1 n2).2 fun y => all_mem h
theorem go_all {t : Tr} {L : List En} (h : Good t L) : ∀ {B A : List En} {u : Tr}, entT 6 [] t = A ++ B → Good u A → (goT u B).1 = 0
  | [], _, _, _, _ => rfl
  | x :: B, A, u, e, hu => by
    have hx : x ∈ L := (all_mem h).1 (by rw [e]; simp)
    obtain ⟨s1, s2⟩ := h.1.1 x hx
    have hnd := all_nodup h.2.1
    rw [e, List.map_append, List.nodup_append] at hnd
    have hah := entT_ahead (q := []) h.2.1 A x B e
    obtain ⟨s, k, hs, hg, hxk⟩ := (entT_mem h.2.1).1 ((all_mem h).2 hx)
    obtain ⟨d', hwk⟩ := wf_get h.2.1 hg
    obtain ⟨a, b, c, e0⟩ := split_names s1
    obtain ⟨r, n, hr⟩ := snoc_of_ne (fun h4 => s2 (e0.1 h4) : splitL x.path ≠ [])
    rw [hr] at a b c
    rw [List.all_append, Bool.and_eq_true] at a
    have hn : isName n = true := by simpa using a.2
    have lr : r.length ≤ 6 := by simp at b; omega
    have hpar : parP x.path = joinP r := by rw [← c, parP_join hn]
    have hE : addE A x = 0 := by
      rw [addE, if_neg (by simpa using s1), if_neg, if_neg]
      · have hsz := (Tr.wf_size hwk).1
        have hd8 : x.data.length ≤ 8192 := by rw [hxk]; exact hsz
        -- the directory of x, in the tree
        have hl : Tr.look? (r ++ [n]) t = some (x.dir, x.data) := (h.1.2.2 _ (by simp) _ _).2 ⟨x, hx, hr, rfl, rfl⟩
        have hgr : ∃ p, Tr.get? r t = some p := by
          cases hgp : Tr.get? r t with
          | some p => exact ⟨p, rfl⟩
          | none => rw [Tr.look?, get_append, hgp] at hl; cases hl
        obtain ⟨p, hp⟩ := hgr
        obtain ⟨d2, hwp⟩ := wf_get h.2.1 hp
        have h6 := (Tr.wf_size hwp).2
        have hkc := kids_count h.1 h.2.1 a.1 lr hp
        have hpm := ((all_perm h).filter fun y => parP y.path == joinP r).length_eq
        have hsub : (kidsD (A ++ [x]) (joinP r)).length ≤ (kidsD (entT 6 [] t) (joinP r)).length := by
          rw [e, show A ++ x :: B = (A ++ [x]) ++ B by simp]
          exact (List.Sublist.filter _ (List.sublist_append_left _ _)).length_le
        have hone : (kidsD (A ++ [x]) (joinP r)).length = (kidsD A (joinP r)).length + 1 := by
          rw [kidsD, List.filter_append, List.length_append, ← kidsD]
          congr 1
          simp [hpar]
        have hk2 : (kidsD (entT 6 [] t) (joinP r)).length = p.kids.length := by rw [← hkc]; exact hpm
        rw [hpar]
        omega
      · rintro (h1 | ⟨h1, h2⟩ | h1 | h1)
        · exact s2 h1
        · refine h2 ?_
          rw [hxk] at h1 ⊢
          exact Tr.wf_data hwk h1
        · rw [hasD, List.any_eq_true] at h1
          obtain ⟨y, hy, hyp⟩ := h1
          exact hnd.2.2 y.path (List.mem_map.2 ⟨y, hy, rfl⟩) x.path (by simp) (beq_iff_eq.1 hyp)
        · rcases hah with h2 | ⟨y, hy, h2, h3⟩
          · have h4 : parP x.path = [] := h2
            rw [dirD, h4] at h1
            cases h1
          · have : dirD A (parP x.path) = true := by
              rw [dirD, Bool.or_eq_true, List.any_eq_true]
              exact .inr ⟨y, hy, by rw [h2, h3]; simp⟩
            rw [this] at h1; cases h1
    have hT : (addT u x).1 = 0 := by rw [add_err hu.1 hu.2.1 hu.2.2.1, hE]
    rw [goT, if_pos hT]
    exact go_all h (by rw [e]; simp) (add_good hu hT)
/-- what is built of a tree's entries is that tree -/
theorem build_entries {t : Tr} {L : List En} (h : Good t L) (hl : L.length ≤ 64) : buildT (entT 6 [] t) = (0, t) := by
  have hlen := (all_perm h).length_eq
  have h0 : (goT root (entT 6 [] t)).1 = 0 := go_all h (A := []) rfl good_root
  obtain ⟨_, h2⟩ := go_same (r := entT 6 [] t) good_root
  obtain ⟨g1, g2⟩ := h2 h0
  rw [g2, List.nil_append] at g1
  have ht : (goT root (entT 6 [] t)).2 = t := by
    refine tr_ext g1.2.1 h.2.1 fun q => ?_
    by_cases hq : q = []
    · subst hq
      rw [Tr.look_nil, Tr.look_nil, g1.2.2.1, g1.2.2.2, h.2.2.1, h.2.2.2]
    · have key : ∀ d b, Tr.look? q (goT root (entT 6 [] t)).2 = some (d, b) ↔ Tr.look? q t = some (d, b) := fun d b => by
        rw [g1.1.2.2 q hq, h.1.2.2 q hq]
        constructor
        · rintro ⟨x, hx, h3⟩; exact ⟨x, (all_mem h).1 hx, h3⟩
        · rintro ⟨x, hx, h3⟩; exact ⟨x, (all_mem h).2 hx, h3⟩
      cases h3 : Tr.look? q t with
      | some v => obtain ⟨d, b⟩ := v; exact (key d b).2 h3
      | none =>
        cases h4 : Tr.look? q (goT root (entT 6 [] t)).2 with
        | none => rfl
        | some v => obtain ⟨d, b⟩ := v; rw [(key d b).1 h4] at h3; cases h3
  rw [buildT, if_neg (by omega)]
  exact Prod.ext h0 ht
end Go.Proofs.YtehfbokkcamliaaDoor
namespace Go.Proofs.YtehfbokkcamliaaDoor
open Go.RowKit Go.SL

/-- a kid's cells: its name, and the node: is it a directory, its data, the slice of its kids -/
def kC (k : List UInt8 × Tr) (v : Value) : List Value := [.string ⟨k.1.toArray⟩, .bool k.2.dir, .string ⟨k.2.data.toArray⟩, v]
def kCs (ks : List (List UInt8 × Tr)) (vs : List Value) : List Value := (List.zip ks vs).flatMap fun p => kC p.1 p.2
theorem kC_len (k : List UInt8 × Tr) (v : Value) : (kC k v).length = 4 := rfl
theorem kCs_len {ks : List (List UInt8 × Tr)} {vs : List Value} (h : vs.length = ks.length) : (kCs ks vs).length = ks.length * 4 := by
  rw [kCs, flatMap_len (fun p : (List UInt8 × Tr) × Value => kC p.1 p.2) 4 (fun _ => rfl), List.length_zip, h, Nat.min_self]
theorem kCs_nil : kCs [] [] = [] := rfl
theorem kCs_app {a b : List (List UInt8 × Tr)} {u v : List Value} (h : u.length = a.length) : kCs (a ++ b) (u ++ v) = kCs a u ++ kCs b v := by
  rw [kCs, List.zip_append h.symm, List.flatMap_append]; rfl
theorem kCs_cons (k : List UInt8 × Tr) (v : Value) (ks : List (List UInt8 × Tr)) (vs : List Value) : kCs (k :: ks) (v :: vs) = kC k v ++ kCs ks vs := rfl
theorem kCs_at {ks : List (List UInt8 × Tr)} {vs : List Value} (h : vs.length = ks.length) {i : Nat} (hi : i < ks.length) {j : Nat} {u : Value} (hu : (kC ks[i] (vs[i]'(by omega)))[j]? = some u) : (kCs ks vs)[i * 4 + j]? = some u :=
  flatMap_at (fun p : (List UInt8 × Tr) × Value => kC p.1 p.2) 4 (fun _ => rfl) _ i j (ks[i], vs[i]'(by omega)) u (by rw [List.getElem?_eq_getElem (by rw [List.length_zip]; omega)]; simp) hu
theorem kCs_take {ks : List (List UInt8 × Tr)} {vs : List Value} (h : vs.length = ks.length) (i : Nat) : (kCs ks vs).take (i * 4) = kCs (ks.take i) (vs.take i) := by
  by_cases hi : i ≤ ks.length
  · have hl : (kCs (ks.take i) (vs.take i)).length = i * 4 := by rw [kCs_len (by rw [List.length_take, List.length_take]; omega), List.length_take, Nat.min_eq_left hi]
    conv => lhs; rw [← List.take_append_drop i ks, ← List.take_append_drop i vs]
    rw [kCs_app (by rw [List.length_take, List.length_take]; omega), List.take_left' hl]
  · rw [List.take_of_length_le (by rw [kCs_len h]; omega), List.take_of_length_le (l := ks) (by omega), List.take_of_length_le (l := vs) (by omega)]
theorem kCs_drop {ks : List (List UInt8 × Tr)} {vs : List Value} (h : vs.length = ks.length) {i : Nat} (hi : i ≤ ks.length) : (kCs ks vs).drop (i * 4) = kCs (ks.drop i) (vs.drop i) := by
  have hl : (kCs (ks.take i) (vs.take i)).length = i * 4 := by rw [kCs_len (by rw [List.length_take, List.length_take]; omega), List.length_take, Nat.min_eq_left hi]
  conv => lhs; rw [← List.take_append_drop i ks, ← List.take_append_drop i vs]
  rw [kCs_app (by rw [List.length_take, List.length_take]; omega), List.drop_left' hl]

/-- what the list knows of memory: at this slice lie these kids, and all that is below them -/
inductive KidsAt (l : List HProp) : Value → List (List UInt8 × Tr) → Prop
  | mk (ao : Option Addr) (c : Nat) (ks : List (List UInt8 × Tr)) (vs : List Value) (hc : ks.length ≤ c) (hl : vs.length = ks.length) (hr : Knows l (reads (.slice ao ks.length c) ks.length (kCs ks vs)))
      (hk : ∀ (i : Nat) (h : i < ks.length) (h' : i < vs.length), KidsAt l vs[i] ks[i].2.kids) : KidsAt l (.slice ao ks.length c) ks
theorem KidsAt.mono {l m : List HProp} (h : ∀ p : World → Prop, Knows l p → Knows m p) {v : Value} {ks : List (List UInt8 × Tr)} (hk : KidsAt l v ks) : KidsAt m v ks := by
  induction hk with
  | mk ao c ks vs hc hl hr _ ih => exact .mk ao c ks vs hc hl (h _ hr) ih
theorem KidsAt.suf {l m : List HProp} {v : Value} {ks : List (List UInt8 × Tr)} (hk : KidsAt l v ks) (h : l <:+ m) : KidsAt m v ks := hk.mono fun _ hp => hp.suf h
theorem KidsAt.app {l : List HProp} {v : Value} {ks : List (List UInt8 × Tr)} (m : List HProp) (hk : KidsAt l v ks) : KidsAt (m ++ l) v ks := hk.suf (List.suffix_append m l)
theorem KidsAt.nil (l : List HProp) : KidsAt l (.slice none 0 0) [] := .mk none 0 [] [] (Nat.le_refl _) rfl (fun _ _ => reads_nil 0 0 rfl _) (fun i h => absurd h (by simp))
theorem KidsAt.slice {l : List HProp} {v : Value} {ks : List (List UInt8 × Tr)} (hk : KidsAt l v ks) : ∃ ao c, v = .slice ao ks.length c := by cases hk; exact ⟨_, _, rfl⟩
/-- a slice of kids, opened -/
theorem KidsAt.open {l : List HProp} {v : Value} {ks : List (List UInt8 × Tr)} (hk : KidsAt l v ks) : ∃ (ao : Option Addr) (c : Nat) (vs : List Value), v = .slice ao ks.length c ∧ ks.length ≤ c ∧ vs.length = ks.length ∧ Knows l (reads (.slice ao ks.length c) ks.length (kCs ks vs)) ∧
    (∀ (i : Nat) (h : i < ks.length) (h' : i < vs.length), KidsAt l vs[i] ks[i].2.kids) ∧ ∀ u ∈ kCs ks vs, u.oneCell' = true := by
  cases hk with
  | mk ao c ks vs hc hl hr hk =>
    refine ⟨ao, c, vs, rfl, hc, hl, hr, hk, fun u hu => ?_⟩
    rw [kCs, List.mem_flatMap] at hu
    obtain ⟨⟨k, v⟩, hp, hu⟩ := hu
    obtain ⟨i, hi, e⟩ := List.getElem_of_mem hp
    rw [List.getElem_zip] at e
    cases e
    rw [List.length_zip] at hi
    obtain ⟨ao', c', hv⟩ := (hk i (by omega) (by omega)).slice
    simp only [kC, List.mem_cons, List.not_mem_nil, or_false] at hu
    rcases hu with rfl | rfl | rfl | rfl
    · rfl
    · rfl
    · rfl
    · rw [hv]; rfl
/-- where a kid lies -/
theorem kids_at {w : World} {ao : Option Addr} {c : Nat} {ks : List (List UInt8 × Tr)} {vs : List Value} (h : vs.length = ks.length) (hr : reads (.slice ao ks.length c) ks.length (kCs ks vs) w) {i : Nat} (hi : i < ks.length) :
    ∃ b off, ao = some ⟨b, off, none⟩ ∧ ∀ j v, (kC ks[i] (vs[i]'(by omega)))[j]? = some v → w.cell? ⟨b, off + i * 4 + j, none⟩ = some v := by
  obtain ⟨b, off, rfl, hc⟩ := reads_form hr (by omega) (by rw [kCs_len h]; omega)
  refine ⟨b, off, rfl, fun j v hv => ?_⟩
  rw [Nat.add_assoc]
  exact hc _ _ (kCs_at h hi hv)
/-- a node, as the program has it -/
def nodeV (t : Tr) (v : Value) : Value := .agg #[.bool t.dir, .string ⟨t.data.toArray⟩, v]
end Go.Proofs.YtehfbokkcamliaaDoor
namespace Go.Proofs.YtehfbokkcamliaaDoor
open Go.RowKit Go.SL

theorem dirKid_set {n : List UInt8} {t : Tr} {k : Kid} (h : k.good) : (((kcells k).toArray.setIfInBounds 0 (.string ⟨n.toArray⟩)).setIfInBounds 1 (.bool t.dir)).setIfInBounds 35 (.int .u32 (t.data.length : Nat)) = (kcells (dirKid n t k)).toArray := by
  have h1 : (bvals k.hash).length = 32 := by rw [bvals_length]; exact h.1
  simp only [kcells, dirKid, List.setIfInBounds_toArray, List.set_cons_zero, List.set_cons_succ]
  congr 3
  rw [List.set_append_right _ _ (by rw [h1]; omega), h1]
  rfl
theorem cells_tail {a : Value} {xs : List Value} {j : Nat} {v : Value} (hv : xs[j]? = some v) : (a :: xs).toArray[1 + j]? = some v := by
  rw [Nat.add_comm, List.getElem?_toArray, List.getElem?_cons_succ]
  exact hv
/-- what the program reads of a kid in a directory's row -/
theorem kidN_at {w : World} {ao : Option Addr} {c : Nat} {ks : List (List UInt8 × Tr)} {vs : List Value} (hl : vs.length = ks.length) (hr : reads (.slice ao ks.length c) ks.length (kCs ks vs) w) {k : Nat} (hk : k < ks.length) :
    ∃ b off, ao = some ⟨b, off, none⟩ ∧ ∀ j v, (kC ks[k] (vs[k]'(by omega)))[j]? = some v → w.cell? ⟨b, off + k * 4 + j, none⟩ = some v := by
  obtain ⟨b, off, rfl, hc⟩ := reads_form hr (by omega) (by rw [kCs_len hl]; omega)
  refine ⟨b, off, rfl, fun j v hv => ?_⟩
  rw [Nat.add_assoc]
  exact hc _ _ (kCs_at hl hk hv)
/-- a directory's chunk, as it grows -/
def chI (b : Nat) (ks : List Kid) : HProp := ex fun z : Option Addr × Nat => [pt b (.cells #[.int .u8 3, .string ⟨#[]⟩, .slice z.1 ks.length z.2] 49), rowK z.1 z.2 ks]
def kdN (g : Tr → List Chunk × Kid) (t : Tr) (k : Nat) : List Kid := (t.kids.take k).map fun x => dirKid x.1 x.2 (g x.2).2
def cdN (g : Tr → List Chunk × Kid) (t : Tr) (k : Nat) : List Chunk := (t.kids.take k).flatMap fun x => (g x.2).1
theorem kdN_step {g : Tr → List Chunk × Kid} {t : Tr} {k : Nat} (h : k < t.kids.length) : kdN g t (k + 1) = kdN g t k ++ [dirKid t.kids[k].1 t.kids[k].2 (g t.kids[k].2).2] := by
  rw [kdN, List.take_succ_eq_append_getElem h, List.map_append]; rfl
theorem cdN_step {g : Tr → List Chunk × Kid} {t : Tr} {k : Nat} (h : k < t.kids.length) : cdN g t (k + 1) = cdN g t k ++ (g t.kids[k].2).1 := by
  rw [cdN, List.take_succ_eq_append_getElem h, List.flatMap_append]; simp [cdN]
theorem cdN_len {g : Tr → List Chunk × Kid} {t : Tr} {k : Nat} (h : k < t.kids.length) : (cdN g t k).length + (g t.kids[k].2).1.length ≤ (t.kids.flatMap fun x => (g x.2).1).length := by
  have e : t.kids.flatMap (fun x => (g x.2).1) = cdN g t (k + 1) ++ (t.kids.drop (k + 1)).flatMap fun x => (g x.2).1 := by
    rw [cdN, ← List.flatMap_append, List.take_append_drop]
  rw [e, cdN_step h, List.length_append, List.length_append]
  omega
/-- what is shown of a node -/
def NodeAt (g : Tr → List Chunk × Kid) (t : Tr) : Prop := ∀ (bx : Nat) (out : List (List UInt8)) (l : List HProp) (w : World) (v : Value), out.length + (g t).1.length ≤ 800000000000 → Knows l KTab → Knows l FTab → KidsAt l v t.kids → Ent (xOut bx out :: l) w →
  Calls Tryd.prog 26 #[.pointer (some ⟨bx, 0, none⟩), .agg #[.bool t.dir, .string ⟨t.data.toArray⟩, v]] w
    (Ret fun u w' => u = .agg (kcells (g t).2).toArray ∧ Ent (xOut bx (out ++ (g t).1.map putC) :: l) w')
def DirRel (g : Tr → List Chunk × Kid) (t : Tr) (bx b3 b4 b5 : Nat) (v : Value) (cs : Array Value) (out : List (List UInt8)) (l : List HProp) (i : Value) (wr : World) : Prop :=
  ∃ k : Nat, k ≤ t.kids.length ∧ i = .int .i64 k ∧ Ent (xOut bx (out ++ (cdN g t k).map putC) :: chI b5 (kdN g t k) :: pt b3 (.cells #[.bool true, .string ⟨t.data.toArray⟩, v] 32) :: pt b4 (.cells cs 55 (0, 0)) :: l) wr

set_option maxRecDepth 100000 in
set_option maxHeartbeats 8000000 in
theorem node_file {t : Tr} (hd : t.dir = false) (hl : t.data.length ≤ 8192) {g : Tr → List Chunk × Kid} (hg : g t = fileC t.data) : NodeAt g t := by
  intro bx out l w v hn ht hf hk hE
  obtain ⟨av, cv, rfl⟩ := hk.slice
  rw [hg, hd]
  obtain ⟨_, _, _, hgood⟩ := file_fit t.data (by omega)
  have HF := SL.hid (fun (L : List HProp) (w : World) (h : l <:+ L) (hE : Ent (xOut bx out :: L) w) => file_any (data := t.data) (by omega) (by omega) (ht.suf h) (hf.suf h) hE)
  have Hlen := SL.hid (kcells_len hgood)
  have Hone := SL.hid (kcells_one (fileC t.data).2)
  clear hgood hg hd hl hn
  generalize kcells (fileC t.data).2 = kx at *
  generalize (fileC t.data).1.map putC = fo at *
  generalize t.kids.length = nk at *
  go_enter Tryd.func26, Tryd.ntmps26
  go_wp2_with (first
    | go_skip
    | (refine bxX hE ?_; clear hE; intro b3 w hE)
    | ((with_reducible (show Go.wpList _ _ _ (Go.Oper.mk _ (.alloc 55) _ _ _ _ :: _) _ _)); refine wpl_allocN hE rfl rfl (n := 36) (by kernel_rfl) ?_; clear hE; intro b4 cs w1 hq hE)
    | (refine ldX hE ?_)
    | (go_at_call 53; have hE8 : Ent (xOut bx out :: pt b4 (.cells cs.toArray 55 (0, 0)) :: pt b3 (.cells #[.bool false, .string ⟨t.data.toArray⟩, .slice av nk cv] 32) :: l) _ := hE.front 2 rfl; refine (HF.out _ _ sfx hE8).mono ?_; clear hE8 hE; rintro e w5 ⟨v, rfl, rfl, hE⟩)
    | ((with_reducible (show Go.wpList _ _ _ (Go.Oper.mk _ (.store _ _ _) _ _ _ _ :: _) _ _)); refine wpl_storeW hE 1 rfl rfl rfl (xs := kx) rfl rfl Tryd.sizeOf55 Hlen.out Hone.out (by simpa using hq) ?_; clear hE hq; intro w9 hE; simp only [List.set_cons_zero, List.set_cons_succ] at hE))
  refine bodyPost_ret (results_cellA rfl hE 1 rfl rfl Tryd.isAgg55 Tryd.sizeOf55 Hlen.out) rfl ?_
  exact ⟨_, rfl, rfl, (hE.erase 1).erase 1⟩

set_option maxRecDepth 100000 in
set_option maxHeartbeats 8000000 in
theorem node_dir {g : Tr → List Chunk × Kid} {t : Tr} (hd : t.dir = true) (hok : DirOk g t) {g2 : Tr → List Chunk × Kid} (hg : g2 t = dirC g t) (ih : ∀ x ∈ t.kids, NodeAt g x.2) : NodeAt g2 t := by
  intro bx out l w v hn ht hf hk hE
  obtain ⟨ao, c, vs, rfl, hc, hvl, hr, hkids, _⟩ := hk.open
  rw [hg, hd]
  rw [hg, dirC, List.length_append, List.length_singleton] at hn
  obtain ⟨hm, hgd⟩ := hok.may
  have hsz : csize ⟨3, [], t.kids.map fun k => dirKid k.1 k.2 (g k.2).2⟩ < 4294967296 := by simp [csize]
  have hend : kdN g t t.kids.length = t.kids.map fun k => dirKid k.1 k.2 (g k.2).2 := by rw [kdN, List.take_length]
  have hendc : cdN g t t.kids.length = t.kids.flatMap fun k => (g k.2).1 := by rw [cdN, List.take_length]
  have HV := SL.hid (show Value.agg (kcells (dirC g t).2).toArray = .agg (kcells (kidOf ⟨3, [], kdN g t t.kids.length⟩)).toArray by rw [hend]; rfl)
  have HO := SL.hid (show out ++ (dirC g t).1.map putC = out ++ (cdN g t t.kids.length).map putC ++ [putC ⟨3, [], kdN g t t.kids.length⟩] by rw [hend, hendc, dirC]; simp)
  rw [← hend] at hm hgd hsz
  have hcn := fun k (h : k < t.kids.length) => cdN_len (g := g) h
  have hcl : (cdN g t t.kids.length).length ≤ 800000000000 := by rw [hendc]; omega
  have hol : (out ++ (cdN g t t.kids.length).map putC).length ≤ 1000000000000 := by rw [List.length_append, List.length_map, hendc]; omega
  have hkk := kidOf_good hsz
  have Hlen := SL.hid (kcells_len hkk)
  have Hone := SL.hid (kcells_one (kidOf ⟨3, [], kdN g t t.kids.length⟩))
  have HP := SL.hid (fun (L : List HProp) (w : World) (ak : Option Addr) (ck : Nat) (h : l <:+ L) (hr : Knows L (reads (.slice ak (kdN g t t.kids.length).length ck) (kdN g t t.kids.length).length (kidCells (kdN g t t.kids.length)))) (hE : Ent (xOut bx (out ++ (cdN g t t.kids.length).map putC) :: L) w) =>
    put_any (u := 3) (data := []) hgd hm hsz hol (ht.suf h) (hf.suf h) hr hE)
  have Hcn := SL.hid hcn
  have Hn := SL.hid hn
  have Hok := SL.hid hok
  have Hih := SL.hid ih
  have Hkids := SL.hid hkids
  have Hht := SL.hid ht
  have Hhf := SL.hid hf
  have Hr := SL.hid hr
  have h6 := hok.six
  clear hcn hn hok ih hkids ht hf hr hk hm hgd hsz hol hkk hendc hend hcl hg
  go_enter Tryd.func26, Tryd.ntmps26
  go_wp2_with (first
    | go_skip
    | (refine bxX hE ?_; clear hE; intro b3 w hE)
    | ((with_reducible (show Go.wpList _ _ _ (Go.Oper.mk _ (.alloc 55) _ _ _ _ :: _) _ _)); refine wpl_allocN hE rfl rfl (n := 36) (by kernel_rfl) ?_; clear hE; intro b4 cs w1 hq hE)
    | ((with_reducible (show Go.wpList _ _ _ (Go.Oper.mk _ (.alloc 49) _ _ _ _ :: _) _ _)); refine wpl_alloc hE rfl rfl (by simp [go_sem]; rfl) ?_; clear hE; intro b5 w hE; simp only [Act.eval, Act.put, List.setIfInBounds_toArray, List.set_cons_zero, List.set_cons_succ, getD_lit, List.getD_cons_succ, List.getD_cons_zero, Value.cells] at hE)
    | (refine ldX hE ?_)
    | (refine swX (t := 49) hE [.int .u8 3, .string ⟨#[]⟩, .slice none 0 0] Tryd.sizeOf49 ?_; clear hE; intro w hE))
  have Hq := SL.hid hq
  clear hq
  go_loopw [20] (fun i wr => DirRel g t bx b3 b4 b5 (.slice ao t.kids.length c) cs.toArray out l i wr) (fun i _ => t.kids.length - (intOf i).toNat)
  case atStart =>
    refine ⟨0, Nat.zero_le _, rfl, ?_⟩
    have e1 : out ++ (cdN g t 0).map putC = out := by simp [cdN]
    have h := Ent.pack (f := fun z : Option Addr × Nat => [pt b5 (.cells #[.int .u8 3, .string ⟨#[]⟩, .slice z.1 ([] : List Kid).length z.2] 49), rowK z.1 z.2 []]) (none, 0) ((hE.nil 55 36).front 1 rfl)
    rw [e1]
    exact (((h.front 1 rfl).front 2 rfl).front 2 rfl).front 3 rfl
  case round =>
    clear hE
    obtain ⟨k, hkn, rfl, hE⟩ := hrel
    by_cases hlt : k < t.kids.length
    · obtain ⟨⟨ac, cc⟩, hE'⟩ := (hE.front 1 rfl).unpack
      replace hE : Ent (xOut bx (out ++ (cdN g t k).map putC) :: pt b5 (.cells #[.int .u8 3, .string ⟨#[]⟩, .slice ac (kdN g t k).length cc] 49) :: rowK ac cc (kdN g t k) :: pt b3 (.cells #[.bool true, .string ⟨t.data.toArray⟩, .slice ao t.kids.length c] 32) :: pt b4 (.cells cs.toArray 55 (0, 0)) :: l) wr := hE'.front 2 rfl
      clear hE'
      obtain ⟨b, off, rfl, _⟩ := kidN_at hvl (Hr.out _ (hE.suf sfx)) hlt
      have hL := SL.hid (show ∀ W, Ent l W → ∀ j v, (kC t.kids[k] (vs[k]'(by omega)))[j]? = some v → W.cell? ⟨b, off + k * 4 + j, none⟩ = some v from fun W hW => by
        obtain ⟨b', off', e, h⟩ := kidN_at hvl (Hr.out W hW) hlt
        cases e
        exact h)
      have hK := Hkids.out k hlt (by omega)
      have hcn := Hcn.out k hlt
      have hn := Hn.out
      have hI := Hih.out _ (List.getElem_mem hlt)
      obtain ⟨hgk, _⟩ := Hok.out.kid _ (List.getElem_mem hlt)
      have hdl := Hok.out.data _ (List.getElem_mem hlt)
      have hkd := kdN_step (g := g) hlt
      have hcd := cdN_step (g := g) hlt
      have Hkd := SL.hid hkd
      have Hcd := SL.hid hcd
      have hkdl : (kdN g t k).length ≤ 6 := by rw [kdN, List.length_map, List.length_take]; omega
      clear hkd hcd
      generalize t.kids[k] = x at *
      generalize hvk : vs[k]'(by omega) = kv at *
      clear hvk
      obtain ⟨nm, t'⟩ := x
      simp only at hK hcn hI hgk hdl Hkd Hcd hL
      have HI := SL.hid (fun (L : List HProp) (w : World) (h : l <:+ L) (hE : Ent (xOut bx (out ++ (cdN g t k).map putC) :: L) w) => hI bx _ L w kv (by rw [List.length_append, List.length_map]; omega) (Hht.out.suf h) (Hhf.out.suf h) (hK.suf h) hE)
      obtain ⟨av, cv, hkv⟩ := hK.slice
      subst hkv
      have hL2 := SL.hid (show ∀ W, Ent l W → ∀ (j : Nat) (v : Value), ([.string ⟨nm.toArray⟩, .bool t'.dir, .string ⟨t'.data.toArray⟩, .slice av t'.kids.length cv] : List Value)[j]? = some v → W.cell? ⟨b, off + k * 4 + j, none⟩ = some v from hL.out)
      clear hL
      have Ho2 := SL.hid (show out ++ (cdN g t (k + 1)).map putC = out ++ (cdN g t k).map putC ++ (g t').1.map putC by rw [Hcd.out]; simp)
      have HS := SL.hid (dirKid_set (n := nm) (t := t') hgk)
      have Hlk := SL.hid (kcells_len hgk)
      have Hok2 := SL.hid (kcells_one (g t').2)
      have hgd2 := dirKid_good (n := nm) (t := t') hgk hdl
      have Hld := SL.hid (kcells_len hgd2)
      have Hod := SL.hid (kcells_one (dirKid nm t' (g t').2))
      have Hkc := SL.hid (show kidCells (kdN g t k ++ [dirKid nm t' (g t').2]) = kidCells (kdN g t k) ++ kcells (dirKid nm t' (g t').2) by simp [kidCells])
      have z1 : IntKind.u32.wrap (t'.data.length : Int) = (t'.data.length : Int) := by rw [IntKind.wrap_u32]; omega
      have z2 : (t'.data.length : Int) % 4294967296 = (t'.data.length : Int) := by omega
      clear hcn hn hI hgk hdl hgd2 Hcd hK
      generalize ho2 : out ++ (cdN g t (k + 1)).map putC = o2 at *
      have Hoo2 := SL.hid ho2
      clear ho2
      generalize out ++ (cdN g t k).map putC = o1 at *
      generalize (g t').1.map putC = og at *
      generalize hkg : (g t').2 = kg at *
      clear hkg
      generalize t'.kids.length = nk at *
      generalize kdN g t k = ks at *
      generalize hks2 : kdN g t (k + 1) = ks2 at *
      have Hks2 := SL.hid hks2
      clear hks2
      generalize htd : t.data = td at *
      have Htd := SL.hid htd
      clear htd
      generalize t'.data = xb at *
      generalize t'.dir = xd at *
      generalize hkx : kcells kg = kx at *
      clear hkx
      generalize hdx : kcells (dirKid nm t' kg) = dx at *
      clear hdx
      have A1 := SL.hid True.intro
      go_wp2_with (first
        | go_skip
        | ((with_reducible (show Go.wpList _ _ _ (Go.Oper.mk _ (.load 66 _) _ _ _ _ :: _) _ _)); refine wpl_loadC rfl rfl rfl Tryd.isAgg66 Tryd.sizeOf66 [.string ⟨nm.toArray⟩, .bool xd, .string ⟨xb.toArray⟩, .slice av nk cv] rfl (fun j v hv => by rw [Addr.add_lit]; exact hL2.out _ (hE.suf sfx) j v hv) ?_)
        | ((with_reducible (show Go.wpList _ _ _ (Go.Oper.mk _ (.alloc 66) _ _ _ _ :: _) _ _)); refine wpl_allocN hE rfl rfl (n := 4) (by kernel_rfl) ?_; clear hE; intro b7 c7 w1 hq hE)
        | ((with_reducible (show Go.wpList _ _ _ (Go.Oper.mk _ (.store 66 _ _) _ _ _ _ :: _) _ _)); refine wpl_storeN hE 0 rfl rfl rfl rfl (xs := [.string ⟨nm.toArray⟩, .bool xd, .string ⟨xb.toArray⟩, .slice av nk cv]) rfl Tryd.sizeOf66 rfl (by simp [Value.oneCell']) hq ?_; clear hE hq; intro w2 hE; simp only [List.set_cons_zero] at hE)
        | ((with_reducible (show Go.wpList _ _ _ (Go.Oper.mk _ (.load 32 _) _ _ _ _ :: _) _ _)); refine wpl_loadC rfl rfl rfl Tryd.isAgg32 Tryd.sizeOf32 [.bool xd, .string ⟨xb.toArray⟩, .slice av nk cv] rfl (fun j v hv => by rw [Addr.add_lit]; exact (hE.cell 0 rfl (1 + j)).trans (cells_tail hv)) ?_)
        | (go_at_call 26; clear A1; have hE8 : Ent (xOut bx o1 :: pt b7 (.cells #[.string ⟨nm.toArray⟩, .bool xd, .string ⟨xb.toArray⟩, .slice av nk cv] 66) :: pt b5 (.cells #[.int .u8 3, .string ⟨#[]⟩, .slice ac ks.length cc] 49) :: rowK ac cc ks :: pt b3 (.cells #[.bool true, .string ⟨td.toArray⟩, .slice (some ⟨b, off, none⟩) t.kids.length c] 32) :: pt b4 (.cells cs.toArray 55 (0, 0)) :: l) _ := hE.front 1 rfl; refine (HI.out _ _ sfx hE8).mono ?_; clear hE8 hE; rintro e w5 ⟨v, rfl, rfl, hE⟩)
        | ((with_reducible (show Go.wpList _ _ _ (Go.Oper.mk _ (.alloc 55) _ _ _ _ :: _) _ _)); refine wpl_allocN hE rfl rfl (n := 36) (by kernel_rfl) ?_; clear hE; intro b8 c8 w1 hq hE)
        | ((with_reducible (show Go.wpList _ _ _ (Go.Oper.mk _ (.store 55 _ _) _ _ _ _ :: _) _ _)); refine wpl_storeN hE 0 rfl rfl rfl rfl (xs := kx) rfl Tryd.sizeOf55 Hlk.out Hok2.out hq ?_; clear hE hq; intro w2 hE; simp only [List.set_cons_zero] at hE))
      have hO := hE.drew
      refine wp_region_held_drew (S := (fun w' => (w'.cell? ⟨b7, 0, none⟩ = some (.string ⟨nm.toArray⟩)) ∧ (w'.cell? ⟨b7, 1, none⟩ = some (.bool xd)) ∧ (w'.cell? ⟨b7, 2, none⟩ = some (.string ⟨xb.toArray⟩)))) (by kernel_rfl) ⟨(cellVq hO), (cellVq hO), (cellVq hO)⟩ (fun hS => ?_)
      refine tV 0 hS ?_; refine tL 1 hS ?_; refine tV 2 hS ?_; refine tV 3 hS ?_; refine tL 4 hS ?_; refine tV 5 hS ?_; refine tV 6 hS ?_; refine tL 7 hS ?_; refine tV 8 hS ?_; refine tV 9 hS ?_; refine tV 10 hS ?_
      refine tO 11 (fun K hK => ?_)
      (refine stp_setC hO 0 rfl rfl (by rfl) (by rfl) (by rfl) Tryd.sizeOf9 rfl rfl (by simp [Hlk.out]) ?_; clear hO; intro w9 hO; simp only [List.set_cons_zero, List.set_cons_succ] at hO)
      refine tK hK ⟨(cellVq hO), (cellVq hO), (cellVq hO)⟩ (fun hS => ?_); clear hK K
      refine tV 12 hS ?_
      refine tO 13 (fun K hK => ?_)
      (refine stp_setC hO 0 rfl rfl (by rfl) (by rfl) (by rfl) Tryd.sizeOf4 rfl rfl (by simp [Hlk.out]) ?_; clear hO; intro w9 hO; simp only [List.set_cons_zero, List.set_cons_succ] at hO)
      refine tK hK ⟨(cellVq hO), (cellVq hO), (cellVq hO)⟩ (fun hS => ?_); clear hK K
      refine tV 14 hS ?_
      refine tO 15 (fun K hK => ?_)
      (refine stp_setC hO 0 rfl rfl (by rfl) (by rfl) (by rfl) Tryd.sizeOf53 rfl rfl (by simp [Hlk.out]) ?_; clear hO; intro w9 hO; simp only [List.set_cons_zero, List.set_cons_succ] at hO)
      refine tK hK ⟨(cellVq hO), (cellVq hO), (cellVq hO)⟩ (fun hS => ?_); clear hK K
      refine wpAnyH_done (by kernel_rfl) ?_ _
      all_goals
        clear hS hE z1 z2
        have hE : Ent (pt b8 (.cells dx.toArray 55 (0, 0)) :: xOut bx (o1 ++ og) :: pt b7 (.cells #[.string ⟨nm.toArray⟩, .bool xd, .string ⟨xb.toArray⟩, .slice av nk cv] 66) :: pt b5 (.cells #[.int .u8 3, .string ⟨#[]⟩, .slice ac ks.length cc] 49) :: rowK ac cc ks :: pt b3 (.cells #[.bool true, .string ⟨td.toArray⟩, .slice (some ⟨b, off, none⟩) t.kids.length c] 32) :: pt b4 (.cells cs.toArray 55 (0, 0)) :: l) w9 := by
          rw [← HS.out]
          exact hO
        clear hO
        go_wp2_with (first
          | go_skip
          | ((with_reducible (show Go.wpList _ _ _ (Go.Oper.mk _ (.load 47 _) _ _ _ _ :: _) _ _)); refine wpl_load1 hE 3 rfl rfl rfl rfl (by simp [go_sem]) rfl ?_)
          | ((with_reducible (show Go.wpList _ _ _ (Go.Oper.mk _ (.load 55 _) _ _ _ _ :: _) _ _)); refine wpl_loadW (xs := dx) hE 0 rfl rfl rfl rfl Tryd.isAgg55 Tryd.sizeOf55 Hld.out ?_)
          | ((with_reducible (show Go.wpList _ _ _ (Go.Oper.mk _ (.buildSlice _ _ _) _ _ _ _ :: _) _ _)); refine wpl_build1 hE rfl rfl (xs := dx) rfl Tryd.underlying47 zs_kid Tryd.sizeOf55 (by decide) (by decide) Hld.out ?_; clear hE; intro b9 w3 hE)
          | ((with_reducible (show Go.wpList _ _ _ (Go.Oper.mk _ (.call { callee := .builtin .append, args := _, argTypes := _ }) _ _ _ _ :: _) _ _)); refine wpl_appendG hE 5 rfl rfl rfl rfl rfl Tryd.underlying47 info_kid (by decide) (m := 1) (news := dx) (reads_pt hE 0 rfl (off := 0) (fun j u hu => by rw [Nat.zero_add, List.getElem?_toArray]; exact hu)) (by rw [Hld.out]) Hod.out (by omega) (by omega) ?_; clear hE; intro an cn w6 hE; simp only [List.set_cons_zero, List.set_cons_succ] at hE)
          | ((with_reducible (show Go.wpList _ _ _ (Go.Oper.mk _ (.store _ _ _) _ _ _ _ :: _) _ _)); refine wpl_st1 hE 4 rfl rfl rfl rfl rfl Tryd.sizeOf47 rfl rfl (by simp) ?_; clear hE; intro w7 hE; simp only [List.set_cons_zero, List.set_cons_succ] at hE))
        go_roundw
        case rel =>
          refine ⟨k + 1, hlt, by first | rfl | simp, ?_⟩
          rw [Hoo2.out, Hks2.out, Htd.out, Ho2.out, Hkd.out]
          have q1 : (ks ++ [dirKid nm t' kg]).length = ks.length + 1 := by simp
          have hF := (hE.tail.tail.erase 1).front 2 rfl
          have hG := Ent.pack (f := fun z : Option Addr × Nat => [pt b5 (.cells #[.int .u8 3, .string ⟨#[]⟩, .slice z.1 (ks ++ [dirKid nm t' kg]).length z.2] 49), rowK z.1 z.2 (ks ++ [dirKid nm t' kg])]) (an, cn) (by simp only [rowK, q1, Hkc.out]; exact hF.front 2 rfl)
          exact hG.front 1 rfl
        case measure => simp [intOf] <;> omega
    · obtain rfl : k = t.kids.length := by omega
      obtain ⟨⟨ac, cc⟩, hE'⟩ := (hE.front 1 rfl).unpack
      replace hE : Ent (xOut bx (out ++ (cdN g t t.kids.length).map putC) :: pt b5 (.cells #[.int .u8 3, .string ⟨#[]⟩, .slice ac (kdN g t t.kids.length).length cc] 49) :: rowK ac cc (kdN g t t.kids.length) :: pt b3 (.cells #[.bool true, .string ⟨t.data.toArray⟩, .slice ao t.kids.length c] 32) :: pt b4 (.cells cs.toArray 55 (0, 0)) :: l) wr := hE'.front 2 rfl
      clear hE' Hkids Hih Hr Hcn Hn Hok
      generalize out ++ (cdN g t t.kids.length).map putC = o1 at *
      generalize kdN g t t.kids.length = ks at *
      generalize hkx : kcells (kidOf ⟨3, [], ks⟩) = kx at *
      clear hkx
      generalize putC ⟨3, [], ks⟩ = pb at *
      go_wp2_with (first
        | go_skip
        | (refine lwX (t := 49) hE Tryd.isAgg49 Tryd.sizeOf49 ?_)
        | (go_at_call 54; refine (HP.out _ _ ac cc sfx (fun w h => reads_row h 1 rfl) hE).mono ?_; clear hE; rintro e w5 ⟨v, rfl, rfl, hE⟩)
        | ((with_reducible (show Go.wpList _ _ _ (Go.Oper.mk _ (.store _ _ _) _ _ _ _ :: _) _ _)); refine wpl_storeW hE 4 rfl rfl rfl (xs := kx) rfl rfl Tryd.sizeOf55 Hlen.out Hone.out (by simpa using Hq.out) ?_; clear hE; intro w9 hE; simp only [List.set_cons_zero, List.set_cons_succ] at hE))
      refine bodyPost_ret (results_cellA rfl hE 4 rfl rfl Tryd.isAgg55 Tryd.sizeOf55 Hlen.out) rfl ?_
      refine ⟨_, rfl, HV.out.symm, ?_⟩
      rw [HO.out]
      exact (((hE.erase 1).erase 1).erase 1).erase 1
/-- any tree's chunks -/
theorem node_any : ∀ (d : Nat) (t : Tr), d ≤ 6 → Tr.Wf d t → NodeAt (nodeC d) t
  | 0, t, _, h => by
    cases hd : t.dir with
    | false => exact node_file hd h.2.2 (nodeC_file hd)
    | true => exact node_dir (g := nodeC 0) hd (dir_ok0 h.1 _) (nodeC_dir0 hd h.1 _) (by rw [h.1]; intro x hx; cases hx)
  | d + 1, t, h6, h => by
    cases hd : t.dir with
    | false => exact node_file hd h.2.2.2.2.1 (nodeC_file hd)
    | true => exact node_dir (g := nodeC d) hd (dir_ok (by omega) h) (nodeC_dir hd) (fun x hx => node_any d x.2 (by omega) (h.2.2.2.2.2 x hx).2)
end Go.Proofs.YtehfbokkcamliaaDoor
namespace Go.Proofs.YtehfbokkcamliaaDoor
open Go.RowKit Go.SL

theorem cb_lt : ∀ (a b : List UInt8), Lib.compareBytes a b < 0 ↔ Op.bytesLess a b = true
  | [], [] => by simp [Lib.compareBytes, Op.bytesLess]
  | [], _ :: _ => by simp [Lib.compareBytes, Op.bytesLess]
  | _ :: _, [] => by simp [Lib.compareBytes, Op.bytesLess]
  | a :: as_, b :: bs => by
    have ih := cb_lt as_ bs
    unfold Lib.compareBytes
    rw [bl_cons]
    by_cases h1 : a < b
    · rw [if_pos h1]
      simp [UInt8.lt_iff_toNat_lt] at h1
      simp [h1]
    · rw [if_neg h1]
      have h1' : ¬ a.toNat < b.toNat := by rw [← UInt8.lt_iff_toNat_lt]; exact h1
      by_cases h2 : b < a
      · rw [if_pos h2]
        have hne : a ≠ b := fun e => by subst e; exact h1 h2
        simp [h1', hne]
      · rw [if_neg h2, ih]
        have h2' : ¬ b.toNat < a.toNat := by rw [← UInt8.lt_iff_toNat_lt]; exact h2
        have e : a = b := UInt8.toNat_inj.1 (by omega)
        simp [e]
theorem cb_eq : ∀ (a b : List UInt8), Lib.compareBytes a b = 0 ↔ a = b
  | [], [] => by simp [Lib.compareBytes]
  | [], _ :: _ => by simp [Lib.compareBytes]
  | _ :: _, [] => by simp [Lib.compareBytes]
  | a :: as_, b :: bs => by
    have ih := cb_eq as_ bs
    unfold Lib.compareBytes
    by_cases h1 : a < b
    · rw [if_pos h1]
      have hne : a ≠ b := fun e => by subst e; simp at h1
      simp [hne]
    · rw [if_neg h1]
      by_cases h2 : b < a
      · rw [if_pos h2]
        have hne : a ≠ b := fun e => by subst e; exact h1 h2
        simp [hne]
      · rw [if_neg h2, ih]
        have h1' : ¬ a.toNat < b.toNat := by rw [← UInt8.lt_iff_toNat_lt]; exact h1
        have h2' : ¬ b.toNat < a.toNat := by rw [← UInt8.lt_iff_toNat_lt]; exact h2
        have e : a = b := UInt8.toNat_inj.1 (by omega)
        simp [e]

set_option maxRecDepth 100000 in
theorem CompareString_any (a b : List UInt8) (w : World) : Calls Tryd.prog 107 #[.string ⟨a.toArray⟩, .string ⟨b.toArray⟩] w (fun e w' => e = .returned (.int .i64 (Lib.compareBytes a b)) ∧ w' = w) := by
  go_enter Tryd.func107, Tryd.ntmps107
  go_wp2
  rw [run_callFunc_extern Tryd.func117 (by kernel_rfl) (by kernel_rfl) (by kernel_rfl) (e := Extern.BytealgCompare.compare) (by kernel_rfl), Lib.run_compareString]
  simp only [Result.andThen]
  rw [Oper.upon_value]
  go_wp2
  go_ret
  exact ⟨rfl, rfl⟩
theorem Compare_any (a b : List UInt8) (w : World) : Calls Tryd.prog 83 #[.string ⟨a.toArray⟩, .string ⟨b.toArray⟩] w (fun e w' => e = .returned (.int .i64 (Lib.compareBytes a b)) ∧ w' = w) := by
  go_enter Tryd.func83, Tryd.ntmps83
  go_wp2_with (go_at_call 107; refine (CompareString_any a b _).mono ?_; rintro e w' ⟨rfl, rfl⟩)
  go_ret
  exact ⟨rfl, rfl⟩
theorem name_any (k : List UInt8 × Tr) (v : Value) {l : List HProp} {w : World} (hE : Ent l w) :
    Calls Tryd.prog 47 #[.agg (kC k v).toArray] w (Ret fun r w' => r = .string ⟨k.1.toArray⟩ ∧ Ent l w') := by
  go_enter Tryd.func47, Tryd.ntmps47
  go_wp2_with (first
    | go_skip
    | ((with_reducible (show Go.wpList _ _ _ (Go.Oper.mk _ (.box _ _) _ _ _ _ :: _) _ _)); refine wpl_box hE rfl rfl rfl ?_; clear hE; intro b1 w1 hE)
    | ((with_reducible (show Go.wpList _ _ _ (Go.Oper.mk _ (.load _ _) _ _ _ _ :: _) _ _)); refine wpl_load1 hE 0 rfl rfl rfl rfl (by simp [go_sem]) (v := .string ⟨k.1.toArray⟩) rfl ?_))
  go_ret
  exact ⟨_, rfl, rfl, hE.tail⟩
/-- the block of the closure: the function that names a kid -/
def ofB (b : Nat) : HProp := pt b (.cells #[.func (.func 47) #[] #[]] 110)
theorem cmp_any (k : List UInt8 × Tr) (v : Value) (nm : List UInt8) {b : Nat} {l : List HProp} {w : World} (hE : Ent (ofB b :: l) w) :
    Calls Tryd.prog 82 #[.agg (kC k v).toArray, .string ⟨nm.toArray⟩, .pointer (some ⟨b, 0, none⟩)] w (Ret fun r w' => r = .int .i64 (Lib.compareBytes k.1 nm) ∧ Ent (ofB b :: l) w') := by
  unfold ofB at *
  go_enter Tryd.func82, Tryd.ntmps82
  go_wp2_with (first
    | go_skip
    | ((with_reducible (show Go.wpList _ _ _ (Go.Oper.mk _ (.box _ _) _ _ _ _ :: _) _ _)); refine wpl_box hE rfl rfl rfl ?_; clear hE; intro b1 w1 hE)
    | ((with_reducible (show Go.wpList _ _ _ (Go.Oper.mk _ (.load _ (.tmp 2)) _ _ _ _ :: _) _ _)); refine wpl_load1 hE 1 rfl rfl rfl rfl (by simp [go_sem]) rfl ?_)
    | ((with_reducible (show Go.wpList _ _ _ (Go.Oper.mk _ (.load _ (.tmp 3)) _ _ _ _ :: _) _ _)); refine wpl_loadW (xs := kC k v) hE 0 rfl rfl rfl rfl Tryd.isAgg66 Tryd.sizeOf66 rfl ?_)
    | (go_at_call 47; refine (name_any k v hE).mono ?_; clear hE; rintro e w2 ⟨r, rfl, rfl, hE⟩)
    | (go_at_call 83; refine (Compare_any k.1 nm _).mono ?_; rintro e w' ⟨rfl, rfl⟩))
  go_ret
  exact ⟨_, rfl, rfl, hE.tail⟩

def BsRel (n p : Nat) (l : List HProp) (i j : Value) (wr : World) : Prop := ∃ lo hi : Nat, i = .int .i64 lo ∧ j = .int .i64 hi ∧ lo ≤ p ∧ p ≤ hi ∧ hi ≤ n ∧ Ent l wr
set_option maxRecDepth 100000 in
set_option maxHeartbeats 4000000 in
theorem search_any {ks : List (List UInt8 × Tr)} {vs : List Value} (hl : vs.length = ks.length) (hr : Rising (ks.map Prod.fst)) (hn : ks.length ≤ 1000000) (nm : List UInt8) {ao : Option Addr} {c b : Nat} {l : List HProp} {w : World} (hk : Knows l (reads (.slice ao ks.length c) ks.length (kCs ks vs))) (hE : Ent (ofB b :: l) w) :
    Calls Tryd.prog 81 #[.slice ao ks.length c, .string ⟨nm.toArray⟩, .func (.func 82) #[] #[.pointer (some ⟨b, 0, none⟩)]] w
      (Ret fun v w' => v = .tuple #[.int .i64 (placeOf (ks.map Prod.fst) nm), .bool (isIn (ks.map Prod.fst) nm)] ∧ Ent (ofB b :: l) w') := by
  obtain ⟨_, hp1, _, hp3⟩ := find_at hr nm
  have hp2 := fun i hi => Tr.place_lt hr (n := nm) i hi
  rw [List.length_map] at hp1
  simp only [List.length_map, List.getElem_map] at hp2 hp3
  have Hp3 := SL.hid hp3
  have Hp2 := SL.hid hp2
  clear hp2 hp3
  generalize placeOf (ks.map Prod.fst) nm = p at *
  generalize isIn (ks.map Prod.fst) nm = is at *
  go_enter Tryd.func81, Tryd.ntmps81
  go_wp2
  go_loopw [9, 10] (fun i j wr => BsRel ks.length p (ofB b :: l) i j wr) (fun i j _ => (intOf j).toNat - (intOf i).toNat)
  case atStart => exact ⟨0, ks.length, rfl, rfl, Nat.zero_le _, hp1, Nat.le_refl _, hE⟩
  case round =>
    clear hE
    obtain ⟨lo, hi, rfl, rfl, h1, h2, hin, hE⟩ := hrel
    by_cases hlt : lo < hi
    · have hm : (lo + hi) / 2 < ks.length := by omega
      obtain ⟨bb, off, rfl, hc⟩ := kids_at hl (hk _ hE.tail) hm
      have hcm := cmp_any ks[(lo + hi) / 2] (vs[(lo + hi) / 2]'(by omega)) nm hE
      have hlt2 := (cb_lt ks[(lo + hi) / 2].1 nm).trans (Hp2.out _ hm).symm
      by_cases hb : (lo + hi) / 2 < p
      · have hcn := hlt2.2 hb
        go_wp2_with (first
          | ((with_reducible (show Go.wpList _ _ _ (Go.Oper.mk _ (.load 66 _) _ _ _ _ :: _) _ _)); refine wpl_loadC rfl rfl rfl Tryd.isAgg66 Tryd.sizeOf66 (kC ks[(lo + hi) / 2] (vs[(lo + hi) / 2]'(by omega))) rfl (fun j v hv => by rw [Addr.add_lit]; exact hc j v hv) ?_)
          | (go_at_call 82; refine hcm.mono ?_; clear hcm; rintro e w' ⟨v, rfl, rfl, hE2⟩))
        go_roundw
        case rel => exact ⟨(lo + hi) / 2 + 1, hi, by rw [show ((lo : Int) + (hi : Int)) / 2 + 1 = (((lo + hi) / 2 + 1 : Nat) : Int) by omega], rfl, by omega, h2, hin, hE2⟩
        case measure => simp [intOf] <;> omega
      · have hcn : ¬ Lib.compareBytes ks[(lo + hi) / 2].1 nm < 0 := fun h => hb (hlt2.1 h)
        go_wp2_with (first
          | ((with_reducible (show Go.wpList _ _ _ (Go.Oper.mk _ (.load 66 _) _ _ _ _ :: _) _ _)); refine wpl_loadC rfl rfl rfl Tryd.isAgg66 Tryd.sizeOf66 (kC ks[(lo + hi) / 2] (vs[(lo + hi) / 2]'(by omega))) rfl (fun j v hv => by rw [Addr.add_lit]; exact hc j v hv) ?_)
          | (go_at_call 82; refine hcm.mono ?_; clear hcm; rintro e w' ⟨v, rfl, rfl, hE2⟩))
        go_roundw
        case rel => exact ⟨lo, (lo + hi) / 2, rfl, by rw [show ((lo : Int) + (hi : Int)) / 2 = (((lo + hi) / 2 : Nat) : Int) by omega], h1, by omega, by omega, hE2⟩
        case measure => simp [intOf] <;> omega
    · obtain rfl : lo = hi := by omega
      obtain rfl : lo = p := by omega
      clear h1 h2 hlt
      by_cases hn2 : lo < ks.length
      · obtain ⟨bb, off, rfl, hc⟩ := kids_at hl (hk _ hE.tail) hn2
        have hcm := cmp_any ks[lo] (vs[lo]'(by omega)) nm hE
        have hz := cb_eq ks[lo].1 nm
        have his : (Lib.compareBytes ks[lo].1 nm == 0) = is := by
          rw [Bool.eq_iff_iff, beq_iff_eq, hz, Hp3.out]
          exact ⟨fun h => ⟨hn2, h⟩, fun ⟨_, h⟩ => h⟩
        go_wp2_with (first
          | ((with_reducible (show Go.wpList _ _ _ (Go.Oper.mk _ (.load 66 _) _ _ _ _ :: _) _ _)); refine wpl_loadC rfl rfl rfl Tryd.isAgg66 Tryd.sizeOf66 (kC ks[lo] (vs[lo]'(by omega))) rfl (fun j v hv => by rw [Addr.add_lit]; exact hc j v hv) ?_)
          | (go_at_call 82; refine hcm.mono ?_; clear hcm; rintro e w' ⟨v, rfl, rfl, hE2⟩))
        go_ret2
        exact ⟨_, rfl, by first | rfl | simp, hE2⟩
      · have his : is = false := by
          rw [← Bool.not_eq_true, Hp3.out]
          rintro ⟨h, _⟩
          exact hn2 h
        go_wp2
        go_ret2
        exact ⟨_, rfl, by rw [his]; rfl, hE⟩
set_option maxRecDepth 100000 in
theorem find_any {l : List HProp} {v : Value} {ks : List (List UInt8 × Tr)} (hk : KidsAt l v ks) (hr : Rising (ks.map Prod.fst)) (hn : ks.length ≤ 1000000) (nm : List UInt8) {w : World} (hE : Ent l w) :
    Calls Tryd.prog 46 #[v, .string ⟨nm.toArray⟩, .func (.func 47) #[] #[]] w
      (Ret fun r w' => r = .tuple #[.int .i64 (placeOf (ks.map Prod.fst) nm), .bool (isIn (ks.map Prod.fst) nm)] ∧ Ent l w') := by
  obtain ⟨ao, c, vs, rfl, hc, hl, hkn, _, _⟩ := hk.open
  have hS := fun (b : Nat) (w : World) (h : Ent (ofB b :: l) w) => search_any hl hr hn nm (b := b) hkn h
  generalize placeOf (ks.map Prod.fst) nm = p at *
  generalize isIn (ks.map Prod.fst) nm = is at *
  go_enter Tryd.func46, Tryd.ntmps46
  go_wp2_with (first
    | go_skip
    | ((with_reducible (show Go.wpList _ _ _ (Go.Oper.mk _ (.box _ _) _ _ _ _ :: _) _ _)); refine wpl_box hE rfl rfl rfl ?_; clear hE; intro b1 w1 hE)
    | (go_at_call 81; refine (hS b1 _ hE).mono ?_; clear hS; rintro e w2 ⟨r, rfl, rfl, hE2⟩))
  go_ret2
  exact ⟨_, rfl, rfl, hE2.tail⟩
end Go.Proofs.YtehfbokkcamliaaDoor
namespace Go.Proofs.YtehfbokkcamliaaDoor
open Go.RowKit Go.SL

theorem str_at (s : List UInt8) (k : Nat) (hb : k < (⟨s.toArray⟩ : ByteArray).size) : (⟨s.toArray⟩ : ByteArray)[k]'hb = s.getD k 0 := by
  have hk : k < s.length := by rwa [bytes_size] at hb
  rw [List.getD_eq_getElem?_getD, List.getElem?_eq_getElem hk]
  rfl
set_option maxRecDepth 100000 in
set_option maxHeartbeats 1000000 in
theorem good_any (c : UInt8) (w : World) : Calls Tryd.prog 80 #[.int .u8 c.toNat] w (fun e w' => e = .returned (.bool (goodB c)) ∧ w = w') := by
  have h : goodB c = (decide ((33 : Int) ≤ (c.toNat : Int)) && (decide ((c.toNat : Int) ≤ 126) && ((c.toNat : Int) != 47))) := by
    have e : (c != 47) = ((c.toNat : Int) != 47) := by
      rw [Bool.eq_iff_iff]
      simp [← UInt8.toNat_inj]
      omega
    rw [goodB, e]
    congr 1
    · exact decide_eq_decide.2 (by omega)
    · congr 1
      exact decide_eq_decide.2 (by omega)
  have H := SL.hid h
  clear h
  have h47 : (⟨#[47]⟩ : ByteArray)[0]'(by decide) = 47 := rfl
  generalize goodB c = g at *
  generalize c.toNat = n at *
  cases h1 : decide ((33 : Int) ≤ (n : Int)) with
  | false =>
    have R := SL.hid (show g = false by rw [H.out, h1]; rfl)
    go_enter Tryd.func80, Tryd.ntmps80
    go_wp2_with (first | go_skip)
    go_ret
    exact ⟨by rw [R.out]; rfl, rfl⟩
  | true =>
    cases h2 : decide ((n : Int) ≤ 126) with
    | false =>
      have R := SL.hid (show g = false by rw [H.out, h1, h2]; rfl)
      go_enter Tryd.func80, Tryd.ntmps80
      go_wp2_with (first | go_skip)
      go_ret
      exact ⟨by rw [R.out]; rfl, rfl⟩
    | true =>
      cases h3 : ((n : Int) != 47)
      all_goals
        have R := SL.hid (H.out.trans (show _ = ((n : Int) != 47) by rw [h1, h2]; rfl))
        rw [h3] at R
        go_enter Tryd.func80, Tryd.ntmps80
        go_wp2_with (first | go_skip)
        go_ret
        exact ⟨by rw [R.out]; rfl, rfl⟩

def NmRel (s : List UInt8) (i : Value) : Prop := ∃ k : Nat, k ≤ s.length ∧ i = .int .i64 k ∧ (s.take k).all goodB = true
theorem all_step {s : List UInt8} {k : Nat} (h : k < s.length) (ha : (s.take k).all goodB = true) : (goodB (s.getD k 0) = true → (s.take (k + 1)).all goodB = true) ∧ (goodB (s.getD k 0) = false → isName s = false) := by
  have e : s.getD k 0 = s[k] := by rw [List.getD_eq_getElem?_getD, List.getElem?_eq_getElem h]; rfl
  rw [e]
  refine ⟨fun hg => ?_, fun hg => ?_⟩
  · rw [List.take_succ_eq_append_getElem h, List.all_append, ha]
    simp [hg]
  · have : s.all goodB = false := List.all_eq_false.2 ⟨_, List.getElem_mem h, by simp [hg]⟩
    rw [isName, this, Bool.false_and]
set_option maxRecDepth 100000 in
set_option maxHeartbeats 1000000 in
theorem Name_any (s : List UInt8) (hs : s.length ≤ 1099511627776) (w : World) : Calls Tryd.prog 45 #[.string ⟨s.toArray⟩] w (fun e w' => e = .returned (.bool (isName s)) ∧ w = w') := by
  go_enter Tryd.func45, Tryd.ntmps45
  go_wp2
  go_loop [7] (fun i => NmRel s i) (fun i => s.length - (intOf i).toNat)
  case atStart => exact ⟨0, Nat.zero_le _, rfl, rfl⟩
  case round =>
    obtain ⟨k, hkl, rfl, hall⟩ := hrel
    by_cases hlt : k < s.length
    · have hix := str_at s k (by rw [bytes_size]; exact hlt)
      have Hs := SL.hid (all_step hlt hall)
      have hg := fun w => good_any (s.getD k 0) w
      clear hall
      generalize s.getD k 0 = c at *
      cases hgc : goodB c with
      | false =>
        rw [hgc] at hg
        have R := SL.hid (Hs.out.2 hgc)
        clear hgc
        go_wp2_with (first
          | go_skip
          | (go_at_call 80; refine (hg _).mono ?_; rintro e w2 ⟨rfl, rfl⟩))
        go_ret
        exact ⟨by rw [R.out]; rfl, rfl⟩
      | true =>
        rw [hgc] at hg
        have R := SL.hid (Hs.out.1 hgc)
        clear hgc
        go_wp2_with (first
          | go_skip
          | (go_at_call 80; refine (hg _).mono ?_; rintro e w2 ⟨rfl, rfl⟩))
        go_round
        case rel => exact ⟨k + 1, hlt, by simp, R.out⟩
        case measure => simp [intOf]; omega
    · have ha : s.all goodB = true := by rwa [show k = s.length by omega, List.take_length] at hall
      have R := SL.hid (show isName s = (decide ((1 : Int) ≤ (s.length : Int)) && decide ((s.length : Int) ≤ 16)) by
        rw [isName, ha, Bool.true_and]
        congr 1
        · exact decide_eq_decide.2 (by omega)
        · exact decide_eq_decide.2 (by omega))
      clear hall ha
      have hlt' : decide (k < s.length) = false := decide_eq_false hlt
      clear hlt hkl
      cases h1 : decide ((1 : Int) ≤ (s.length : Int)) with
      | false =>
        have R1 := SL.hid (show isName s = false by rw [R.out, h1]; rfl)
        go_wp2_with (first | go_skip)
        go_ret
        exact ⟨by rw [R1.out]; rfl, rfl⟩
      | true =>
        have R1 := SL.hid (show isName s = decide ((s.length : Int) ≤ 16) by rw [R.out, h1]; rfl)
        cases h2 : decide ((s.length : Int) ≤ 16)
        all_goals
          rw [h2] at R1
          go_wp2_with (first | go_skip)
          go_ret
          exact ⟨by rw [R1.out]; rfl, rfl⟩

set_option maxRecDepth 100000 in
set_option maxHeartbeats 1000000 in
theorem rName_any (s : List UInt8) (hs : s.length ≤ 1099511627776) (w : World) : Calls Tryd.prog 84 #[.string ⟨s.toArray⟩] w (fun e w' => e = .returned (.bool (isName s)) ∧ w = w') := by
  go_enter Tryd.func84, Tryd.ntmps84
  go_wp2
  go_loop [3] (fun i => NmRel s i) (fun i => s.length - (intOf i).toNat)
  case atStart => exact ⟨0, Nat.zero_le _, rfl, rfl⟩
  case round =>
    obtain ⟨k, hkl, rfl, hall⟩ := hrel
    by_cases hlt : k < s.length
    · have hix := str_at s k (by rw [bytes_size]; exact hlt)
      have Hs := SL.hid (all_step hlt hall)
      have hgc : goodB (s.getD k 0) = !(decide (((s.getD k 0).toNat : Int) < 33) || (decide (126 < ((s.getD k 0).toNat : Int)) || (((s.getD k 0).toNat : Int) == 47))) := by
        generalize s.getD k 0 = c
        have e : (c != 47) = !((c.toNat : Int) == 47) := by
          rw [Bool.eq_iff_iff]
          simp [← UInt8.toNat_inj]
          omega
        rw [goodB, e]
        by_cases a1 : c.toNat < 33
        · have b1 : decide (33 ≤ c.toNat) = false := decide_eq_false (by omega)
          have b2 : decide ((c.toNat : Int) < 33) = true := decide_eq_true (by omega)
          rw [b1, b2]; rfl
        · have b1 : decide (33 ≤ c.toNat) = true := decide_eq_true (by omega)
          have b2 : decide ((c.toNat : Int) < 33) = false := decide_eq_false (by omega)
          rw [b1, b2]
          by_cases a3 : c.toNat ≤ 126
          · rw [decide_eq_true a3, decide_eq_false (show ¬ (126 : Int) < (c.toNat : Int) by omega)]; simp
          · rw [decide_eq_false a3, decide_eq_true (show (126 : Int) < (c.toNat : Int) by omega)]; simp
      have Hgc := SL.hid hgc
      clear hall hgc
      generalize goodB (s.getD k 0) = g at *
      generalize s.getD k 0 = cc at *
      generalize hn : cc.toNat = n at *
      cases h1 : decide ((n : Int) < 33) with
      | true =>
        have R := SL.hid (Hs.out.2 (by rw [Hgc.out, h1]; rfl))
        go_wp2_with (first | go_skip)
        go_ret
        exact ⟨by rw [R.out]; rfl, rfl⟩
      | false =>
        cases h2 : decide ((126 : Int) < (n : Int)) with
        | true =>
          have R := SL.hid (Hs.out.2 (by rw [Hgc.out, h1, h2]; rfl))
          go_wp2_with (first | go_skip)
          go_ret
          exact ⟨by rw [R.out]; rfl, rfl⟩
        | false =>
          cases h3 : ((n : Int) == 47) with
          | true =>
            have R := SL.hid (Hs.out.2 (by rw [Hgc.out, h1, h2, h3]; rfl))
            go_wp2_with (first | go_skip)
            go_ret
            exact ⟨by rw [R.out]; rfl, rfl⟩
          | false =>
            have R := SL.hid (Hs.out.1 (by rw [Hgc.out, h1, h2, h3]; rfl))
            go_wp2_with (first | go_skip)
            go_round
            case rel => exact ⟨k + 1, hlt, by simp, R.out⟩
            case measure => simp [intOf]; omega
    · have ha : s.all goodB = true := by rwa [show k = s.length by omega, List.take_length] at hall
      have R := SL.hid (show isName s = (decide (0 < s.length) && decide ((s.length : Int) < 17)) by
        rw [isName, ha, Bool.true_and]
        congr 1
        exact decide_eq_decide.2 (by omega))
      clear hall ha
      have hlt' : decide (k < s.length) = false := decide_eq_false hlt
      clear hlt hkl
      cases h1 : decide (0 < s.length) with
      | false =>
        have R1 := SL.hid (show isName s = false by rw [R.out, h1]; rfl)
        go_wp2_with (first | go_skip)
        go_ret
        exact ⟨by rw [R1.out]; rfl, rfl⟩
      | true =>
        have R1 := SL.hid (show isName s = decide ((s.length : Int) < 17) by rw [R.out, h1]; rfl)
        cases h2 : decide ((s.length : Int) < 17)
        all_goals
          rw [h2] at R1
          go_wp2_with (first | go_skip)
          go_ret
          exact ⟨by rw [R1.out]; rfl, rfl⟩
end Go.Proofs.YtehfbokkcamliaaDoor
namespace Go.Proofs.YtehfbokkcamliaaDoor
open Go.RowKit Go.SL

theorem wide_fn (f : FuncId) : Fence.wide.fn f = True := rfl
theorem wide_depth : Fence.wide.depth = none := rfl
attribute [local go_sem] Oper.semAt_some wide_fn wide_depth

/-- the iterator's own heap: what is left, the text between, how much of it is kept -/
def itSt (p : List UInt8) (bs bsep bsave : Nat) (pre : List (List UInt8)) : List HProp :=
  [pt bs (.cells #[.string ⟨(rst p pre).toArray⟩] 9), pt bsep (.cells #[.string ⟨#[47]⟩] 9), pt bsave (.cells #[.int .i64 0] 3)]
def strLeft (b : Nat) (w : World) : Nat := match w.cell? ⟨b, 0, none⟩ with
  | some (.string s) => s.size
  | _ => 0

theorem strLeft_eq {b : Nat} {w : World} {s : List UInt8} (h : w.cell? ⟨b, 0, none⟩ = some (.string ⟨s.toArray⟩)) : strLeft b w = s.length := by
  unfold strLeft
  rw [h]
  exact bytes_size s
theorem perm_rev3 {A B C : HProp} {l : List HProp} : (A :: B :: C :: l).Perm (C :: B :: A :: l) :=
  (List.Perm.swap B A (C :: l)).trans (((List.Perm.swap C A l).cons B).trans (List.Perm.swap C B (A :: l)))
set_option maxRecDepth 100000 in
theorem splitSeq_any (p : List UInt8) {l : List HProp} {w : World} (hE : Ent l w) :
    Calls Tryd.prog 79 #[.string ⟨p.toArray⟩, .string ⟨#[47]⟩, .int .i64 0] w (Ret fun v w' => ∃ bs bsep bsave, v = .func (.func 104) #[] #[.pointer (some ⟨bsep, 0, none⟩), .pointer (some ⟨bs, 0, none⟩), .pointer (some ⟨bsave, 0, none⟩)] ∧ Ent (itSt p bs bsep bsave [] ++ l) w') := by
  go_enter Tryd.func79, Tryd.ntmps79
  go_wp2_with (first
    | go_skip
    | ((with_reducible (show Go.wpList _ _ _ (Go.Oper.mk _ (.box _ (.tmp 0)) _ _ _ _ :: _) _ _)); refine wpl_box hE rfl rfl rfl ?_; clear hE; intro b0 w hE1)
    | ((with_reducible (show Go.wpList _ _ _ (Go.Oper.mk _ (.box _ (.tmp 1)) _ _ _ _ :: _) _ _)); refine wpl_box hE1 rfl rfl rfl ?_; clear hE1; intro b1 w hE2)
    | ((with_reducible (show Go.wpList _ _ _ (Go.Oper.mk _ (.box _ (.tmp 2)) _ _ _ _ :: _) _ _)); refine wpl_box hE2 rfl rfl rfl ?_; clear hE2; intro b2 w hE3))
  go_ret
  refine ⟨_, rfl, b0, b1, b2, rfl, ?_⟩
  rw [itSt, rst_nil]
  exact hE3.perm perm_rev3
set_option maxRecDepth 100000 in
theorem SplitSeq_any (p : List UInt8) {l : List HProp} {w : World} (hE : Ent l w) :
    Calls Tryd.prog 44 #[.string ⟨p.toArray⟩, .string ⟨#[47]⟩] w (Ret fun v w' => ∃ bs bsep bsave, v = .func (.func 104) #[] #[.pointer (some ⟨bsep, 0, none⟩), .pointer (some ⟨bs, 0, none⟩), .pointer (some ⟨bsave, 0, none⟩)] ∧ Ent (itSt p bs bsep bsave [] ++ l) w') := by
  go_enter Tryd.func44, Tryd.ntmps44
  go_wp2_with (first
    | go_skip
    | (go_at_call 79; refine (splitSeq_any p hE).mono ?_; clear hE; rintro e w2 ⟨v, rfl, b0, b1, b2, rfl, hE2⟩))
  go_ret
  exact ⟨_, rfl, b0, b1, b2, rfl, hE2⟩

set_option maxRecDepth 100000 in
set_option maxHeartbeats 4000000 in
theorem split_iter (p : List UInt8) (hp : p.length ≤ 1099511627776) (bs bsep bsave : Nat) :
    SeqSL Tryd.prog 104 #[.pointer (some ⟨bsep, 0, none⟩), .pointer (some ⟨bs, 0, none⟩), .pointer (some ⟨bsave, 0, none⟩)] (fun x : List UInt8 => #[.string ⟨x.toArray⟩]) (cuts p) (itSt p bs bsep bsave) := by
  intro lp J Jx W hW hY
  refine callsIn_of_wp Tryd.func104 rfl trivial ?_ rfl
  simp only [Tryd.ntmps104, List.size_toArray, List.length_cons, List.length_nil, Nat.reduceAdd, Nat.reduceSub, Array.replicate_succ, Array.replicate_zero, List.push_toArray, List.append_toArray, List.nil_append, List.cons_append]
  have k1 := hW.cell 1 rfl 0
  have k0 := hW.cell 0 rfl 0
  have k2 := hW.cell 2 rfl 0
  simp only [List.getElem?_toArray, List.getElem?_cons_zero] at k0 k1 k2
  gi_wp2
  clear k0 k1 k2
  gi_loopw [7] (fun _ wr => ∃ pre, cuts p = pre ++ cuts (rst p pre) ∧ Ent (itSt p bs bsep bsave pre ++ J pre) wr) (fun _ wr => strLeft bs wr)
  case atStart => exact ⟨[], by rw [rst_nil]; rfl, hW⟩
  case round =>
    obtain ⟨pre, hc, hE⟩ := hrel
    have k0 : wr.cell? ⟨bs, 0, none⟩ = some (.string ⟨(rst p pre).toArray⟩) := hE.cell 0 rfl 0
    have k1 : wr.cell? ⟨bsep, 0, none⟩ = some (.string ⟨#[47]⟩) := hE.cell 1 rfl 0
    have k2 : wr.cell? ⟨bsave, 0, none⟩ = some (.int .i64 0) := hE.cell 2 rfl 0
    have hix := index_one ⟨(rst p pre).toArray⟩ 47 wr
    have hst := fun x (hk : x < (rst p pre).length) => rst_step p pre hk
    rcases idx_cuts (rst p pre) with ⟨hi, he⟩ | ⟨k, hk, hi, he⟩
    · have hpre : pre ++ [rst p pre] <+: cuts p := by rw [hc, he]; exact List.prefix_rfl
      have hJ := SL.hid (show cuts p = pre ++ [rst p pre] by rw [hc, he])
      obtain ⟨fn, tmps, assign, body, hy, hR⟩ := hY pre (rst p pre) wr hpre hE
      simp only [List.toList_toArray] at hix
      rw [hi] at hix
      clear hst hY hc hpre hi he
      gi_wp2_with (gi_at_call 106; refine (callsIn_wide.2 hix).mono ?_; rintro e w' ⟨rfl, rfl⟩)
      refine hR.mono ?_
      rintro e W3 (⟨rfl, hE3⟩ | ⟨rfl, hE3⟩)
      · gi_wp2
        go_end0
        exact ⟨⟨_, rfl⟩, .inl (by rw [hJ.out]; exact hE3.drop)⟩
      · gi_wp2
        go_end0
        exact ⟨⟨_, rfl⟩, .inr ⟨_, by rw [hJ.out]; exact List.prefix_rfl, hE3⟩⟩
    · have hpre : pre ++ [(rst p pre).take k] <+: cuts p := by rw [hc, he]; exact ⟨cuts ((rst p pre).drop (k + 1)), by simp⟩
      have hJ := SL.hid (show cuts p = (pre ++ [(rst p pre).take k]) ++ cuts (rst p (pre ++ [(rst p pre).take k])) by rw [hst k hk, hc, he]; simp)
      obtain ⟨fn, tmps, assign, body, hy, hR⟩ := hY pre ((rst p pre).take k) wr hpre hE
      simp only [List.toList_toArray] at hix
      rw [hi] at hix
      have hlen : (rst p pre).length ≤ 1099511627776 := by rw [rst, List.length_drop]; omega
      have hs1 := fun w => run_slice_sHi (P := Tryd.prog) Tryd.underlying9 (bs := rst p pre) (k := k) (by omega) w
      have hs2 := fun w => run_slice_sLo (P := Tryd.prog) Tryd.underlying9 (bs := rst p pre) (k := k + 1) (by omega) w
      have hw0 : wrap64 ((k : Int) + 1) = ((k + 1 : Nat) : Int) := by unfold wrap64; omega
      have hwk : wrap64 (k : Int) = (k : Int) := by unfold wrap64; omega
      have hex : (⟨(rst p pre).toArray⟩ : ByteArray).extract 0 k = ⟨((rst p pre).take k).toArray⟩ := by rw [extract_mk]; simp
      have hex2 : (⟨(rst p pre).toArray⟩ : ByteArray).extract (k + 1) (rst p pre).length = ⟨((rst p pre).drop (k + 1)).toArray⟩ := by rw [extract_mk, List.take_of_length_le (by simp)]
      have hkl : (k : Int) ≤ ((rst p pre).length : Int) := by omega
      have hkl1 : ((k + 1 : Nat) : Int) ≤ ((rst p pre).length : Int) := by omega
      have hkn : decide ((k : Int) < 0) = false := decide_eq_false (by omega)
      have hst2 := SL.hid (hst k hk)
      have hlt := SL.hid hk
      clear hst hY hc he hi hk
      gi_wp2_with (gi_at_call 106; refine (callsIn_wide.2 hix).mono ?_; rintro e w' ⟨rfl, rfl⟩)
      refine hR.mono ?_
      rintro e W3 (⟨rfl, hE3⟩ | ⟨rfl, hE3⟩)
      · have j0 : W3.cell? ⟨bs, 0, none⟩ = some (.string ⟨(rst p pre).toArray⟩) := hE3.cell 0 rfl 0
        have j1 : W3.cell? ⟨bsep, 0, none⟩ = some (.string ⟨#[47]⟩) := hE3.cell 1 rfl 0
        have jf : W3.frozen? ⟨bs, 0, none⟩ = false := hE3.frozen 0 rfl 0
        gi_wp2
        go_roundw
        case rel =>
          have h := hE3.setCell 0 rfl 0 (.string ⟨((rst p pre).drop (k + 1)).toArray⟩)
          refine ⟨_, hJ.out, ?_⟩
          rw [itSt, hst2.out]
          exact h
        case measure =>
          have h := hE3.setCell 0 rfl 0 (.string ⟨((rst p pre).drop (k + 1)).toArray⟩)
          rw [strLeft_eq k0, strLeft_eq (h.cell 0 rfl 0), List.length_drop]
          have := hlt.out
          omega
      · gi_wp2
        refine bodyPost_ret (results_none rfl _ _ _) rfl ?_
        exact ⟨⟨_, rfl⟩, .inr ⟨_, hJ.out ▸ List.prefix_append _ _, hE3⟩⟩
end Go.Proofs.YtehfbokkcamliaaDoor
namespace Go.SL
theorem results_2v {P : Program} {w : World} {fn : Func} {k j : Tmp} {t u : TypeId} (h : fn.results = #[.cell k t, .cell j u]) {tmps : Array Value} {b b2 : Nat} {v v2 : Value} (hp : tmps.getD k undef = .pointer (some ⟨b, 0, none⟩)) (hp2 : tmps.getD j undef = .pointer (some ⟨b2, 0, none⟩))
    (hA : ∀ w, (isAgg t).run P w = .ok false w) (hA2 : ∀ w, (isAgg u).run P w = .ok false w) (hc : w.cell? ⟨b, 0, none⟩ = some v) (hc2 : w.cell? ⟨b2, 0, none⟩ = some v2) : (results fn tmps).run P w = .ok (.tuple #[v, v2]) w := by
  have hp' : tmps[k]?.getD undef = .pointer (some ⟨b, 0, none⟩) := by simpa using hp
  have hp2' : tmps[j]?.getD undef = .pointer (some ⟨b2, 0, none⟩) := by simpa using hp2
  simp only [results, h]
  simp [hp', hp2', asAddr, loadVar, hA, hA2, hc, hc2]
end Go.SL
namespace Go.Proofs.YtehfbokkcamliaaDoor
open Go.RowKit Go.SL

attribute [local go_sem] Oper.semAt_some wide_fn wide_depth

def strv (s : List UInt8) : Value := .string ⟨s.toArray⟩
abbrev rowS (ao : Option Addr) (c : Nat) (xs : List (List UInt8)) : HProp := row 9 1 (.slice ao xs.length c) xs.length (xs.map strv)
theorem info_str : elemInfo Tryd.prog 9 = some (some 1, 1, 16) := by kernel_rfl

def spI (b2 b3 b4 : Nat) (l : List HProp) (pre : List (List UInt8)) : List HProp :=
  pt b2 (.cells #[.slice none 0 0] 22) :: pt b3 (.cells #[.int .i64 0] 33) :: (ex fun z : { _z : Option Addr × Nat // pre.all isName = true } => [pt b4 (.cells #[.slice z.1.1 pre.length z.1.2] 22), rowS z.1.1 z.1.2 pre]) :: l
def spX (b2 b3 : Nat) (l : List HProp) (c : Code) (pre : List (List UInt8)) : List HProp :=
  pt b2 (.cells #[.slice none 0 0] 22) :: pt b3 (.cells #[.int .i64 7] 33) :: (ex fun _ : c = .ret ∧ pre.all isName = false => []) :: l

set_option maxRecDepth 100000 in
set_option maxHeartbeats 4000000 in
theorem Split_some {p : List UInt8} (hp : p.length ≤ 1000000) (h0 : p ≠ []) {l : List HProp} {w : World} (hE : Ent l w) :
    Calls Tryd.prog 23 #[.string ⟨p.toArray⟩] w (Ret fun v w' => ∃ ao c, v = .tuple #[.slice ao (splitL p).length c, .int .i64 (splitE p)] ∧ Ent (rowS ao c (splitL p) :: l) w') := by
  have hne : (p == []) = false := by simpa using h0
  refine calls_of_marks Tryd.func23 rfl ?_
  simp only [Tryd.ntmps23, List.size_toArray, List.length_cons, List.length_nil, Nat.reduceAdd, Nat.reduceSub, Array.replicate_succ, Array.replicate_zero, List.push_toArray, List.append_toArray, List.nil_append, List.cons_append]
  go_wp2_with (first
    | go_skip
    | ((with_reducible (show Go.wpList _ _ _ (Go.Oper.mk _ (.alloc 22) _ _ _ _ :: _) _ _)); refine wpl_alloc hE rfl rfl (by simp [go_sem]; rfl) ?_; clear hE; intro b2 w hE1; simp only [Act.eval, Act.put, List.setIfInBounds_toArray, List.set_cons_zero, List.set_cons_succ, getD_lit, List.getD_cons_succ, List.getD_cons_zero, Value.cells] at hE1)
    | ((with_reducible (show Go.wpList _ _ _ (Go.Oper.mk _ (.alloc 33) _ _ _ _ :: _) _ _)); refine wpl_alloc hE1 rfl rfl (by simp [go_sem]; rfl) ?_; clear hE1; intro b3 w hE2; simp only [Act.eval, Act.put, List.setIfInBounds_toArray, List.set_cons_zero, List.set_cons_succ, getD_lit, List.getD_cons_succ, List.getD_cons_zero, Value.cells] at hE2)
    | ((with_reducible (show Go.wpList _ _ _ (Go.Oper.mk _ (.alloc 22) _ _ _ _ :: _) _ _)); refine wpl_alloc hE2 rfl rfl (by simp [go_sem]; rfl) ?_; clear hE2; intro b4 w hE3; simp only [Act.eval, Act.put, List.setIfInBounds_toArray, List.set_cons_zero, List.set_cons_succ, getD_lit, List.getD_cons_succ, List.getD_cons_zero, Value.cells] at hE3)
    | (go_at_call 44; refine (SplitSeq_any p hE3).mono ?_; clear hE3; rintro e w2 ⟨v, rfl, bs, bsep, bsave, rfl, hE4⟩))
  refine wpIn_wide.1 (wpIn_rangeSL (gf := 104) rfl (enters_of Tryd.func104 (by kernel_rfl) rfl) (split_iter p (by omega) bs bsep bsave) (fun _ => rfl) (spI b2 b3 b4 l) (spX b2 b3 l) ?e0
    (fun x => { tmps := #[.string ⟨p.toArray⟩, undef, .pointer (some ⟨b2, 0, none⟩), .pointer (some ⟨b3, 0, none⟩), .pointer (some ⟨b4, 0, none⟩), .string ⟨x.toArray⟩, .string ⟨p.toArray⟩, .bool false, .string ⟨p.toArray⟩, .func (.func 104) #[] #[.pointer (some ⟨bsep, 0, none⟩), .pointer (some ⟨bs, 0, none⟩), .pointer (some ⟨bsave, 0, none⟩)], .string ⟨x.toArray⟩, undef, undef, undef, undef, undef, undef, undef, undef, undef, undef, undef], defers := [] }) ?assign ?body ?done ?stop)
  case e0 =>
    have h := ((hE4.nil 9 1).front 4 rfl)
    have h2 := Ent.pack (f := fun z : { _z : Option Addr × Nat // ([] : List (List UInt8)).all isName = true } => [pt b4 (.cells #[.slice z.1.1 ([] : List (List UInt8)).length z.1.2] 22), rowS z.1.1 z.1.2 []]) ⟨(none, 0), rfl⟩ h
    exact ((((h2.front 4 rfl).front 5 rfl).front 5 rfl).front 5 rfl).front 5 rfl
  case assign =>
    intro lp x W K hK
    gi_wp2
    exact hK
  case body =>
    intro lp pre x W L hpre hW
    obtain ⟨⟨⟨ao, c⟩, hall⟩, hW'⟩ := (hW.front 2 rfl).unpack
    have Hall := SL.hid hall
    replace hW : Ent (pt b4 (.cells #[.slice ao pre.length c] 22) :: rowS ao c pre :: pt b2 (.cells #[.slice none 0 0] 22) :: pt b3 (.cells #[.int .i64 0] 33) :: (l ++ L)) W := hW'
    clear hW' hall
    have hxm : x ∈ cuts p := by
      obtain ⟨t, ht⟩ := hpre
      rw [← ht]; simp
    have hxl := (cuts_len p).2 x hxm
    have hpl : pre.length ≤ 1000001 := by
      have h1 := hpre.length_le
      have h2 := (cuts_len p).1
      simp at h1
      omega
    have j4 : W.cell? ⟨b4, 0, none⟩ = some (.slice ao pre.length c) := hW.cell 0 rfl 0
    have Hpre := SL.hid hpre
    clear hpre hxm
    cases hn : isName x with
    | false =>
      have Hn := SL.hid (show (pre ++ [x]).all isName = false from List.all_eq_false.2 ⟨x, by simp, by simp [hn]⟩)
      have hN := fun w => Name_any x (by omega) w
      rw [hn] at hN
      clear hn
      have j2 : W.cell? ⟨b2, 0, none⟩ = some (.slice none 0 0) := hW.cell 2 rfl 0
      have f2 : W.frozen? ⟨b2, 0, none⟩ = false := hW.frozen 2 rfl 0
      have hS := (hW.setCell 2 rfl 0 (.slice none 0 0))
      have s3 : (W.setCell ⟨b2, 0, none⟩ (.slice none 0 0)).cell? ⟨b3, 0, none⟩ = some (.int .i64 0) := hS.cell 3 rfl 0
      have g3 : (W.setCell ⟨b2, 0, none⟩ (.slice none 0 0)).frozen? ⟨b3, 0, none⟩ = false := hS.frozen 3 rfl 0
      gi_wp2_with (gi_at_call 45; refine (CallsIn.inRound lp (callsIn_wide.2 (hN _))).mono ?_; rintro e w' ⟨rfl, rfl⟩)
      have hF := (hS.setCell 3 rfl 0 (.int .i64 7)).tail.tail
      have hG := Ent.pack (f := fun _ : Code.ret = .ret ∧ (pre ++ [x]).all isName = false => []) ⟨rfl, Hn.out⟩ hF
      exact (hG.front 2 rfl).front 2 rfl
    | true =>
      have Hn := SL.hid (show (pre ++ [x]).all isName = true by rw [List.all_append, Hall.out]; simp [hn])
      have hN := fun w => Name_any x (by omega) w
      rw [hn] at hN
      clear hn
      gi_wp2_with (first
        | (gi_at_call 45; refine (CallsIn.inRound lp (callsIn_wide.2 (hN _))).mono ?_; rintro e w' ⟨rfl, rfl⟩)
        | (refine wplIn_one rfl rfl rfl (by intro c h; cases h) (by rintro ⟨_, _, h⟩; exact h) ?_; (with_reducible (show Go.wpList _ _ _ (Go.Oper.mk _ (.call { callee := .builtin .append, args := _, argTypes := _ }) _ _ _ _ :: _) _ _)); have hE9 := hW.alloc (.cells #[.string ⟨x.toArray⟩] 9); refine wpl_appendG hE9 2 rfl rfl rfl rfl rfl Tryd.underlying22 info_str (by decide) (m := 1) (news := [strv x]) (reads_pt hE9 0 rfl (off := 0) (fun j u hu => by rw [Nat.zero_add, List.getElem?_toArray]; exact hu)) rfl (by simp [strv, Value.oneCell']) (by omega) (by omega) ?_; clear hE9 hW; intro ao' c' w6 hE10; simp only [List.set_cons_zero, List.set_cons_succ] at hE10; refine wplIn_nil ?_)
        | (refine wplIn_one rfl rfl rfl (by intro c h; cases h) (by rintro ⟨_, _, h⟩; exact h) ?_; (with_reducible (show Go.wpList _ _ _ (Go.Oper.mk _ (.store 22 _ _) _ _ _ _ :: _) _ _)); refine wpl_store hE10 1 rfl rfl rfl rfl rfl (by simp [go_sem]; rfl) (by rfl) (by simp [Act.put, Value.cells, Value.oneCell', Act.eval]) (by simp) ?_; clear hE10; intro w hE11; simp only [Act.eval, getD_lit, List.getD_cons_succ, List.getD_cons_zero, Value.cells, List.set_cons_zero, List.set_cons_succ, List.take_succ_cons, List.take_zero, List.nil_append, List.cons_append, List.drop_succ_cons, List.drop_zero, List.length_cons, List.length_nil, Nat.reduceAdd, Nat.zero_add] at hE11; refine wplIn_nil ?_))
      have hF := hE11.tail
      have e1 : (pre ++ [x]).length = pre.length + 1 := by simp
      have e2 : (pre ++ [x]).map strv = pre.map strv ++ [strv x] := by simp
      have hG := Ent.pack (f := fun z : { _z : Option Addr × Nat // (pre ++ [x]).all isName = true } => [pt b4 (.cells #[.slice z.1.1 (pre ++ [x]).length z.1.2] 22), rowS z.1.1 z.1.2 (pre ++ [x])]) ⟨(ao', c'), Hn.out⟩ (by simp only [rowS, e1, e2]; exact hF)
      exact (hG.front 2 rfl).front 2 rfl
  case done =>
    intro D W hW
    obtain ⟨⟨⟨ao, c⟩, hall⟩, hW'⟩ := (hW.front 3 rfl).unpack
    replace hW : Ent (pt b4 (.cells #[.slice ao (cuts p).length c] 22) :: rowS ao c (cuts p) :: pt D (.deferred (some [])) :: pt b2 (.cells #[.slice none 0 0] 22) :: pt b3 (.cells #[.int .i64 0] 33) :: l) W := hW'
    clear hW'
    by_cases h6 : (cuts p).length ≤ 6
    · have R := SL.hid (split_good h0 hall h6)
      have hd : decide ((6 : Int) < ((cuts p).length : Int)) = false := decide_eq_false (by omega)
      clear h6 hall
      go_wp2_with (first
        | go_skip
        | ((with_reducible (show Go.wpList _ _ _ (Go.Oper.mk _ (.load 22 _) _ _ _ _ :: _) _ _)); refine wpl_load1 hW 0 rfl rfl rfl rfl (by simp [go_sem]) rfl ?_)
        | ((with_reducible (show Go.wpList _ _ _ (Go.Oper.mk _ (.store 22 _ _) _ _ _ _ :: _) _ _)); refine wpl_store hW 3 rfl rfl rfl rfl rfl (by simp [go_sem]; rfl) (by rfl) (by simp [Act.put, Value.cells, Value.oneCell', Act.eval]) (by simp) ?_; clear hW; intro w hE1; simp only [Act.eval, getD_lit, List.getD_cons_succ, List.getD_cons_zero, Value.cells, List.set_cons_zero, List.set_cons_succ, List.take_succ_cons, List.take_zero, List.nil_append, List.cons_append, List.drop_succ_cons, List.drop_zero, List.length_cons, List.length_nil, Nat.reduceAdd, Nat.zero_add] at hE1)
        | ((with_reducible (show Go.wpList _ _ _ (Go.Oper.mk _ (.store 33 _ _) _ _ _ _ :: _) _ _)); refine wpl_store hE1 4 rfl rfl rfl rfl rfl (by simp [go_sem]; rfl) (by rfl) (by simp [Act.put, Value.cells, Value.oneCell', Act.eval]) (by simp) ?_; clear hE1; intro w hE2; simp only [Act.eval, getD_lit, List.getD_cons_succ, List.getD_cons_zero, Value.cells, List.set_cons_zero, List.set_cons_succ, List.take_succ_cons, List.take_zero, List.nil_append, List.cons_append, List.drop_succ_cons, List.drop_zero, List.length_cons, List.length_nil, Nat.reduceAdd, Nat.zero_add] at hE2))
      refine post_mark rfl (hE2.front 2 rfl) (fun w' hw' => ⟨_, results_2v rfl rfl rfl (by simp [go_sem]) (by simp [go_sem]) (hw'.cell 2 rfl 0) (hw'.cell 3 rfl 0), _, rfl, ao, c, ?_, ?_⟩)
      · rw [R.out.1, R.out.2]; rfl
      · rw [R.out.1]
        exact ((hw'.tail.erase 1).erase 1)
    · have R := SL.hid (split_many h0 hall h6)
      have hd : (6 : Int) < ((cuts p).length : Int) := by omega
      clear h6 hall
      go_wp2_with (first
        | go_skip
        | ((with_reducible (show Go.wpList _ _ _ (Go.Oper.mk _ (.load 22 _) _ _ _ _ :: _) _ _)); refine wpl_load1 hW 0 rfl rfl rfl rfl (by simp [go_sem]) rfl ?_)
        | ((with_reducible (show Go.wpList _ _ _ (Go.Oper.mk _ (.store 22 _ _) _ _ _ _ :: _) _ _)); refine wpl_store hW 3 rfl rfl rfl rfl rfl (by simp [go_sem]; rfl) (by rfl) (by simp [Act.put, Value.cells, Value.oneCell', Act.eval]) (by simp) ?_; clear hW; intro w hE1; simp only [Act.eval, getD_lit, List.getD_cons_succ, List.getD_cons_zero, Value.cells, List.set_cons_zero, List.set_cons_succ, List.take_succ_cons, List.take_zero, List.nil_append, List.cons_append, List.drop_succ_cons, List.drop_zero, List.length_cons, List.length_nil, Nat.reduceAdd, Nat.zero_add] at hE1)
        | ((with_reducible (show Go.wpList _ _ _ (Go.Oper.mk _ (.store 33 _ _) _ _ _ _ :: _) _ _)); refine wpl_store hE1 4 rfl rfl rfl rfl rfl (by simp [go_sem]; rfl) (by rfl) (by simp [Act.put, Value.cells, Value.oneCell', Act.eval]) (by simp) ?_; clear hE1; intro w hE2; simp only [Act.eval, getD_lit, List.getD_cons_succ, List.getD_cons_zero, Value.cells, List.set_cons_zero, List.set_cons_succ, List.take_succ_cons, List.take_zero, List.nil_append, List.cons_append, List.drop_succ_cons, List.drop_zero, List.length_cons, List.length_nil, Nat.reduceAdd, Nat.zero_add] at hE2))
      refine post_mark rfl (hE2.front 2 rfl) (fun w' hw' => ⟨_, results_2v rfl rfl rfl (by simp [go_sem]) (by simp [go_sem]) (hw'.cell 2 rfl 0) (hw'.cell 3 rfl 0), _, rfl, none, 0, ?_, ?_⟩)
      · rw [R.out.1, R.out.2]; rfl
      · rw [R.out.1]
        exact (hw'.tail.tail.tail.tail.nil _ _)
  case stop =>
    intro D c pre W hpre hW
    obtain ⟨⟨rfl, hbad⟩, hW'⟩ := (hW.front 3 rfl).unpack
    have R := SL.hid (show splitL p = [] ∧ splitE p = 7 by
      obtain ⟨x, hx, hxn⟩ := List.all_eq_false.1 hbad
      obtain ⟨t, ht⟩ := hpre
      exact split_bad h0 (x := x) (by rw [← ht]; simp [hx]) (by simpa using hxn))
    replace hW : Ent (pt D (.deferred (some [])) :: pt b2 (.cells #[.slice none 0 0] 22) :: pt b3 (.cells #[.int .i64 7] 33) :: l) W := hW'
    clear hW' hbad hpre
    refine wpIn_wide.2 ?_
    go_wp2
    refine post_mark rfl hW (fun w' hw' => ⟨_, results_2v rfl rfl rfl (by simp [go_sem]) (by simp [go_sem]) (hw'.cell 0 rfl 0) (hw'.cell 1 rfl 0), _, rfl, none, 0, ?_, ?_⟩)
    · rw [R.out.1, R.out.2]; rfl
    · rw [R.out.1]
      exact hw'.tail.tail.nil _ _

set_option maxRecDepth 100000 in
theorem Split_any {p : List UInt8} (hp : p.length ≤ 1000000) {l : List HProp} {w : World} (hE : Ent l w) :
    Calls Tryd.prog 23 #[.string ⟨p.toArray⟩] w (Ret fun v w' => ∃ ao c, v = .tuple #[.slice ao (splitL p).length c, .int .i64 (splitE p)] ∧ Ent (rowS ao c (splitL p) :: l) w') := by
  by_cases h0 : p = []
  · subst h0
    refine calls_of_marks Tryd.func23 rfl ?_
    simp only [Tryd.ntmps23, List.size_toArray, List.length_cons, List.length_nil, Nat.reduceAdd, Nat.reduceSub, Array.replicate_succ, Array.replicate_zero, List.push_toArray, List.append_toArray, List.nil_append, List.cons_append]
    go_wp2_with (first
      | go_skip
      | ((with_reducible (show Go.wpList _ _ _ (Go.Oper.mk _ (.alloc 22) _ _ _ _ :: _) _ _)); refine wpl_alloc hE rfl rfl (by simp [go_sem]; rfl) ?_; clear hE; intro b2 w hE1; simp only [Act.eval, Act.put, List.setIfInBounds_toArray, List.set_cons_zero, List.set_cons_succ, getD_lit, List.getD_cons_succ, List.getD_cons_zero, Value.cells] at hE1)
      | ((with_reducible (show Go.wpList _ _ _ (Go.Oper.mk _ (.alloc 33) _ _ _ _ :: _) _ _)); refine wpl_alloc hE1 rfl rfl (by simp [go_sem]; rfl) ?_; clear hE1; intro b3 w hE2; simp only [Act.eval, Act.put, List.setIfInBounds_toArray, List.set_cons_zero, List.set_cons_succ, getD_lit, List.getD_cons_succ, List.getD_cons_zero, Value.cells] at hE2)
      | ((with_reducible (show Go.wpList _ _ _ (Go.Oper.mk _ (.store 22 _ _) _ _ _ _ :: _) _ _)); refine wpl_store hE2 1 rfl rfl rfl rfl rfl (by simp [go_sem]; rfl) (by rfl) (by simp [Act.put, Value.cells, Value.oneCell', Act.eval]) (by simp) ?_; clear hE2; intro w hE3; simp only [Act.eval, getD_lit, List.getD_cons_succ, List.getD_cons_zero, Value.cells, List.set_cons_zero, List.set_cons_succ, List.take_succ_cons, List.take_zero, List.nil_append, List.cons_append, List.drop_succ_cons, List.drop_zero, List.length_cons, List.length_nil, Nat.reduceAdd, Nat.zero_add] at hE3)
      | ((with_reducible (show Go.wpList _ _ _ (Go.Oper.mk _ (.store 33 _ _) _ _ _ _ :: _) _ _)); refine wpl_store hE3 0 rfl rfl rfl rfl rfl (by simp [go_sem]; rfl) (by rfl) (by simp [Act.put, Value.cells, Value.oneCell', Act.eval]) (by simp) ?_; clear hE3; intro w hE4; simp only [Act.eval, getD_lit, List.getD_cons_succ, List.getD_cons_zero, Value.cells, List.set_cons_zero, List.set_cons_succ, List.take_succ_cons, List.take_zero, List.nil_append, List.cons_append, List.drop_succ_cons, List.drop_zero, List.length_cons, List.length_nil, Nat.reduceAdd, Nat.zero_add] at hE4))
    refine post_none rfl (results_2v rfl rfl rfl (by simp [go_sem]) (by simp [go_sem]) (hE4.cell 1 rfl 0) (hE4.cell 0 rfl 0)) ⟨_, rfl, none, 0, rfl, ?_⟩
    exact hE4.tail.tail.nil _ _
  · exact Split_some hp h0 hE
end Go.Proofs.YtehfbokkcamliaaDoor
namespace Go.Proofs.YtehfbokkcamliaaDoor
open Go.RowKit Go.SL
theorem str_cells {w : World} {b off n c : Nat} {xs : List (List UInt8)} (hr : reads (.slice (some ⟨b, off, none⟩) n c) n (xs.map strv) w) {i : Nat} (hi : i < xs.length) : w.cell? ⟨b, off + i, none⟩ = some (.string ⟨xs[i].toArray⟩) := by
  obtain ⟨ao, c', e, _, h2⟩ := hr
  cases e
  have := h2 _ rfl i (strv xs[i]) (by simp [List.getElem?_eq_getElem hi])
  rwa [Addr.add_lit] at this
theorem cell_below {w : World} {b o : Nat} {v : Value} (h : w.cell? ⟨b, o, none⟩ = some v) : b < w.heap.size := by
  by_cases hb : b < w.heap.size
  · exact hb
  · exfalso
    have e : w.heap[b]? = none := Array.getElem?_eq_none (by omega)
    simp [World.cell?, e] at h
set_option maxRecDepth 100000 in
theorem Join_any {xs : List (List UInt8)} (hn : xs.length ≤ 1000) (hx : ∀ x ∈ xs, x.length ≤ 600) {ao : Option Addr} {c : Nat} (hc : xs.length ≤ c) {l : List HProp} {w : World} (hE : Ent l w) (hk : Knows l (reads (.slice ao xs.length c) xs.length (xs.map strv))) :
    Calls Tryd.prog 43 #[.slice ao xs.length c] w (Ret fun v w' => v = .string ⟨(joinP xs).toArray⟩ ∧ Ent l w') := by
  have hj : Calls Tryd.prog 78 #[.slice ao xs.length c, .string ⟨#[47]⟩] w (Ret fun v w' => v = .string ⟨(joinP xs).toArray⟩ ∧ Ent l w') := by
    cases xs with
    | nil =>
      refine (join_none ao c _ w).mono ?_
      rintro e w' ⟨rfl, rfl⟩
      exact ⟨_, rfl, rfl, hE⟩
    | cons x t =>
      obtain ⟨b, o, rfl, _⟩ := reads_form (hk _ hE) (by simp) (by simp)
      have hcell := fun i (hi : i < (x :: t).length) => str_cells (hk _ hE) hi
      have e1 : ((x :: t).map fun s => (⟨s.toArray⟩ : ByteArray)).map (·.data.toList) = x :: t := by
        rw [List.map_map]
        conv => rhs; rw [← List.map_id (x :: t)]
        congr 1
      have e2 : ((x :: t).map fun s => (⟨s.toArray⟩ : ByteArray)).length = (x :: t).length := List.length_map _
      have hl := joinP_len (x :: t) hx
      have hN := Nat.mul_le_mul_right 601 hn
      have h := join_many b o c ((x :: t).map fun s => (⟨s.toArray⟩ : ByteArray)) ⟨#[47]⟩ w
        (fun j y hy => by
          rw [List.getElem?_map] at hy
          by_cases hj : j < (x :: t).length
          · rw [List.getElem?_eq_getElem hj] at hy
            cases hy
            exact hcell j hj
          · rw [List.getElem?_eq_none (by omega)] at hy; cases hy)
        (cell_below (hcell 0 (by simp))) (by rw [e2]; omega) (by rw [e2]; exact hc) (by rw [e1]; show (joinP (x :: t)).length ≤ _; omega)
      rw [e1, e2] at h
      refine h.mono ?_
      rintro e w' ⟨rfl, hb⟩
      exact ⟨_, rfl, rfl, hE.ofBelow hb⟩
  go_enter Tryd.func43, Tryd.ntmps43
  go_wp2_with (first
    | go_skip
    | (go_at_call 78; refine hj.mono ?_; clear hE; rintro e w2 ⟨v, rfl, rfl, hE⟩))
  go_ret
  exact ⟨_, rfl, rfl, hE⟩
def RjRel (xs : List (List UInt8)) (l : List HProp) (s i : Value) (wr : World) : Prop := ∃ k : Nat, k ≤ xs.length ∧ i = .int .i64 k ∧ s = .string ⟨(joinP (xs.take k)).toArray⟩ ∧ Ent l wr
theorem catB (a b : List UInt8) (h : a.length + b.length ≤ 1099511627776) : ∃ p : List UInt8, p = a ++ b ∧ (⟨a.toArray⟩ : ByteArray) ++ ⟨b.toArray⟩ = ⟨p.toArray⟩ ∧ ¬ (9223372036854775807 < a.length + b.length) :=
  ⟨a ++ b, rfl, bytes_join a b, by omega⟩
theorem row_capJ {l : List HProp} {w : World} (hE : Ent l w) (i : Nat) {ao : Option Addr} {c : Nat} {xs : List (List UInt8)} (hi : l[i]? = some (rowS ao c xs)) : xs.length ≤ c := by
  rcases Nat.eq_zero_or_pos xs.length with h | h
  · omega
  · obtain ⟨_, _, h2, _⟩ := hE.rowIs i hi h
    exact h2
end Go.Proofs.YtehfbokkcamliaaDoor
namespace Go.Proofs.YtehfbokkcamliaaDoor
open Go.RowKit Go.SL

theorem ins_kids {l : List HProp} {ks : List (List UInt8 × Tr)} {vs : List Value} (hl : vs.length = ks.length) (hk : ∀ (i : Nat) (h : i < ks.length) (h' : i < vs.length), KidsAt l vs[i] ks[i].2.kids) {p : Nat} (hp : p ≤ ks.length) {n : List UInt8} {x : Tr} {v : Value} (hx : KidsAt l v x.kids) :
    ∀ (i : Nat) (h : i < (Tr.insAt p (n, x) ks).length) (h' : i < (Tr.insAt p v vs).length), KidsAt l (Tr.insAt p v vs)[i] (Tr.insAt p (n, x) ks)[i].2.kids := by
  intro i h h'
  rw [Tr.insAt_get hp i h, Tr.insAt_get (by omega) i h']
  by_cases h1 : i < p
  · rw [dif_pos h1, dif_pos h1]
    exact hk i (by omega) (by omega)
  · rw [dif_neg h1, dif_neg h1]
    by_cases h2 : i = p
    · rw [dif_pos h2, dif_pos h2]; exact hx
    · rw [dif_neg h2, dif_neg h2]
      rw [Tr.insAt_len hp] at h
      exact hk (i - 1) (by omega) (by omega)
theorem set_kids {l m : List HProp} {ks : List (List UInt8 × Tr)} {vs : List Value} (hl : vs.length = ks.length) (hk : ∀ (i : Nat) (h : i < ks.length) (h' : i < vs.length), KidsAt m vs[i] ks[i].2.kids) (hm : m <:+ l) (p : Nat) {n : List UInt8} {x : Tr} {v : Value} (hx : KidsAt l v x.kids) :
    ∀ (i : Nat) (h : i < (ks.set p (n, x)).length) (h' : i < (vs.set p v).length), KidsAt l (vs.set p v)[i] (ks.set p (n, x))[i].2.kids := by
  intro i h h'
  rw [List.getElem_set, List.getElem_set]
  split
  · exact hx
  · exact (hk i (by simpa using h) (by simpa using h')).suf hm
theorem withT_more {n : List UInt8} {q : List (List UInt8)} (hq : q ≠ []) (xd : Bool) (xb : List UInt8) (t : Tr) : Tr.withT (n :: q) xd xb t = if t.dir && isIn t.names n then
      (match Tr.withT q xd xb ((t.kids.getD (placeOf t.names n) ([], .zero)).2) with
       | (e, k) => if e = 0 then (0, .nd true [] (t.kids.set (placeOf t.names n) (n, k))) else (e, .zero)) else (8, .zero) := by
  cases q with
  | nil => exact absurd rfl hq
  | cons m r => rw [Tr.withT]
theorem withT_dir {n : List UInt8} {q : List (List UInt8)} (hq : q ≠ []) (xd : Bool) (xb dt : List UInt8) (ks : List (List UInt8 × Tr)) : Tr.withT (n :: q) xd xb (.nd true dt ks) =
    if isIn (ks.map Prod.fst) n = true then (if (Tr.withT q xd xb (ks.getD (placeOf (ks.map Prod.fst) n) ([], .zero)).2).1 = 0 then (0, .nd true [] (ks.set (placeOf (ks.map Prod.fst) n) (n, (Tr.withT q xd xb (ks.getD (placeOf (ks.map Prod.fst) n) ([], .zero)).2).2))) else ((Tr.withT q xd xb (ks.getD (placeOf (ks.map Prod.fst) n) ([], .zero)).2).1, .zero)) else (8, .zero) := by
  rw [withT_more hq]
  rfl
theorem _root_.Go.SL.Ent.mid {F m R : List HProp} {w : World} (h : Ent (F ++ (m ++ R)) w) : Ent (F ++ R) w := by
  have hp : (F ++ (m ++ R)).Perm (m ++ (F ++ R)) := by
    rw [← List.append_assoc, ← List.append_assoc]
    exact List.perm_append_comm.append_right R
  exact (h.perm hp).drop
def zkid : List Value := [.string ⟨#[]⟩, .bool false, .string ⟨#[]⟩, .slice none 0 0]
theorem zkids_len (n : Nat) : (List.replicate n zkid).flatten.length = n * 4 := by
  induction n with
  | zero => rfl
  | succ n ih => rw [List.replicate_succ, List.flatten_cons, List.length_append, ih]; simp [zkid]; omega
/-- the rows of kids with one more, or another one -/
theorem kCs_ins {ks : List (List UInt8 × Tr)} {vs : List Value} (hl : vs.length = ks.length) {p : Nat} (hp : p ≤ ks.length) (k : List UInt8 × Tr) (v : Value) (z : List Value) (hz : z.length = (ks.length + 1) * 4) :
    splice (splice (splice z (0 * 4) ((kCs ks vs).take (p * 4))) ((p + 1) * 4) ((kCs ks vs).drop (p * 4))) (p * 4) (kC k v) = kCs (Tr.insAt p k ks) (Tr.insAt p v vs) := by
  have e1 := kCs_take hl p
  have e2 := kCs_drop hl hp
  have l1 : (kCs (ks.take p) (vs.take p)).length = p * 4 := by rw [kCs_len (by rw [List.length_take, List.length_take]; omega), List.length_take, Nat.min_eq_left hp]
  have l2 : (kCs (ks.drop p) (vs.drop p)).length = (ks.length - p) * 4 := by rw [kCs_len (by rw [List.length_drop, List.length_drop]; omega), List.length_drop]
  rw [e1, e2]
  have h := splice_ins (z := z) (A := kCs (ks.take p) (vs.take p)) (B := kCs (ks.drop p) (vs.drop p)) (N := kC k v) (by rw [l1, l2, kC_len]; omega)
  rw [l1, kC_len] at h
  rw [Nat.zero_mul, show (p + 1) * 4 = p * 4 + 4 by omega, h, Tr.insAt, Tr.insAt, kCs_app (by rw [List.length_take, List.length_take]; omega), kCs_cons, List.append_assoc]
theorem kCs_set {ks : List (List UInt8 × Tr)} {vs : List Value} (hl : vs.length = ks.length) {p : Nat} (hp : p < ks.length) (x : Tr) (v : Value) (z : List Value) (hz : z.length = ks.length * 4) :
    splice (splice (splice z (0 * 4) ((kCs ks vs).take (p * 4))) (p * 4) ((kCs ks vs).drop (p * 4))) (p * 4 + 1) [.bool x.dir, .string ⟨x.data.toArray⟩, v] = kCs (ks.set p (ks[p].1, x)) (vs.set p v) := by
  have l0 := kCs_len hl
  have l1 : ((kCs ks vs).take (p * 4)).length = p * 4 := by rw [List.length_take, l0]; omega
  have h := splice_all (z := z) (A := (kCs ks vs).take (p * 4)) (B := (kCs ks vs).drop (p * 4)) (by rw [l1, List.length_drop, l0]; omega)
  rw [l1] at h
  rw [Nat.zero_mul, h, List.take_append_drop]
  have hk : ks = ks.take p ++ ks[p] :: ks.drop (p + 1) := by rw [← List.drop_eq_getElem_cons hp, List.take_append_drop]
  have hv : vs = vs.take p ++ vs[p]'(by omega) :: vs.drop (p + 1) := by rw [← List.drop_eq_getElem_cons (by omega), List.take_append_drop]
  have lk : (ks.take p).length = p := by rw [List.length_take]; omega
  have lv : (vs.take p).length = p := by rw [List.length_take]; omega
  have e : kCs ks vs = (kCs (ks.take p) (vs.take p) ++ [.string ⟨ks[p].1.toArray⟩]) ++ ([.bool ks[p].2.dir, .string ⟨ks[p].2.data.toArray⟩, vs[p]'(by omega)] ++ kCs (ks.drop (p + 1)) (vs.drop (p + 1))) := by
    conv => lhs; rw [hk, hv, kCs_app (by rw [lk, lv]), kCs_cons]
    simp [kC]
  have l3 : (kCs (ks.take p) (vs.take p) ++ [Value.string ⟨ks[p].1.toArray⟩]).length = p * 4 + 1 := by
    rw [List.length_append, kCs_len (by rw [lk, lv]), lk]; rfl
  have hm := splice_mid (kCs (ks.take p) (vs.take p) ++ [Value.string ⟨ks[p].1.toArray⟩]) [.bool ks[p].2.dir, .string ⟨ks[p].2.data.toArray⟩, vs[p]'(by omega)] [.bool x.dir, .string ⟨x.data.toArray⟩, v] (kCs (ks.drop (p + 1)) (vs.drop (p + 1))) rfl
  rw [e, ← l3, hm]
  have hk2 : ks.set p (ks[p].1, x) = ks.take p ++ (ks[p].1, x) :: ks.drop (p + 1) := by rw [List.set_eq_take_append_cons_drop, if_pos hp]
  have hv2 : vs.set p v = vs.take p ++ v :: vs.drop (p + 1) := by rw [List.set_eq_take_append_cons_drop, if_pos (by omega)]
  rw [hk2, hv2, kCs_app (by rw [lk, lv]), kCs_cons]
  simp [kC]
theorem nd_bytes : zeroList Tryd.prog 66 = some (zkid, 4, 64) := by kernel_rfl
theorem sz_kid : (Tryd.prog.info? 66).map (·.size) = some 4 := by kernel_rfl

set_option maxRecDepth 100000 in
theorem with_bad {d : Bool} {dt : List UInt8} {kv : Value} {L : Nat} (h : d = false ∨ L = 0) {an : Option Addr} {cn : Nat} {xd : Bool} {xb : List UInt8} {l : List HProp} {w : World} (hE : Ent l w) :
    Calls Tryd.prog 24 #[.agg #[.bool d, .string ⟨dt.toArray⟩, kv], .slice an L cn, .agg #[.bool xd, .string ⟨xb.toArray⟩, .slice none 0 0]] w
      (Ret fun v w' => v = .tuple #[.agg #[.bool false, .string ⟨#[]⟩, .slice none 0 0], .int .i64 8] ∧ Ent l w') := by
  cases d with
  | false =>
    go_enter Tryd.func24, Tryd.ntmps24
    go_wp2_with (first
      | go_skip
      | ((with_reducible (show Go.wpList _ _ _ (Go.Oper.mk _ (.box _ (.tmp 0)) _ _ _ _ :: _) _ _)); (refine bxX hE ?_; clear hE; intro b3 w hE))
      | ((with_reducible (show Go.wpList _ _ _ (Go.Oper.mk _ (.box _ (.tmp 2)) _ _ _ _ :: _) _ _)); (refine bxX hE ?_; clear hE; intro b5 w hE))
      | (refine alX hE ?_; clear hE; intro b6 w hE)
      | (refine ldX hE ?_)
      | (refine swX (t := 32) hE [.bool false, .string ⟨#[]⟩, .slice none 0 0] Tryd.sizeOf32 ?_; clear hE; intro w hE))
    refine bodyPost_ret (results_cell2 rfl hE 0 rfl rfl Tryd.isAgg32 Tryd.sizeOf32 rfl rfl) rfl ?_
    exact ⟨_, rfl, rfl, hE.tail.tail.tail⟩
  | true =>
    obtain rfl : L = 0 := by simpa using h
    go_enter Tryd.func24, Tryd.ntmps24
    go_wp2_with (first
      | go_skip
      | ((with_reducible (show Go.wpList _ _ _ (Go.Oper.mk _ (.box _ (.tmp 0)) _ _ _ _ :: _) _ _)); (refine bxX hE ?_; clear hE; intro b3 w hE))
      | ((with_reducible (show Go.wpList _ _ _ (Go.Oper.mk _ (.box _ (.tmp 2)) _ _ _ _ :: _) _ _)); (refine bxX hE ?_; clear hE; intro b5 w hE))
      | (refine alX hE ?_; clear hE; intro b6 w hE)
      | (refine ldX hE ?_)
      | (refine swX (t := 32) hE [.bool false, .string ⟨#[]⟩, .slice none 0 0] Tryd.sizeOf32 ?_; clear hE; intro w hE))
    refine bodyPost_ret (results_cell2 rfl hE 0 rfl rfl Tryd.isAgg32 Tryd.sizeOf32 rfl rfl) rfl ?_
    exact ⟨_, rfl, rfl, hE.tail.tail.tail⟩

set_option maxRecDepth 100000 in
set_option maxHeartbeats 8000000 in
attribute [-go_sem] Instr.loadAt in
theorem with_last {dt : List UInt8} {ks : List (List UInt8 × Tr)} {kv : Value} {pre lb : List HProp} (hkv : KidsAt lb kv ks) (hr : Rising (ks.map Prod.fst)) (h6 : ks.length ≤ 6) {n : List UInt8} {an : Option Addr} {cn : Nat} {xd : Bool} {xb : List UInt8} (hx : xb.length ≤ 1000000)
    (hn : Knows (pre ++ lb) (reads (.slice an 1 cn) 1 [strv n])) {w : World} (hE : Ent (pre ++ lb) w) :
    Calls Tryd.prog 24 #[.agg #[.bool true, .string ⟨dt.toArray⟩, kv], .slice an 1 cn, .agg #[.bool xd, .string ⟨xb.toArray⟩, .slice none 0 0]] w
      (Ret fun v w' => ∃ m kv', v = .tuple #[nodeV (Tr.withT [n] xd xb (.nd true dt ks)).2 kv', .int .i64 (Tr.withT [n] xd xb (.nd true dt ks)).1] ∧ Ent (pre ++ (m ++ lb)) w' ∧ KidsAt (m ++ lb) kv' (Tr.withT [n] xd xb (.nd true dt ks)).2.kids) := by
  have HT := SL.hid (show Tr.withT [n] xd xb (.nd true dt ks) = if !isIn (ks.map Prod.fst) n then (if 6 < ks.length + 1 ∨ 8192 < xb.length then (6, .zero) else (0, .nd true [] (Tr.insAt (placeOf (ks.map Prod.fst) n) (n, .leafOf xd xb) ks))) else (8, .zero) from by rw [Tr.withT]; rfl)
  have hp := (find_at hr n).2.1
  rw [List.length_map] at hp
  obtain ⟨ao, c, vs, rfl, hc, hl, hkn, hks, hone⟩ := hkv.open
  obtain ⟨bn, on, rfl, hz⟩ := reads_form (hn _ hE) (by omega) (by simp)
  clear hz
  have hNm := SL.hid (show ∀ W, Ent (pre ++ lb) W → W.cell? ⟨bn, on, none⟩ = some (.string ⟨n.toArray⟩) from fun W hW => by
    obtain ⟨b', o', e, h⟩ := reads_form (hn _ hW) (by omega) (by simp)
    cases e
    exact h 0 _ rfl)
  have hF := SL.hid (show ∀ (L : List HProp), (pre ++ lb) <:+ L → ∀ w, Ent L w → Calls Tryd.prog 46 #[.slice ao ks.length c, .string ⟨n.toArray⟩, .func (.func 47) #[] #[]] w
      (Ret fun r w' => r = .tuple #[.int .i64 (placeOf (ks.map Prod.fst) n), .bool (isIn (ks.map Prod.fst) n)] ∧ Ent L w') from fun L hL w hw => find_any (hkv.suf ((List.suffix_append pre lb).trans hL)) hr (by omega) n hw)
  have Hkn := SL.hid (show Knows (pre ++ lb) (reads (.slice ao ks.length c) ks.length (kCs ks vs)) from hkn.append)
  have Hlen := SL.hid (kCs_len hl)
  have Hone := SL.hid hone
  have Hins := SL.hid (fun z hz => kCs_ins (vs := vs) hl hp (n, .leafOf xd xb) (.slice none 0 0) z hz)
  have Hkk := SL.hid (ins_kids hl hks hp (n := n) (x := .leafOf xd xb) (KidsAt.nil lb))
  have Hil := SL.hid (Tr.insAt_len (x := (n, Tr.leafOf xd xb)) hp)
  have Hvl := SL.hid (Tr.insAt_len (x := Value.slice none 0 0) (l := vs) (i := placeOf (ks.map Prod.fst) n) (by omega))
  have Hl := SL.hid hl
  clear hn hkv hr hkn hone hl hks
  generalize placeOf (ks.map Prod.fst) n = p at *
  generalize isIn (ks.map Prod.fst) n = is at *
  cases is with
  | true =>
    rw [if_neg (by simp)] at HT
    rw [HT.out]
    as_aux_lemma =>
    go_enter Tryd.func24, Tryd.ntmps24
    go_wp2_with (first
      | go_skip
      | ((with_reducible (show Go.wpList _ _ _ (Go.Oper.mk _ (.box _ (.tmp 0)) _ _ _ _ :: _) _ _)); (refine bxX hE ?_; clear hE; intro b3 w hE))
      | ((with_reducible (show Go.wpList _ _ _ (Go.Oper.mk _ (.box _ (.tmp 2)) _ _ _ _ :: _) _ _)); (refine bxX hE ?_; clear hE; intro b5 w hE))
      | (refine alX hE ?_; clear hE; intro b6 w hE)
      | (refine ldX hE ?_))
    refine wp_region_held_drew (S := (fun w' => ((Instr.loadAt 30 (.pointer (some ⟨b3, 2, none⟩))).run Tryd.prog w' = .ok (.slice ao ks.length c) w') ∧ ((Instr.loadAt 9 (.pointer (some ⟨bn, on, none⟩))).run Tryd.prog w' = .ok (.string ⟨n.toArray⟩) w'))) (by kernel_rfl) ⟨(atVq hE.drew), (atCell (hNm.out _ (hE.drew.suf (by repeat (first | exact List.suffix_refl _ | refine List.IsSuffix.trans ?_ (List.suffix_cons _ _) | refine List.IsSuffix.trans ?_ (List.suffix_append _ _))))) (by simp [go_sem]))⟩ (fun hS => ?_)
    refine tV 0 hS ?_; refine tL 1 hS ?_; refine tV 2 hS ?_; refine tV 3 hS ?_; refine tL 4 hS ?_
    refine tO 5 (fun K hK => ?_)
    (go_simp; refine (hF.out _ (by repeat (first | exact List.suffix_refl _ | refine List.IsSuffix.trans ?_ (List.suffix_cons _ _) | refine List.IsSuffix.trans ?_ (List.suffix_append _ _))) _ hE.drew).mono ?_; rintro e w3 ⟨v, rfl, rfl, hE3⟩)
    refine tK hK ⟨(atVq hE3), (atCell (hNm.out _ (hE3.suf (by repeat (first | exact List.suffix_refl _ | refine List.IsSuffix.trans ?_ (List.suffix_cons _ _) | refine List.IsSuffix.trans ?_ (List.suffix_append _ _))))) (by simp [go_sem]))⟩ (fun hS => ?_); clear hK K
    refine tV 6 hS ?_; refine tV 7 hS ?_; refine tV 8 hS ?_; refine tV 9 hS ?_; refine tV 10 hS ?_
    refine wpAnyH_done (by kernel_rfl) ?_ _
    clear hE hS
    have hE := hE3
    clear hE3
    go_wp2_with (first
      | go_skip
      | (refine ldX hE ?_)
      | (refine swX (t := 32) hE [.bool false, .string ⟨#[]⟩, .slice none 0 0] Tryd.sizeOf32 ?_; clear hE; intro w hE))
    refine bodyPost_ret (results_cell2 rfl hE 0 rfl rfl Tryd.isAgg32 Tryd.sizeOf32 rfl rfl) rfl ?_
    exact ⟨_, rfl, [], .slice none 0 0, rfl, hE.tail.tail.tail, KidsAt.nil _⟩
  | false =>
    rw [if_pos (by simp)] at HT
    have h0p : (0 : Int) ≤ (p : Int) + 1 := by omega
    have hwp : IntKind.i64.wrap ((p : Int) + 1) = (p : Int) + 1 := wrap_id (by omega)
    have hs1 : ∀ w, (Instr.sliceAt 30 (.slice ao ks.length c) none (some (.int .i64 p)) none).run Tryd.prog w = .ok (.slice ao p c) w := fun w => by
      rw [sliceAt_slice Tryd.underlying30, run_cut_hi Tryd.underlying30 Tryd.sizeOf66 ao _ c .i64 p (by omega), cut_zero]; rfl
    have hs2 : ∀ w, (Instr.sliceAt 30 (.slice ao ks.length c) (some (.int .i64 p)) none none).run Tryd.prog w = .ok (.slice (cutAt 4 ao c p) (ks.length - p) (c - p)) w := fun w => by
      rw [sliceAt_slice Tryd.underlying30, run_cut_lo Tryd.underlying30 Tryd.sizeOf66 ao _ c .i64 p (by omega)]
    have hs3 : ∀ g w, (Instr.sliceAt 30 (.slice (some ⟨g, 0, none⟩) (ks.length + 1) (ks.length + 1)) (some (.int .i64 ((p : Int) + 1))) none none).run Tryd.prog w = .ok (.slice (cutAt 4 (some ⟨g, 0, none⟩) (ks.length + 1) (p + 1)) (ks.length - p) (ks.length - p)) w := fun g w => by
      rw [sliceAt_slice Tryd.underlying30, show (p : Int) + 1 = ((p + 1 : Nat) : Int) from rfl, run_cut_lo Tryd.underlying30 Tryd.sizeOf66 _ _ (ks.length + 1) .i64 (p + 1) (by omega), Nat.add_sub_add_right]
    have hpN : (p : Int) < (ks.length : Int) + 1 := by omega
    have hpN2 : p < ks.length + 1 := by omega
    have HpN := SL.hid (show p ≤ ks.length ∧ ks.length ≤ c ∧ ks.length ≤ 6 from by omega)
    have Hc1 := SL.hid (show (6 < ks.length + 1 ∨ 8192 < xb.length) ↔ ((decide ((6 : Int) < (ks.length : Int) + 1) || decide ((8192 : Int) < (xb.length : Int))) = true) from by
      rw [Bool.or_eq_true, decide_eq_true_eq, decide_eq_true_eq]; omega)
    clear hc
    as_aux_lemma =>
    go_enter Tryd.func24, Tryd.ntmps24
    go_wp2_with (first
      | go_skip
      | ((with_reducible (show Go.wpList _ _ _ (Go.Oper.mk _ (.box _ (.tmp 0)) _ _ _ _ :: _) _ _)); (refine bxX hE ?_; clear hE; intro b3 w hE))
      | ((with_reducible (show Go.wpList _ _ _ (Go.Oper.mk _ (.box _ (.tmp 2)) _ _ _ _ :: _) _ _)); (refine bxX hE ?_; clear hE; intro b5 w hE))
      | (refine alX hE ?_; clear hE; intro b6 w hE)
      | (refine ldX hE ?_))
    refine wp_region_held_drew (S := (fun w' => ((Instr.loadAt 30 (.pointer (some ⟨b3, 2, none⟩))).run Tryd.prog w' = .ok (.slice ao ks.length c) w') ∧ ((Instr.loadAt 9 (.pointer (some ⟨bn, on, none⟩))).run Tryd.prog w' = .ok (.string ⟨n.toArray⟩) w'))) (by kernel_rfl) ⟨(atVq hE.drew), (atCell (hNm.out _ (hE.drew.suf (by repeat (first | exact List.suffix_refl _ | refine List.IsSuffix.trans ?_ (List.suffix_cons _ _) | refine List.IsSuffix.trans ?_ (List.suffix_append _ _))))) (by simp [go_sem]))⟩ (fun hS => ?_)
    refine tV 0 hS ?_; refine tL 1 hS ?_; refine tV 2 hS ?_; refine tV 3 hS ?_; refine tL 4 hS ?_
    refine tO 5 (fun K hK => ?_)
    (go_simp; refine (hF.out _ (by repeat (first | exact List.suffix_refl _ | refine List.IsSuffix.trans ?_ (List.suffix_cons _ _) | refine List.IsSuffix.trans ?_ (List.suffix_append _ _))) _ hE.drew).mono ?_; rintro e w3 ⟨v, rfl, rfl, hE3⟩)
    refine tK hK ⟨(atVq hE3), (atCell (hNm.out _ (hE3.suf (by repeat (first | exact List.suffix_refl _ | refine List.IsSuffix.trans ?_ (List.suffix_cons _ _) | refine List.IsSuffix.trans ?_ (List.suffix_append _ _))))) (by simp [go_sem]))⟩ (fun hS => ?_); clear hK K
    refine tV 6 hS ?_; refine tV 7 hS ?_; refine tV 8 hS ?_; refine tV 9 hS ?_; refine tV 10 hS ?_
    refine wpAnyH_done (by kernel_rfl) ?_ _
    clear hE hS
    have hE := hE3
    clear hE3
    go_wp2_with (first
      | go_skip
      | (refine ldX hE ?_)
      | ((with_reducible (show Go.wpList _ _ _ (Go.Oper.mk _ (.makeSlice _ _ _) _ _ _ _ :: _) _ _)); refine wpl_make hE rfl rfl Tryd.underlying30 nd_bytes rfl (by decide) (ks.length + 1) rfl rfl (by have := HpN.out; omega) (by have := HpN.out; omega) ?_; clear hE; intro g w4 hE)
      | ((with_reducible (show Go.wpList _ _ _ (Go.Oper.mk _ (.call { callee := .builtin .copy, args := _, argTypes := _ }) _ _ _ _ :: _) _ _)); refine wpl_copyK (size := 4) (j := 0) (dLen := ks.length + 1) (dCap := ks.length + 1) hE 0 rfl rfl rfl (by rw [cut_zero]; rfl) rfl Tryd.underlying30 sz_kid (m := p) (ys := (kCs ks vs).take (p * 4)) (reads_first (Hkn.out _ (hE.suf (by repeat (first | exact List.suffix_refl _ | refine List.IsSuffix.trans ?_ (List.suffix_cons _ _) | refine List.IsSuffix.trans ?_ (List.suffix_append _ _))))) HpN.out.1) (by rw [List.length_take, Hlen.out]; have := HpN.out; omega) (fun u hu => Hone.out u (List.mem_of_mem_take hu)) (by have := HpN.out; omega) (by have := HpN.out; omega) ?_; clear hE; intro w5 hE; simp only [List.set_cons_zero] at hE))
    have hs4 := hs3 g
    clear hs3 hs1
    refine wp_region_held_drew (S := (fun w' => ((Instr.loadAt 30 (.pointer (some ⟨b3, 2, none⟩))).run Tryd.prog w' = .ok (.slice ao ks.length c) w'))) (by kernel_rfl) (atVq hE.drew) (fun hS => ?_)
    refine tV 0 hS ?_; refine tV 1 hS ?_; refine tV 2 hS ?_; refine tV 3 hS ?_; refine tV 4 hS ?_; refine tL 5 hS ?_; refine tV 6 hS ?_; refine tV 7 hS ?_
    refine tO 8 (fun K hK => ?_)
    (refine step_copyK (size := 4) (j := p + 1) (dLen := ks.length - p) (dCap := ks.length - p) hE.drew 0 rfl rfl (by rfl) (by rfl) (by rfl) Tryd.underlying30 sz_kid (m := ks.length - p) (ys := (kCs ks vs).drop (p * 4)) (reads_behind (Hkn.out _ (hE.drew.suf (by repeat (first | exact List.suffix_refl _ | refine List.IsSuffix.trans ?_ (List.suffix_cons _ _) | refine List.IsSuffix.trans ?_ (List.suffix_append _ _))))) Hlen.out HpN.out.2.1 HpN.out.1) (by rw [List.length_drop, Hlen.out, Nat.sub_mul]) (fun u hu => Hone.out u (List.mem_of_mem_drop hu)) (by have := HpN.out; omega) (by have := HpN.out; omega) ?_; intro w6 hE6; simp only [List.set_cons_zero] at hE6)
    refine tK hK (atVq hE6) (fun hS => ?_); clear hK K
    refine wpAnyH_done (by kernel_rfl) ?_ _
    clear hE hS hs2 hs4
    have hE := hE6
    clear hE6
    go_wp2_with (first | go_skip)
    refine wp_region_held_drew (S := (fun w' => ((Instr.loadAt 9 (.pointer (some ⟨bn, on, none⟩))).run Tryd.prog w' = .ok (.string ⟨n.toArray⟩) w') ∧ ((Instr.loadAt 32 (.pointer (some ⟨b5, 0, none⟩))).run Tryd.prog w' = .ok (.agg #[.bool xd, .string ⟨xb.toArray⟩, .slice none 0 0]) w'))) (by kernel_rfl) ⟨(atCell (hNm.out _ (hE.drew.suf (by repeat (first | exact List.suffix_refl _ | refine List.IsSuffix.trans ?_ (List.suffix_cons _ _) | refine List.IsSuffix.trans ?_ (List.suffix_append _ _))))) (by simp [go_sem])), (atWm (vs := [.bool xd, .string ⟨xb.toArray⟩, .slice none 0 0]) hE.drew (by repeat (first | exact List.Mem.head _ | refine List.Mem.tail _ ?_)) Tryd.isAgg32 Tryd.sizeOf32 rfl)⟩ (fun hS => ?_)
    refine tV 0 hS ?_; refine tV 1 hS ?_; refine tV 2 hS ?_; refine tV 3 hS ?_; refine tL 4 hS ?_; refine tL 5 hS ?_; refine tV 6 hS ?_; refine tV 7 hS ?_
    refine tO 8 (fun K hK => ?_)
    (refine step_storeRow hE.drew 0 (kC (n, .leafOf xd xb) (.slice none 0 0)) rfl rfl (by rfl) (by rfl) (by rfl) Tryd.sizeOf66 rfl (by simp [kC, Value.oneCell']) (off := p * 4) (by have := HpN.out; omega) ?_; intro w7 hE7; simp only [List.set_cons_zero] at hE7)
    refine tK hK ⟨(atCell (hNm.out _ (hE7.suf (by repeat (first | exact List.suffix_refl _ | refine List.IsSuffix.trans ?_ (List.suffix_cons _ _) | refine List.IsSuffix.trans ?_ (List.suffix_append _ _))))) (by simp [go_sem])), (atWm (vs := [.bool xd, .string ⟨xb.toArray⟩, .slice none 0 0]) hE7 (by repeat (first | exact List.Mem.head _ | refine List.Mem.tail _ ?_)) Tryd.isAgg32 Tryd.sizeOf32 rfl)⟩ (fun hS => ?_); clear hK K
    refine wpAnyH_done (by kernel_rfl) ?_ _
    clear hE hS
    have hE := hE7
    clear hE7
    have hZ := Hins.out (List.replicate (ks.length + 1) zkid).flatten (zkids_len _)
    rw [hZ] at hE
    cases c1 : decide ((6 : Int) < (ks.length : Int) + 1) <;> cases c2 : decide ((8192 : Int) < (xb.length : Int))
    all_goals rw [c1, c2] at Hc1
    rotate_left
    all_goals try (
      rw [if_pos (Hc1.out.2 (by rfl))] at HT
      go_wp2_with (first
        | go_skip
        | (refine ldX hE ?_)
        | ((with_reducible (show Go.wpList _ _ _ (Go.Oper.mk _ (.store 32 _ _) _ _ _ _ :: _) _ _)); refine wpl_storeW hE 1 rfl rfl rfl (xs := [.bool false, .string ⟨#[]⟩, .slice none 0 0]) rfl rfl Tryd.sizeOf32 rfl (by simp [Value.oneCell']) rfl ?_; clear hE; intro w8 hE; simp only [List.set_cons_zero, List.set_cons_succ] at hE))
      refine bodyPost_ret (results_cell2 rfl hE 1 rfl rfl Tryd.isAgg32 Tryd.sizeOf32 rfl rfl) rfl ?_
      rw [HT.out]
      exact ⟨_, rfl, [], .slice none 0 0, rfl, hE.tail.tail.tail.tail, KidsAt.nil _⟩)
    rw [if_neg (fun h => absurd (Hc1.out.1 h) (by decide))] at HT
    go_wp2_with (first
      | go_skip
      | (refine ldX hE ?_)
      | ((with_reducible (show Go.wpList _ _ _ (Go.Oper.mk _ (.store 32 _ _) _ _ _ _ :: _) _ _)); refine wpl_storeW hE 1 rfl rfl rfl (xs := [.bool true, .string ⟨#[]⟩, .slice (some ⟨g, 0, none⟩) (ks.length + 1) (ks.length + 1)]) rfl rfl Tryd.sizeOf32 rfl (by simp [Value.oneCell']) rfl ?_; clear hE; intro w8 hE; simp only [List.set_cons_zero, List.set_cons_succ] at hE))
    refine bodyPost_ret (results_cell2 rfl hE 1 rfl rfl Tryd.isAgg32 Tryd.sizeOf32 rfl rfl) rfl ?_
    rw [HT.out]
    refine ⟨_, rfl, [row 66 4 (.slice (some ⟨g, 0, none⟩) (ks.length + 1) (ks.length + 1)) (ks.length + 1) (kCs (Tr.insAt p (n, Tr.leafOf xd xb) ks) (Tr.insAt p (.slice none 0 0) vs))], .slice (some ⟨g, 0, none⟩) (ks.length + 1) (ks.length + 1), rfl, Ent.keepNew (((hE.erase 1).erase 1).erase 1), ?_⟩
    have e : (Tr.insAt p (n, Tr.leafOf xd xb) ks).length = ks.length + 1 := Hil.out
    have hE9 : ∀ w, Ent ([row 66 4 (.slice (some ⟨g, 0, none⟩) (ks.length + 1) (ks.length + 1)) (ks.length + 1) (kCs (Tr.insAt p (n, Tr.leafOf xd xb) ks) (Tr.insAt p (.slice none 0 0) vs))] ++ lb) w → reads (.slice (some ⟨g, 0, none⟩) (ks.length + 1) (ks.length + 1)) (ks.length + 1) (kCs (Tr.insAt p (n, Tr.leafOf xd xb) ks) (Tr.insAt p (.slice none 0 0) vs)) w := fun w h => reads_row h 0 rfl
    show KidsAt _ _ (Tr.insAt p (n, Tr.leafOf xd xb) ks)
    have h := KidsAt.mk (l := [row 66 4 (.slice (some ⟨g, 0, none⟩) (ks.length + 1) (ks.length + 1)) (ks.length + 1) (kCs (Tr.insAt p (n, Tr.leafOf xd xb) ks) (Tr.insAt p (.slice none 0 0) vs))] ++ lb) (some ⟨g, 0, none⟩) (ks.length + 1) (Tr.insAt p (n, Tr.leafOf xd xb) ks) (Tr.insAt p (.slice none 0 0) vs) (by omega) (by rw [Hvl.out, e, Hl.out]) (by rw [e]; exact hE9) (fun i h h' => (Hkk.out i h h').suf (List.suffix_append _ _))
    rwa [e] at h

/-- the contract of with at names and a node -/
def WithC (q : List (List UInt8)) (xd : Bool) (xb : List UInt8) : Prop :=
  ∀ (t : Tr) (dp : Nat), Tr.Wf dp t → ∀ (kv : Value) (pre lb : List HProp) (an : Option Addr) (cn : Nat) (w : World), KidsAt lb kv t.kids → q.length ≤ cn → Knows (pre ++ lb) (reads (.slice an q.length cn) q.length (q.map strv)) → Ent (pre ++ lb) w →
    Calls Tryd.prog 24 #[nodeV t kv, .slice an q.length cn, .agg #[.bool xd, .string ⟨xb.toArray⟩, .slice none 0 0]] w
      (Ret fun v w' => ∃ m kv', v = .tuple #[nodeV (Tr.withT q xd xb t).2 kv', .int .i64 (Tr.withT q xd xb t).1] ∧ Ent (pre ++ (m ++ lb)) w' ∧ KidsAt (m ++ lb) kv' (Tr.withT q xd xb t).2.kids)

set_option maxRecDepth 100000 in
set_option maxHeartbeats 8000000 in
attribute [-go_sem] Instr.loadAt in
theorem with_more {dt : List UInt8} {ks : List (List UInt8 × Tr)} {dp : Nat} (hw : Tr.Wf dp (.nd true dt ks)) {kv : Value} {pre lb : List HProp} (hkv : KidsAt lb kv ks) (hr : Rising (ks.map Prod.fst)) (h6 : ks.length ≤ 6) {n : List UInt8} {q : List (List UInt8)} (hq : q ≠ []) (hql : q.length ≤ 1000) {an : Option Addr} {cn : Nat} (hcn : (n :: q).length ≤ cn) {xd : Bool} {xb : List UInt8}
    (IH : WithC q xd xb) (hn : Knows (pre ++ lb) (reads (.slice an (n :: q).length cn) (n :: q).length ((n :: q).map strv))) {w : World} (hE : Ent (pre ++ lb) w) :
    Calls Tryd.prog 24 #[.agg #[.bool true, .string ⟨dt.toArray⟩, kv], .slice an (n :: q).length cn, .agg #[.bool xd, .string ⟨xb.toArray⟩, .slice none 0 0]] w
      (Ret fun v w' => ∃ m kv', v = .tuple #[nodeV (Tr.withT (n :: q) xd xb (.nd true dt ks)).2 kv', .int .i64 (Tr.withT (n :: q) xd xb (.nd true dt ks)).1] ∧ Ent (pre ++ (m ++ lb)) w' ∧ KidsAt (m ++ lb) kv' (Tr.withT (n :: q) xd xb (.nd true dt ks)).2.kids) := by
  have hT := withT_dir (n := n) hq xd xb dt ks
  have hp := (find_at hr n).2.1
  rw [List.length_map] at hp
  have hplace : isIn (ks.map Prod.fst) n = true → ∃ x : Tr, ks[placeOf (ks.map Prod.fst) n]? = some (n, x) := fun h => by
    obtain ⟨hi, e, _⟩ := Tr.kid_place (t := .nd true dt ks) hr h
    exact ⟨_, (List.getElem?_eq_getElem hi).trans (congrArg some (Prod.ext e rfl))⟩
  obtain ⟨ao, c, vs, rfl, hc, hl, hkn, hks, hone⟩ := hkv.open
  obtain ⟨bn, on, rfl, hz⟩ := reads_form (hn _ hE) (by simp) (by simp)
  clear hz
  have hNm := SL.hid (show ∀ W, Ent (pre ++ lb) W → W.cell? ⟨bn, on, none⟩ = some (.string ⟨n.toArray⟩) from fun W hW => by
    obtain ⟨b', o', e, h⟩ := reads_form (hn _ hW) (by simp) (by simp)
    cases e
    exact h 0 _ rfl)
  have hF := SL.hid (show ∀ (L : List HProp), (pre ++ lb) <:+ L → ∀ w, Ent L w → Calls Tryd.prog 46 #[.slice ao ks.length c, .string ⟨n.toArray⟩, .func (.func 47) #[] #[]] w
      (Ret fun r w' => r = .tuple #[.int .i64 (placeOf (ks.map Prod.fst) n), .bool (isIn (ks.map Prod.fst) n)] ∧ Ent L w') from fun L hL w hw => find_any (hkv.suf ((List.suffix_append pre lb).trans hL)) hr (by omega) n hw)
  have Hkn := SL.hid (show Knows (pre ++ lb) (reads (.slice ao ks.length c) ks.length (kCs ks vs)) from hkn.append)
  have Hlen := SL.hid (kCs_len hl)
  have Hone := SL.hid hone
  have Hl := SL.hid hl
  have hq0 : 0 < q.length := by cases q with | nil => exact absurd rfl hq | cons a b => simp
  have hL0 : (((n :: q).length : Int) == 0) = false := by rw [beq_eq_false_iff_ne]; simp; omega
  have hL1 : (((n :: q).length : Int) == 1) = false := by rw [beq_eq_false_iff_ne]; simp; omega
  have hs4 : ∀ w, (Instr.sliceAt 22 (.slice (some ⟨bn, on, none⟩) (n :: q).length cn) (some (.int .i64 1)) none none).run Tryd.prog w = .ok (.slice (cutAt 1 (some ⟨bn, on, none⟩) cn 1) q.length (cn - 1)) w := fun w => by
    rw [sliceAt_slice Tryd.underlying22]
    exact run_cut_lo Tryd.underlying22 Tryd.sizeOf9 _ (n :: q).length cn .i64 1 (by simp)
  have Hn2 := SL.hid (show Knows (pre ++ lb) (reads (.slice (cutAt 1 (some ⟨bn, on, none⟩) cn 1) q.length (cn - 1)) q.length (q.map strv)) from fun w hw => by
    have h := reads_behind (size := 1) (hn w hw) (by simp) hcn (k := 1) (by simp)
    simpa using h)
  have hix : 0 < (n :: q).length := by simp
  have Hcn := SL.hid (show q.length ≤ cn - 1 by simp at hcn; omega)
  clear hn hkv hr hkn hone hcn
  generalize placeOf (ks.map Prod.fst) n = p at *
  generalize isIn (ks.map Prod.fst) n = is at *
  generalize (n :: q).length = L at *
  cases is with
  | false =>
    have HT := SL.hid (hT.trans (if_neg (by simp)))
    clear hT hplace
    rw [HT.out]
    as_aux_lemma =>
    go_enter Tryd.func24, Tryd.ntmps24
    go_wp2_with (first
      | go_skip
      | ((with_reducible (show Go.wpList _ _ _ (Go.Oper.mk _ (.box _ (.tmp 0)) _ _ _ _ :: _) _ _)); (refine bxX hE ?_; clear hE; intro b3 w hE))
      | ((with_reducible (show Go.wpList _ _ _ (Go.Oper.mk _ (.box _ (.tmp 2)) _ _ _ _ :: _) _ _)); (refine bxX hE ?_; clear hE; intro b5 w hE))
      | (refine alX hE ?_; clear hE; intro b6 w hE)
      | (refine ldX hE ?_))
    refine wp_region_held_drew (S := (fun w' => ((Instr.loadAt 30 (.pointer (some ⟨b3, 2, none⟩))).run Tryd.prog w' = .ok (.slice ao ks.length c) w') ∧ ((Instr.loadAt 9 (.pointer (some ⟨bn, on, none⟩))).run Tryd.prog w' = .ok (.string ⟨n.toArray⟩) w'))) (by kernel_rfl) ⟨(atVq hE.drew), (atCell (hNm.out _ (hE.drew.suf (by repeat (first | exact List.suffix_refl _ | refine List.IsSuffix.trans ?_ (List.suffix_cons _ _) | refine List.IsSuffix.trans ?_ (List.suffix_append _ _))))) (by simp [go_sem]))⟩ (fun hS => ?_)
    refine tV 0 hS ?_; refine tL 1 hS ?_; refine tV 2 hS ?_; refine tV 3 hS ?_; refine tL 4 hS ?_
    refine tO 5 (fun K hK => ?_)
    (go_simp; refine (hF.out _ (by repeat (first | exact List.suffix_refl _ | refine List.IsSuffix.trans ?_ (List.suffix_cons _ _) | refine List.IsSuffix.trans ?_ (List.suffix_append _ _))) _ hE.drew).mono ?_; rintro e w3 ⟨v, rfl, rfl, hE3⟩)
    refine tK hK ⟨(atVq hE3), (atCell (hNm.out _ (hE3.suf (by repeat (first | exact List.suffix_refl _ | refine List.IsSuffix.trans ?_ (List.suffix_cons _ _) | refine List.IsSuffix.trans ?_ (List.suffix_append _ _))))) (by simp [go_sem]))⟩ (fun hS => ?_); clear hK K
    refine tV 6 hS ?_; refine tV 7 hS ?_; refine tV 8 hS ?_; refine tV 9 hS ?_; refine tV 10 hS ?_
    refine wpAnyH_done (by kernel_rfl) ?_ _
    clear hE hS
    have hE := hE3
    clear hE3
    go_wp2_with (first
      | go_skip
      | (refine ldX hE ?_)
      | (refine swX (t := 32) hE [.bool false, .string ⟨#[]⟩, .slice none 0 0] Tryd.sizeOf32 ?_; clear hE; intro w hE))
    refine bodyPost_ret (results_cell2 rfl hE 0 rfl rfl Tryd.isAgg32 Tryd.sizeOf32 rfl rfl) rfl ?_
    exact ⟨_, rfl, [], .slice none 0 0, rfl, hE.tail.tail.tail, KidsAt.nil _⟩
  | true =>
    obtain ⟨x0, hx0⟩ := hplace rfl
    obtain ⟨hpk, hpe⟩ := List.getElem?_eq_some_iff.1 hx0
    have hpn : ks[p].1 = n := by rw [hpe]
    clear hx0 hpe
    have hg : ks.getD p ([], Tr.zero) = ks[p] := by rw [List.getD_eq_getElem?_getD, List.getElem?_eq_getElem hpk]; rfl
    rw [if_pos rfl, hg] at hT
    obtain ⟨dp', rfl, hwk⟩ := Tr.wf_kid hw (List.getElem_mem hpk)
    have HK := SL.hid (show ∀ (A B C D : HProp) (w : World), Ent (A :: B :: C :: D :: (pre ++ lb)) w → Calls Tryd.prog 24 #[nodeV ks[p].2 (vs[p]'(by omega)), .slice (cutAt 1 (some ⟨bn, on, none⟩) cn 1) q.length (cn - 1), .agg #[.bool xd, .string ⟨xb.toArray⟩, .slice none 0 0]] w
      (Ret fun v w' => ∃ m kv', v = .tuple #[nodeV (Tr.withT q xd xb ks[p].2).2 kv', .int .i64 (Tr.withT q xd xb ks[p].2).1] ∧ Ent (A :: B :: C :: D :: (pre ++ (m ++ lb))) w' ∧ KidsAt (m ++ lb) kv' (Tr.withT q xd xb ks[p].2).2.kids) from
      fun A B C D w h => IH ks[p].2 dp' hwk _ (A :: B :: C :: D :: pre) lb _ _ w (hks p hpk (by omega)) Hcn.out (fun w hw => Hn2.out _ (hw.suf (by exact (List.suffix_append [A, B, C, D] (pre ++ lb))))) h)
    have HK5 := SL.hid (show ∀ (A B C D E : HProp) (w : World), Ent (A :: B :: C :: D :: E :: (pre ++ lb)) w → Calls Tryd.prog 24 #[nodeV ks[p].2 (vs[p]'(by omega)), .slice (cutAt 1 (some ⟨bn, on, none⟩) cn 1) q.length (cn - 1), .agg #[.bool xd, .string ⟨xb.toArray⟩, .slice none 0 0]] w
      (Ret fun v w' => ∃ m kv', v = .tuple #[nodeV (Tr.withT q xd xb ks[p].2).2 kv', .int .i64 (Tr.withT q xd xb ks[p].2).1] ∧ Ent (A :: B :: C :: D :: E :: (pre ++ (m ++ lb))) w' ∧ KidsAt (m ++ lb) kv' (Tr.withT q xd xb ks[p].2).2.kids) from
      fun A B C D E w h => IH ks[p].2 dp' hwk _ (A :: B :: C :: D :: E :: pre) lb _ _ w (hks p hpk (by omega)) Hcn.out (fun w hw => Hn2.out _ (hw.suf (by exact (List.suffix_append [A, B, C, D, E] (pre ++ lb))))) h)
    have hLd := SL.hid (show ∀ (W : World), Ent (pre ++ lb) W → ∀ j v, [Value.bool ks[p].2.dir, .string ⟨ks[p].2.data.toArray⟩, vs[p]'(by omega)][j]? = some v → ∃ b off, ao = some ⟨b, off, none⟩ ∧ W.cell? ⟨b, off + p * 4 + 1 + j, none⟩ = some v from fun W hW j v hv => by
      obtain ⟨b, off, e, h⟩ := kids_at hl (Hkn.out W hW) hpk
      exact ⟨b, off, e, by have := h (1 + j) v (by rw [kC, Nat.add_comm 1 j]; simpa using hv); rwa [← Nat.add_assoc] at this⟩)
    obtain ⟨bk, ok, hao, hz⟩ := kids_at hl (Hkn.out _ hE) hpk
    clear hz
    subst hao
    have hLe := SL.hid (show ∀ (W : World), Ent (pre ++ lb) W → ∀ j v, [Value.bool ks[p].2.dir, .string ⟨ks[p].2.data.toArray⟩, vs[p]'(by omega)][j]? = some v → W.cell? ((⟨bk, ok + p * 4 + 1, none⟩ : Addr).add j) = some v from fun W hW j v hv => by
      obtain ⟨b, off, e, h⟩ := hLd.out W hW j v hv
      cases e
      rwa [Addr.add_lit])
    have Hset := SL.hid (fun (x : Tr) (v : Value) (z : List Value) (hz : z.length = ks.length * 4) => kCs_set hl hpk x v z hz)
    rw [hpn] at Hset
    have Hkk := SL.hid (show ∀ (m : List HProp) (A : HProp) (x : Tr) (v : Value), KidsAt (m ++ lb) v x.kids → ∀ (i : Nat) (h : i < (ks.set p (n, x)).length) (h' : i < (vs.set p v).length), KidsAt (A :: (m ++ lb)) (vs.set p v)[i] (ks.set p (n, x))[i].2.kids from fun m A x v hx =>
      set_kids hl hks ((List.suffix_append m lb).trans (List.suffix_cons _ _)) p (hx.suf (List.suffix_cons _ _)))
    have hs1 : ∀ w, (Instr.sliceAt 30 (.slice (some ⟨bk, ok, none⟩) ks.length c) none (some (.int .i64 p)) none).run Tryd.prog w = .ok (.slice (some ⟨bk, ok, none⟩) p c) w := fun w => by
      rw [sliceAt_slice Tryd.underlying30, run_cut_hi Tryd.underlying30 Tryd.sizeOf66 _ _ c .i64 p (by omega), cut_zero]; rfl
    have hs2 : ∀ w, (Instr.sliceAt 30 (.slice (some ⟨bk, ok, none⟩) ks.length c) (some (.int .i64 p)) none none).run Tryd.prog w = .ok (.slice (cutAt 4 (some ⟨bk, ok, none⟩) c p) (ks.length - p) (c - p)) w := fun w => by
      rw [sliceAt_slice Tryd.underlying30, run_cut_lo Tryd.underlying30 Tryd.sizeOf66 _ _ c .i64 p (by omega)]
    have hs3 : ∀ g w, (Instr.sliceAt 30 (.slice (some ⟨g, 0, none⟩) ks.length ks.length) (some (.int .i64 p)) none none).run Tryd.prog w = .ok (.slice (cutAt 4 (some ⟨g, 0, none⟩) ks.length p) (ks.length - p) (ks.length - p)) w := fun g w => by
      rw [sliceAt_slice Tryd.underlying30, run_cut_lo Tryd.underlying30 Tryd.sizeOf66 _ _ ks.length .i64 p (by omega)]
    have HpN := SL.hid (show p < ks.length ∧ ks.length ≤ c ∧ ks.length ≤ 6 from ⟨hpk, hc, h6⟩)
    have Hkl := SL.hid (show (ks.set p (n, (Tr.withT q xd xb ks[p].2).2)).length = ks.length ∧ ∀ v, (vs.set p v).length = ks.length from ⟨by simp, fun v => by simp [hl]⟩)
    simp only [nodeV] at HK HK5
    clear hw hks hc hwk hLd
    generalize hres : Tr.withT q xd xb ks[p].2 = res at *
    obtain ⟨er, kd⟩ := res
    simp only at HK HK5 hT Hkl
    clear hres
    have HT := SL.hid hT
    clear hT hplace
    generalize ks[p].2.dir = kdr at *
    generalize ks[p].2.data = kdt at *
    obtain ⟨kvp, hkvp⟩ : ∃ x, vs[p]'(by omega) = x := ⟨_, rfl⟩
    rw [hkvp] at HK HK5 hLe
    clear hkvp hl
    as_aux_lemma =>
    go_enter Tryd.func24, Tryd.ntmps24
    go_wp2_with (first
      | go_skip
      | ((with_reducible (show Go.wpList _ _ _ (Go.Oper.mk _ (.box _ (.tmp 0)) _ _ _ _ :: _) _ _)); (refine bxX hE ?_; clear hE; intro b3 w hE))
      | ((with_reducible (show Go.wpList _ _ _ (Go.Oper.mk _ (.box _ (.tmp 2)) _ _ _ _ :: _) _ _)); (refine bxX hE ?_; clear hE; intro b5 w hE))
      | (refine alX hE ?_; clear hE; intro b6 w hE)
      | (refine ldX hE ?_))
    refine wp_region_held_drew (S := (fun w' => ((Instr.loadAt 30 (.pointer (some ⟨b3, 2, none⟩))).run Tryd.prog w' = .ok (.slice (some ⟨bk, ok, none⟩) ks.length c) w') ∧ ((Instr.loadAt 9 (.pointer (some ⟨bn, on, none⟩))).run Tryd.prog w' = .ok (.string ⟨n.toArray⟩) w'))) (by kernel_rfl) ⟨(atVq hE.drew), (atCell (hNm.out _ (hE.drew.suf (by repeat (first | exact List.suffix_refl _ | refine List.IsSuffix.trans ?_ (List.suffix_cons _ _) | refine List.IsSuffix.trans ?_ (List.suffix_append _ _))))) (by simp [go_sem]))⟩ (fun hS => ?_)
    refine tV 0 hS ?_; refine tL 1 hS ?_; refine tV 2 hS ?_; refine tV 3 hS ?_; refine tL 4 hS ?_
    refine tO 5 (fun K hK => ?_)
    (go_simp; refine (hF.out _ (by repeat (first | exact List.suffix_refl _ | refine List.IsSuffix.trans ?_ (List.suffix_cons _ _) | refine List.IsSuffix.trans ?_ (List.suffix_append _ _))) _ hE.drew).mono ?_; rintro e w3 ⟨v, rfl, rfl, hE3⟩)
    refine tK hK ⟨(atVq hE3), (atCell (hNm.out _ (hE3.suf (by repeat (first | exact List.suffix_refl _ | refine List.IsSuffix.trans ?_ (List.suffix_cons _ _) | refine List.IsSuffix.trans ?_ (List.suffix_append _ _))))) (by simp [go_sem]))⟩ (fun hS => ?_); clear hK K
    refine tV 6 hS ?_; refine tV 7 hS ?_; refine tV 8 hS ?_; refine tV 9 hS ?_; refine tV 10 hS ?_
    refine wpAnyH_done (by kernel_rfl) ?_ _
    clear hE hS
    have hE := hE3
    clear hE3
    go_wp2_with (first
      | go_skip
      | (refine ldX hE ?_)
      | ((with_reducible (show Go.wpList _ _ _ (Go.Oper.mk _ (.makeSlice _ _ _) _ _ _ _ :: _) _ _)); refine wpl_make hE rfl rfl Tryd.underlying30 nd_bytes rfl (by decide) ks.length rfl rfl (by have := HpN.out; omega) (by have := HpN.out; omega) ?_; clear hE; intro g w4 hE)
      | ((with_reducible (show Go.wpList _ _ _ (Go.Oper.mk _ (.call { callee := .builtin .copy, args := _, argTypes := _ }) _ _ _ _ :: _) _ _)); refine wpl_copyK (size := 4) (j := 0) (dLen := ks.length) (dCap := ks.length) hE 0 rfl rfl rfl (by rw [cut_zero]; rfl) rfl Tryd.underlying30 sz_kid (m := p) (ys := (kCs ks vs).take (p * 4)) (reads_first (Hkn.out _ (hE.suf (by repeat (first | exact List.suffix_refl _ | refine List.IsSuffix.trans ?_ (List.suffix_cons _ _) | refine List.IsSuffix.trans ?_ (List.suffix_append _ _))))) (by have := HpN.out; omega)) (by rw [List.length_take, Hlen.out]; have := HpN.out; omega) (fun u hu => Hone.out u (List.mem_of_mem_take hu)) (by have := HpN.out; omega) (by have := HpN.out; omega) ?_; clear hE; intro w5 hE; simp only [List.set_cons_zero] at hE))
    have hs5 := hs3 g
    clear hs3 hs1
    refine wp_region_held_drew (S := (fun w' => ((Instr.loadAt 30 (.pointer (some ⟨b3, 2, none⟩))).run Tryd.prog w' = .ok (.slice (some ⟨bk, ok, none⟩) ks.length c) w') ∧ ((Instr.loadAt 32 (.pointer (some ⟨bk, ok + p * 4 + 1, none⟩))).run Tryd.prog w' = .ok (.agg #[.bool kdr, .string ⟨kdt.toArray⟩, kvp]) w') ∧ ((Instr.loadAt 32 (.pointer (some ⟨b5, 0, none⟩))).run Tryd.prog w' = .ok (.agg #[.bool xd, .string ⟨xb.toArray⟩, .slice none 0 0]) w'))) (by kernel_rfl) ⟨(atVq hE.drew), (atCells Tryd.isAgg32 Tryd.sizeOf32 [.bool kdr, .string ⟨kdt.toArray⟩, kvp] rfl (hLe.out _ (by first | (refine hE.drew.suf ?_; (repeat (first | exact List.suffix_refl _ | refine List.IsSuffix.trans ?_ (List.suffix_cons _ _))); done) | (refine Ent.mid (m := m) (hE.drew.suf ?_); (repeat (first | exact List.suffix_refl _ | refine List.IsSuffix.trans ?_ (List.suffix_cons _ _))))))), (atWm (vs := [.bool xd, .string ⟨xb.toArray⟩, .slice none 0 0]) hE.drew (by repeat (first | exact List.Mem.head _ | refine List.Mem.tail _ ?_)) Tryd.isAgg32 Tryd.sizeOf32 rfl)⟩ (fun hS => ?_)
    refine tV 0 hS ?_; refine tL 1 hS ?_; refine tV 2 hS ?_; refine tV 3 hS ?_; refine tV 4 hS ?_; refine tL 5 hS ?_; refine tV 6 hS ?_; refine tV 7 hS ?_; refine tL 8 hS ?_
    refine wpAnyH_ready (rs := [9, 13]) (by kernel_rfl) (by simp) ?_
    refine (AllReadyH.cons (o := ⟨some 91, .call { callee := .value (.func 24), args := #[.tmp 87, .tmp 89, .tmp 90], argTypes := #[32, 22, 32] }, _, _, _, none⟩) rfl (fun K hK => ?_) (AllReadyH.cons (o := ⟨some 13, .alloc 32, _, _, _, none⟩) rfl (fun K hK => ?_) AllReadyH.nil))
    focus
      (go_simp; (first | have H := HK5.out _ _ _ _ _ _ hA | have H := HK.out _ _ _ _ _ hE.drew); refine H.mono ?_; clear H; rintro e w6 ⟨v, rfl, m, kv', rfl, hH, hKA⟩)
      refine tK hK ⟨(atVq hH), (atCells Tryd.isAgg32 Tryd.sizeOf32 [.bool kdr, .string ⟨kdt.toArray⟩, kvp] rfl (hLe.out _ (by first | (refine hH.suf ?_; (repeat (first | exact List.suffix_refl _ | refine List.IsSuffix.trans ?_ (List.suffix_cons _ _))); done) | (refine Ent.mid (m := m) (hH.suf ?_); (repeat (first | exact List.suffix_refl _ | refine List.IsSuffix.trans ?_ (List.suffix_cons _ _))))))), (atWm (vs := [.bool xd, .string ⟨xb.toArray⟩, .slice none 0 0]) hH (by repeat (first | exact List.Mem.head _ | refine List.Mem.tail _ ?_)) Tryd.isAgg32 Tryd.sizeOf32 rfl)⟩ (fun hS => ?_); clear hK K
      refine tV 10 hS ?_; refine tV 11 hS ?_; refine tV 12 hS ?_
      refine tO 13 (fun K hK => ?_)
      (go_simp; (first | have hA := hH.alloc (.cells #[.bool false, .string ⟨#[]⟩, .slice none 0 0] 32) | have hA := hE.drew.alloc (.cells #[.bool false, .string ⟨#[]⟩, .slice none 0 0] 32)))
      refine tK hK ⟨(atVq hA), (atCells Tryd.isAgg32 Tryd.sizeOf32 [.bool kdr, .string ⟨kdt.toArray⟩, kvp] rfl (hLe.out _ (by first | (refine hA.suf ?_; (repeat (first | exact List.suffix_refl _ | refine List.IsSuffix.trans ?_ (List.suffix_cons _ _))); done) | (refine Ent.mid (m := m) (hA.suf ?_); (repeat (first | exact List.suffix_refl _ | refine List.IsSuffix.trans ?_ (List.suffix_cons _ _))))))), (atWm (vs := [.bool xd, .string ⟨xb.toArray⟩, .slice none 0 0]) hA (by repeat (first | exact List.Mem.head _ | refine List.Mem.tail _ ?_)) Tryd.isAgg32 Tryd.sizeOf32 rfl)⟩ (fun hS => ?_); clear hK K
      refine tO 14 (fun K hK => ?_)
      ((first | refine step_storeW hA 0 rfl (by rfl) (by rfl) (by rfl) (xs := [.bool kd.dir, .string ⟨kd.data.toArray⟩, kv']) (by rfl) Tryd.sizeOf32 rfl (by obtain ⟨a1, a2, rfl⟩ := hKA.slice; simp [Value.oneCell']) rfl ?_ | refine step_storeW hH 0 rfl (by rfl) (by rfl) (by rfl) (xs := [.bool kd.dir, .string ⟨kd.data.toArray⟩, kv']) (by rfl) Tryd.sizeOf32 rfl (by obtain ⟨a1, a2, rfl⟩ := hKA.slice; simp [Value.oneCell']) rfl ?_); intro w7 hEs; simp only [List.set_cons_zero, List.set_cons_succ] at hEs)
      refine tK hK ⟨(atVq hEs), (atCells Tryd.isAgg32 Tryd.sizeOf32 [.bool kdr, .string ⟨kdt.toArray⟩, kvp] rfl (hLe.out _ (by first | (refine hEs.suf ?_; (repeat (first | exact List.suffix_refl _ | refine List.IsSuffix.trans ?_ (List.suffix_cons _ _))); done) | (refine Ent.mid (m := m) (hEs.suf ?_); (repeat (first | exact List.suffix_refl _ | refine List.IsSuffix.trans ?_ (List.suffix_cons _ _))))))), (atWm (vs := [.bool xd, .string ⟨xb.toArray⟩, .slice none 0 0]) hEs (by repeat (first | exact List.Mem.head _ | refine List.Mem.tail _ ?_)) Tryd.isAgg32 Tryd.sizeOf32 rfl)⟩ (fun hS => ?_); clear hK K
      refine tV 15 hS ?_
      refine wpAnyH_done (by kernel_rfl) ?_ _
    rotate_right
    focus
      (go_simp; (first | have hA := hH.alloc (.cells #[.bool false, .string ⟨#[]⟩, .slice none 0 0] 32) | have hA := hE.drew.alloc (.cells #[.bool false, .string ⟨#[]⟩, .slice none 0 0] 32)))
      refine tK hK ⟨(atVq hA), (atCells Tryd.isAgg32 Tryd.sizeOf32 [.bool kdr, .string ⟨kdt.toArray⟩, kvp] rfl (hLe.out _ (by first | (refine hA.suf ?_; (repeat (first | exact List.suffix_refl _ | refine List.IsSuffix.trans ?_ (List.suffix_cons _ _))); done) | (refine Ent.mid (m := m) (hA.suf ?_); (repeat (first | exact List.suffix_refl _ | refine List.IsSuffix.trans ?_ (List.suffix_cons _ _))))))), (atWm (vs := [.bool xd, .string ⟨xb.toArray⟩, .slice none 0 0]) hA (by repeat (first | exact List.Mem.head _ | refine List.Mem.tail _ ?_)) Tryd.isAgg32 Tryd.sizeOf32 rfl)⟩ (fun hS => ?_); clear hK K
      refine tO 9 (fun K hK => ?_)
      (go_simp; (first | have H := HK5.out _ _ _ _ _ _ hA | have H := HK.out _ _ _ _ _ hE.drew); refine H.mono ?_; clear H; rintro e w6 ⟨v, rfl, m, kv', rfl, hH, hKA⟩)
      refine tK hK ⟨(atVq hH), (atCells Tryd.isAgg32 Tryd.sizeOf32 [.bool kdr, .string ⟨kdt.toArray⟩, kvp] rfl (hLe.out _ (by first | (refine hH.suf ?_; (repeat (first | exact List.suffix_refl _ | refine List.IsSuffix.trans ?_ (List.suffix_cons _ _))); done) | (refine Ent.mid (m := m) (hH.suf ?_); (repeat (first | exact List.suffix_refl _ | refine List.IsSuffix.trans ?_ (List.suffix_cons _ _))))))), (atWm (vs := [.bool xd, .string ⟨xb.toArray⟩, .slice none 0 0]) hH (by repeat (first | exact List.Mem.head _ | refine List.Mem.tail _ ?_)) Tryd.isAgg32 Tryd.sizeOf32 rfl)⟩ (fun hS => ?_); clear hK K
      refine tV 10 hS ?_; refine tV 11 hS ?_; refine tV 12 hS ?_
      refine tO 14 (fun K hK => ?_)
      ((first | refine step_storeW hA 0 rfl (by rfl) (by rfl) (by rfl) (xs := [.bool kd.dir, .string ⟨kd.data.toArray⟩, kv']) (by rfl) Tryd.sizeOf32 rfl (by obtain ⟨a1, a2, rfl⟩ := hKA.slice; simp [Value.oneCell']) rfl ?_ | refine step_storeW hH 0 rfl (by rfl) (by rfl) (by rfl) (xs := [.bool kd.dir, .string ⟨kd.data.toArray⟩, kv']) (by rfl) Tryd.sizeOf32 rfl (by obtain ⟨a1, a2, rfl⟩ := hKA.slice; simp [Value.oneCell']) rfl ?_); intro w7 hEs; simp only [List.set_cons_zero, List.set_cons_succ] at hEs)
      refine tK hK ⟨(atVq hEs), (atCells Tryd.isAgg32 Tryd.sizeOf32 [.bool kdr, .string ⟨kdt.toArray⟩, kvp] rfl (hLe.out _ (by first | (refine hEs.suf ?_; (repeat (first | exact List.suffix_refl _ | refine List.IsSuffix.trans ?_ (List.suffix_cons _ _))); done) | (refine Ent.mid (m := m) (hEs.suf ?_); (repeat (first | exact List.suffix_refl _ | refine List.IsSuffix.trans ?_ (List.suffix_cons _ _))))))), (atWm (vs := [.bool xd, .string ⟨xb.toArray⟩, .slice none 0 0]) hEs (by repeat (first | exact List.Mem.head _ | refine List.Mem.tail _ ?_)) Tryd.isAgg32 Tryd.sizeOf32 rfl)⟩ (fun hS => ?_); clear hK K
      refine tV 15 hS ?_
      refine wpAnyH_done (by kernel_rfl) ?_ _
    all_goals
      first
        | (change Ent (pt w5.heap.size (.cells [.bool kd.dir, .string ⟨kd.data.toArray⟩, kv'].toArray _) :: _) _ at hEs; generalize w5.heap.size = ra at *)
        | (change Ent (pt w6.heap.size (.cells [.bool kd.dir, .string ⟨kd.data.toArray⟩, kv'].toArray _) :: _) _ at hEs; generalize w6.heap.size = ra at *)
      have hE := hEs
      clear hEs hS
      try clear hH
      try clear hA
      replace hE : Ent (pt ra (.cells #[.bool kd.dir, .string ⟨kd.data.toArray⟩, kv'] 32) :: row 66 4 (.slice (some ⟨g, 0, none⟩) ks.length ks.length) ks.length (splice (List.replicate ks.length zkid).flatten (0 * 4) ((kCs ks vs).take (p * 4))) :: pt b6 (.cells #[.bool false, .string ⟨#[]⟩, .slice none 0 0] 32) :: pt b5 (.cells #[.bool xd, .string ⟨xb.toArray⟩, .slice none 0 0] 32) :: pt b3 (.cells #[.bool true, .string ⟨dt.toArray⟩, .slice (some ⟨bk, ok, none⟩) ks.length c] 32) :: (pre ++ (m ++ lb))) w7 := hE
      cases he : (er == 0) with
      | false =>
        have her : ¬ er = 0 := by simpa using he
        have hne : (er != 0) = true := by simp [bne, he]
        rw [if_neg her] at HT
        clear her he
        go_wp2_with (first
          | go_skip
          | (refine ldX hE ?_)
          | ((with_reducible (show Go.wpList _ _ _ (Go.Oper.mk _ (.store 32 _ _) _ _ _ _ :: _) _ _)); refine wpl_storeW hE 2 rfl rfl rfl (xs := [.bool false, .string ⟨#[]⟩, .slice none 0 0]) rfl rfl Tryd.sizeOf32 rfl (by simp [Value.oneCell']) rfl ?_; clear hE; intro w8 hE; simp only [List.set_cons_zero, List.set_cons_succ] at hE))
        refine bodyPost_ret (results_cell2 rfl hE 2 rfl rfl Tryd.isAgg32 Tryd.sizeOf32 rfl rfl) rfl ?_
        rw [HT.out]
        exact ⟨_, rfl, m, .slice none 0 0, rfl, hE.tail.tail.tail.tail.tail, KidsAt.nil _⟩
      | true =>
        obtain rfl : er = 0 := by simpa using he
        rw [if_pos rfl] at HT
        go_wp2_with (first
          | go_skip
          | (refine ldX hE ?_))
        refine wp_region_held_drew (S := (fun w' => ((Instr.loadAt 30 (.pointer (some ⟨b3, 2, none⟩))).run Tryd.prog w' = .ok (.slice (some ⟨bk, ok, none⟩) ks.length c) w'))) (by kernel_rfl) (atVq hE.drew) (fun hS => ?_)
        refine tV 0 hS ?_; refine tV 1 hS ?_; refine tV 2 hS ?_; refine tV 3 hS ?_; refine tL 4 hS ?_; refine tV 5 hS ?_; refine tV 6 hS ?_
        refine tO 7 (fun K hK => ?_)
        (refine step_copyK (size := 4) (j := p) (dLen := ks.length - p) (dCap := ks.length - p) hE.drew 1 rfl rfl (by rfl) (by rfl) (by rfl) Tryd.underlying30 sz_kid (m := ks.length - p) (ys := (kCs ks vs).drop (p * 4)) (reads_behind (Hkn.out _ (Ent.mid (hE.drew.suf (by repeat (first | exact List.suffix_refl _ | refine List.IsSuffix.trans ?_ (List.suffix_cons _ _) | refine List.IsSuffix.trans ?_ (List.suffix_append _ _)))))) Hlen.out HpN.out.2.1 (by have := HpN.out; omega)) (by rw [List.length_drop, Hlen.out, Nat.sub_mul]) (fun u hu => Hone.out u (List.mem_of_mem_drop hu)) (by have := HpN.out; omega) (by have := HpN.out; omega) ?_; intro w8 hE8; simp only [List.set_cons_zero, List.set_cons_succ] at hE8)
        refine tK hK (atVq hE8) (fun hS => ?_); clear hK K
        refine wpAnyH_done (by kernel_rfl) ?_ _
        clear hE hS hs2 hs5
        have hE := hE8
        clear hE8
        have hZ := Hset.out kd kv' (List.replicate ks.length zkid).flatten (zkids_len _)
        have hpi : (p : Int) < (ks.length : Int) := by have := HpN.out; omega
        have hpj : p < ks.length := HpN.out.1
        go_wp2_with (first
          | go_skip
          | ((with_reducible (show Go.wpList _ _ _ (Go.Oper.mk _ (.load 32 (.tmp 13)) _ _ _ _ :: _) _ _)); refine wpl_loadW (xs := [.bool kd.dir, .string ⟨kd.data.toArray⟩, kv']) hE 0 rfl rfl rfl rfl Tryd.isAgg32 Tryd.sizeOf32 rfl ?_)
          | ((with_reducible (show Go.wpList _ _ _ (Go.Oper.mk _ (.store 32 (.tmp 110) _) _ _ _ _ :: _) _ _)); refine wpl_storeRowA hE 1 [.bool kd.dir, .string ⟨kd.data.toArray⟩, kv'] rfl rfl rfl rfl rfl Tryd.sizeOf32 rfl (by obtain ⟨a1, a2, rfl⟩ := hKA.slice; simp [Value.oneCell']) (off := p * 4 + 1) (by have := HpN.out; omega) ?_; clear hE; intro w9 hE; simp only [List.set_cons_zero, List.set_cons_succ] at hE; rw [hZ] at hE)
          | ((with_reducible (show Go.wpList _ _ _ (Go.Oper.mk _ (.store 32 (.tmp 6) _) _ _ _ _ :: _) _ _)); refine wpl_storeW hE 2 rfl rfl rfl (xs := [.bool true, .string ⟨#[]⟩, .slice (some ⟨g, 0, none⟩) ks.length ks.length]) rfl rfl Tryd.sizeOf32 rfl (by simp [Value.oneCell']) rfl ?_; clear hE; intro w10 hE; simp only [List.set_cons_zero, List.set_cons_succ] at hE))
        refine bodyPost_ret (results_cell2 rfl hE 2 rfl rfl Tryd.isAgg32 Tryd.sizeOf32 rfl rfl) rfl ?_
        rw [HT.out]
        refine ⟨_, rfl, row 66 4 (.slice (some ⟨g, 0, none⟩) ks.length ks.length) ks.length (kCs (ks.set p (n, kd)) (vs.set p kv')) :: m, .slice (some ⟨g, 0, none⟩) ks.length ks.length, rfl, Ent.keepNew (((hE.tail.erase 1).erase 1).erase 1), ?_⟩
        have hkl := Hkl.out
        have h := KidsAt.mk (l := row 66 4 (.slice (some ⟨g, 0, none⟩) ks.length ks.length) ks.length (kCs (ks.set p (n, kd)) (vs.set p kv')) :: (m ++ lb)) (some ⟨g, 0, none⟩) ks.length (ks.set p (n, kd)) (vs.set p kv') (by rw [hkl.1]; exact Nat.le_refl _) (by rw [hkl.1, hkl.2]) (by rw [hkl.1]; exact fun w h => reads_row h 0 rfl) (Hkk.out m _ kd kv' hKA)
        rw [hkl.1] at h
        exact h
theorem with_any : ∀ (q : List (List UInt8)), q.length ≤ 1000 → ∀ (xd : Bool) (xb : List UInt8), xb.length ≤ 1000000 → WithC q xd xb
  | [], _, xd, xb, _ => fun t dp hw kv pre lb an cn w hkv hcn hn hE => by
    obtain ⟨d, dt, ks⟩ := t
    refine (with_bad (d := d) (L := 0) (.inr rfl) hE).mono ?_
    rintro e w' ⟨v, rfl, rfl, h⟩
    exact ⟨_, rfl, [], .slice none 0 0, rfl, h, KidsAt.nil _⟩
  | n :: q, hl, xd, xb, hx => fun t dp hw kv pre lb an cn w hkv hcn hn hE => by
    obtain ⟨d, dt, ks⟩ := t
    have hr := Tr.wf_rising hw
    have h6 := (Tr.wf_size hw).2
    cases d with
    | false =>
      have hz : Tr.withT (n :: q) xd xb (.nd false dt ks) = (8, .zero) := by cases q <;> rfl
      refine (with_bad (d := false) (.inl rfl) hE).mono ?_
      rintro e w' ⟨v, rfl, rfl, h⟩
      exact ⟨_, rfl, [], .slice none 0 0, by rw [hz]; rfl, h, by rw [hz]; exact KidsAt.nil _⟩
    | true =>
      by_cases hq : q = []
      · subst hq
        exact with_last hkv hr h6 hx hn hE
      · exact with_more hw hkv hr h6 hq (by simp at hl; omega) hcn (with_any q (by simp at hl; omega) xd xb hx) hn hE
end Go.Proofs.YtehfbokkcamliaaDoor
namespace Go.Proofs.YtehfbokkcamliaaDoor
open Go.RowKit Go.SL

def enC (x : En) : List Value := [.string ⟨x.path.toArray⟩, .bool x.dir, .string ⟨x.data.toArray⟩]
theorem enC_len (x : En) : (enC x).length = 3 := rfl
theorem enC_one (x : En) : ∀ u ∈ enC x, u.oneCell' = true := by simp [enC, Value.oneCell']
theorem enC_flat_len (xs : List En) : (xs.flatMap enC).length = xs.length * 3 := flatMap_len enC 3 enC_len xs
theorem mkb (a b : List UInt8) : ((⟨a.toArray⟩ : ByteArray) == ⟨b.toArray⟩) = (a == b) := by
  rw [beq_toListBytes, ByteArray.toList_eq, ByteArray.toList_eq]
/-- where an entry of a row lies -/
theorem en_at {w : World} {ao : Option Addr} {c : Nat} {xs : List En} (hr : reads (.slice ao xs.length c) xs.length (xs.flatMap enC) w) {k : Nat} (hk : k < xs.length) : ∃ b off, ao = some ⟨b, off, none⟩ ∧ ∀ j v, (enC xs[k])[j]? = some v → w.cell? ⟨b, off + k * 3 + j, none⟩ = some v := by
  obtain ⟨b, off, rfl, hc⟩ := reads_form hr (by omega) (by rw [enC_flat_len]; omega)
  refine ⟨b, off, rfl, fun j v hv => ?_⟩
  rw [Nat.add_assoc]
  exact hc _ _ (flatMap_at enC 3 enC_len xs k j xs[k] v (List.getElem?_eq_getElem hk) hv)
def BuRel (es : List En) (b2 b4 : Nat) (l : List HProp) (i : Value) (wr : World) : Prop :=
  ∃ (k : Nat) (t : Tr) (m : List HProp) (kv : Value), k ≤ es.length ∧ i = .int .i64 k ∧ buildT es = goT t (es.drop k) ∧ Good t (es.take k) ∧ KidsAt (m ++ l) kv t.kids ∧
    Ent (pt b4 (.cells #[.bool t.dir, .string ⟨t.data.toArray⟩, kv] 32) :: pt b2 (.cells #[.bool false, .string ⟨#[]⟩, .slice none 0 0] 32) :: (m ++ l)) wr

set_option maxRecDepth 100000 in
set_option maxHeartbeats 8000000 in
theorem Build_any {es : List En} (hn : es.length ≤ 1000) (hb : ∀ x ∈ es, x.path.length ≤ 1000000 ∧ x.data.length ≤ 1000000) {ao : Option Addr} {c : Nat} {l : List HProp} {w : World} (hk : Knows l (reads (.slice ao es.length c) es.length (es.flatMap enC))) (hE : Ent l w) :
    Calls Tryd.prog 11 #[.slice ao es.length c] w (Ret fun v w' => ∃ m kv, v = .tuple #[nodeV (buildT es).2 kv, .int .i64 (buildT es).1] ∧ Ent (m ++ l) w' ∧ KidsAt (m ++ l) kv (buildT es).2.kids) := by
  cases h64 : decide ((64 : Int) < (es.length : Int)) with
  | true =>
    have hT : buildT es = (6, .zero) := by rw [buildT, if_pos (by have := of_decide_eq_true h64; omega)]
    rw [hT]
    go_enter Tryd.func11, Tryd.ntmps11
    go_wp2_with (first
      | go_skip
      | (refine alX hE ?_; clear hE; intro b2 w hE)
      | (refine swX (t := 32) hE [.bool false, .string ⟨#[]⟩, .slice none 0 0] Tryd.sizeOf32 ?_; clear hE; intro w hE))
    refine bodyPost_ret (results_cell2 rfl hE 0 rfl rfl Tryd.isAgg32 Tryd.sizeOf32 rfl rfl) rfl ?_
    exact ⟨_, rfl, [], .slice none 0 0, rfl, hE.tail, KidsAt.nil _⟩
  | false =>
    have hT0 : buildT es = goT root es := by rw [buildT, if_neg (by have := of_decide_eq_false h64; omega)]
    go_enter Tryd.func11, Tryd.ntmps11
    have Tok := SL.hid True.intro
    go_wp2_with (first
      | go_skip
      | ((with_reducible (show Go.wpList _ _ _ (Go.Oper.mk _ (.alloc _) _ _ _ _ :: _) _ _)); clear Tok; (refine alX hE ?_; clear hE; intro b2 w hE))
      | (refine alX hE ?_; clear hE; intro b4 w hE)
      | ((with_reducible (show Go.wpList _ _ _ (Go.Oper.mk _ (.store 32 _ _) _ _ _ _ :: _) _ _)); refine wpl_storeW hE 0 rfl rfl rfl (xs := [.bool true, .string ⟨#[]⟩, .slice none 0 0]) rfl rfl Tryd.sizeOf32 rfl (by simp [Value.oneCell']) rfl ?_; clear hE; intro w8 hE; simp only [List.set_cons_zero] at hE))
    clear h64
    go_loopw [16] (fun i wr => BuRel es b2 b4 l i wr) (fun i _ => es.length - (intOf i).toNat)
    case atStart => exact ⟨0, root, [], .slice none 0 0, Nat.zero_le _, rfl, by rw [List.drop_zero]; exact hT0, by rw [List.take_zero]; exact good_root, KidsAt.nil _, hE⟩
    case round =>
      clear hE hT0
      obtain ⟨k, t, m, kv, hkn, rfl, hB, hG, hkv, hE⟩ := hrel
      by_cases hlt : k < es.length
      · obtain ⟨b, off, rfl, hz⟩ := en_at (hk _ (hE.suf (l' := l) (by exact (List.suffix_append m l).trans (List.suffix_append [_, _] _)))) hlt
        clear hz
        have hL := SL.hid (show ∀ W, Ent l W → ∀ j v, (enC es[k])[j]? = some v → W.cell? ⟨b, off + k * 3 + j, none⟩ = some v from fun W hW => by
          obtain ⟨b', off', e, h⟩ := en_at (hk _ hW) hlt
          cases e
          exact h)
        replace hL := SL.hid (show ∀ W, Ent (m ++ l) W → ∀ j v, (enC es[k])[j]? = some v → W.cell? ⟨b, off + k * 3 + j, none⟩ = some v from fun W hW => hL.out W hW.drop)
        have hx := hb _ (List.getElem_mem hlt)
        have htk := List.take_succ_eq_append_getElem hlt
        have hdk : es.drop k = es[k] :: es.drop (k + 1) := List.drop_eq_getElem_cons hlt
        rw [hdk] at hB
        generalize es[k] = x at *
        obtain ⟨xp, xd, xb⟩ := x
        simp only at hx
        have Hxb := SL.hid hx.2
        have HS := SL.hid (show ∀ (L : List HProp) (w : World), Ent L w → Calls Tryd.prog 23 #[.string ⟨xp.toArray⟩] w (Ret fun v w' => ∃ ao c, v = .tuple #[.slice ao (splitL xp).length c, .int .i64 (splitE xp)] ∧ Ent (rowS ao c (splitL xp) :: L) w') from fun L w h => Split_any hx.1 h)
        have hmb := mkb xb []
        have hmb2 : ((⟨xb.toArray⟩ : ByteArray) != ⟨#[]⟩) = !(xb == []) := by rw [bne, mkb]
        clear hdk hx
        by_cases hse : splitE xp = 0
        · have Hse := SL.hid hse
          rw [hse] at HS
          clear hse
          cases xd with
          | true =>
            cases hxb : (xb == []) with
            | false =>
              have HT := SL.hid (show buildT es = (8, .zero) from by
                rw [hB, goT, addT]
                simp only [Hse.out]
                have h1 : xb ≠ [] := by simpa using hxb
                simp [h1])
              rw [hxb] at hmb hmb2
              as_aux_lemma =>
              go_wp2_with (first
                | go_skip
                | ((with_reducible (show Go.wpList _ _ _ (Go.Oper.mk _ (.load 69 _) _ _ _ _ :: _) _ _)); refine wpl_loadC rfl rfl rfl Tryd.isAgg69 Tryd.sizeOf69 (enC ⟨xp, true, xb⟩) rfl (fun j v hv => by rw [Addr.add_lit]; exact hL.out _ (hE.suf sfx) j v hv) ?_)
                | ((with_reducible (show Go.wpList _ _ _ (Go.Oper.mk _ (.alloc 69) _ _ _ _ :: _) _ _)); refine wpl_allocN hE rfl rfl (n := 3) (by kernel_rfl) ?_; clear hE; intro b6 cs w1 hq hE)
                | ((with_reducible (show Go.wpList _ _ _ (Go.Oper.mk _ (.store 69 _ _) _ _ _ _ :: _) _ _)); refine wpl_storeN hE 0 rfl rfl rfl rfl (xs := enC ⟨xp, true, xb⟩) rfl Tryd.sizeOf69 rfl (by simp [enC, Value.oneCell']) hq ?_; clear hE hq; intro w2 hE; simp only [List.set_cons_zero] at hE; replace hE : Ent (pt b6 (.cells #[.string ⟨xp.toArray⟩, .bool true, .string ⟨xb.toArray⟩] 69) :: pt b4 (.cells #[.bool t.dir, .string ⟨t.data.toArray⟩, kv] 32) :: pt b2 (.cells #[.bool false, .string ⟨#[]⟩, .slice none 0 0] 32) :: (m ++ l)) w2 := hE)
                | (go_at_call 23; refine (HS.out _ _ hE).mono ?_; clear hE; rintro e w3 ⟨v, rfl, an, cn, rfl, hE⟩)
                | ((with_reducible (show Go.wpList _ _ _ (Go.Oper.mk _ (.load 32 _) _ _ _ _ :: _) _ _)); refine wpl_loadW (xs := [.bool t.dir, .string ⟨t.data.toArray⟩, kv]) hE 2 rfl rfl rfl rfl Tryd.isAgg32 Tryd.sizeOf32 rfl ?_)
                | (refine ldX hE ?_)
                | ((with_reducible (show Go.wpList _ _ _ (Go.Oper.mk _ (.store 32 _ _) _ _ _ _ :: _) _ _)); refine wpl_storeW hE 3 rfl rfl rfl (xs := [.bool false, .string ⟨#[]⟩, .slice none 0 0]) rfl rfl Tryd.sizeOf32 rfl (by simp [Value.oneCell']) rfl ?_; clear hE; intro w8 hE; simp only [List.set_cons_zero, List.set_cons_succ] at hE))
              refine bodyPost_ret (results_cell2 rfl hE 3 rfl rfl Tryd.isAgg32 Tryd.sizeOf32 rfl rfl) rfl ?_
              rw [HT.out]
              exact ⟨_, rfl, m, .slice none 0 0, rfl, hE.tail.tail.tail.tail, KidsAt.nil _⟩
            | true =>
              obtain rfl : xb = [] := by simpa using hxb
              clear hmb hmb2 hxb
              have HW := SL.hid (show ∀ (A B C D : HProp) (w : World) (an : Option Addr) (cn : Nat), Ent (A :: B :: C :: D :: (m ++ l)) w → (splitL xp).length ≤ cn → Knows (A :: B :: C :: D :: (m ++ l)) (reads (.slice an (splitL xp).length cn) (splitL xp).length ((splitL xp).map strv)) →
                  Calls Tryd.prog 24 #[.agg #[.bool t.dir, .string ⟨t.data.toArray⟩, kv], .slice an (splitL xp).length cn, .agg #[.bool true, .string ⟨([] : List UInt8).toArray⟩, .slice none 0 0]] w
                    (Ret fun v w' => ∃ m' kv', v = .tuple #[.agg #[.bool (Tr.withT (splitL xp) true ([] : List UInt8) t).2.dir, .string ⟨(Tr.withT (splitL xp) true ([] : List UInt8) t).2.data.toArray⟩, kv'], .int .i64 (Tr.withT (splitL xp) true ([] : List UInt8) t).1] ∧ Ent (A :: B :: C :: D :: (m' ++ (m ++ l))) w' ∧ KidsAt (m' ++ (m ++ l)) kv' (Tr.withT (splitL xp) true ([] : List UInt8) t).2.kids) from
                fun A B C D w an cn h3 h1 h2 => with_any (splitL xp) (by have := (splitL_names xp).1; omega) true ([] : List UInt8) Hxb.out t 6 hG.2.1 kv [A, B, C, D] (m ++ l) an cn w hkv h1 h2 h3)
              have hadd : addT t ⟨xp, true, ([] : List UInt8)⟩ = Tr.withT (splitL xp) true ([] : List UInt8) t := by rw [addT]; simp only [Hse.out]; rw [if_neg (by simp), if_neg (by simp)]
              have HT := SL.hid (show ((Tr.withT (splitL xp) true ([] : List UInt8) t).1 = 0 → buildT es = goT (Tr.withT (splitL xp) true ([] : List UInt8) t).2 (es.drop (k + 1))) ∧ (¬ (Tr.withT (splitL xp) true ([] : List UInt8) t).1 = 0 → buildT es = ((Tr.withT (splitL xp) true ([] : List UInt8) t).1, .zero)) from by
                rw [hB, goT, hadd]
                exact ⟨fun h => if_pos h, fun h => if_neg h⟩)
              have HG := SL.hid (show (Tr.withT (splitL xp) true ([] : List UInt8) t).1 = 0 → Good (Tr.withT (splitL xp) true ([] : List UInt8) t).2 (es.take (k + 1)) from fun h => by
                have := add_good hG (x := ⟨xp, true, ([] : List UInt8)⟩) (by rw [hadd]; exact h)
                rw [hadd, ← htk] at this
                exact this)
              clear hadd hB hG hkv
              try clear hx0
              try clear hxb
              generalize hres : Tr.withT (splitL xp) true ([] : List UInt8) t = res at *
              clear hres
              generalize splitL xp = ns at *
              obtain ⟨er, kd⟩ := res
              simp only at HW HT HG
              cases her : (er == 0) with
              | true =>
                obtain rfl : er = 0 := by simpa using her
                clear her
                as_aux_lemma =>
                go_wp2_with (first
                  | go_skip
                  | ((with_reducible (show Go.wpList _ _ _ (Go.Oper.mk _ (.load 69 _) _ _ _ _ :: _) _ _)); refine wpl_loadC rfl rfl rfl Tryd.isAgg69 Tryd.sizeOf69 (enC ⟨xp, true, ([] : List UInt8)⟩) rfl (fun j v hv => by rw [Addr.add_lit]; exact hL.out _ (hE.suf sfx) j v hv) ?_)
                  | ((with_reducible (show Go.wpList _ _ _ (Go.Oper.mk _ (.alloc 69) _ _ _ _ :: _) _ _)); refine wpl_allocN hE rfl rfl (n := 3) (by kernel_rfl) ?_; clear hE; intro b6 cs w1 hq hE)
                  | ((with_reducible (show Go.wpList _ _ _ (Go.Oper.mk _ (.store 69 _ _) _ _ _ _ :: _) _ _)); refine wpl_storeN hE 0 rfl rfl rfl rfl (xs := enC ⟨xp, true, ([] : List UInt8)⟩) rfl Tryd.sizeOf69 rfl (by simp [enC, Value.oneCell']) hq ?_; clear hE hq; intro w2 hE; simp only [List.set_cons_zero] at hE; replace hE : Ent (pt b6 (.cells #[.string ⟨xp.toArray⟩, .bool true, .string ⟨([] : List UInt8).toArray⟩] 69) :: pt b4 (.cells #[.bool t.dir, .string ⟨t.data.toArray⟩, kv] 32) :: pt b2 (.cells #[.bool false, .string ⟨#[]⟩, .slice none 0 0] 32) :: (m ++ l)) w2 := hE)
                  | (go_at_call 23; refine (HS.out _ _ hE).mono ?_; clear hE; rintro e w3 ⟨v, rfl, an, cn, rfl, hE⟩)
                  | ((with_reducible (show Go.wpList _ _ _ (Go.Oper.mk _ (.load 32 _) _ _ _ _ :: _) _ _)); refine wpl_loadW (xs := [.bool t.dir, .string ⟨t.data.toArray⟩, kv]) hE 2 rfl rfl rfl rfl Tryd.isAgg32 Tryd.sizeOf32 rfl ?_)
                  | (refine ldX hE ?_)
                  | (go_at_call 24; have H := HW.out _ _ _ _ _ an cn hE (row_capJ hE 0 rfl) (fun w h => reads_row h 0 rfl); refine H.mono ?_; clear H hE; rintro e w7 ⟨v, rfl, m', kv', rfl, hE, hKA⟩)
                  | ((with_reducible (show Go.wpList _ _ _ (Go.Oper.mk _ (.store 32 (.tmp 4) _) _ _ _ _ :: _) _ _)); refine wpl_storeW hE 2 rfl rfl rfl (xs := [.bool kd.dir, .string ⟨kd.data.toArray⟩, kv']) rfl rfl Tryd.sizeOf32 rfl (by obtain ⟨a1, a2, rfl⟩ := hKA.slice; simp [Value.oneCell']) rfl ?_; clear hE; intro w8 hE; simp only [List.set_cons_zero, List.set_cons_succ] at hE)
                  | ((with_reducible (show Go.wpList _ _ _ (Go.Oper.mk _ (.store 32 (.tmp 2) _) _ _ _ _ :: _) _ _)); refine wpl_storeW hE 3 rfl rfl rfl (xs := [.bool false, .string ⟨#[]⟩, .slice none 0 0]) rfl rfl Tryd.sizeOf32 rfl (by simp [Value.oneCell']) rfl ?_; clear hE; intro w8 hE; simp only [List.set_cons_zero, List.set_cons_succ] at hE))
                go_roundw
                case rel => exact ⟨k + 1, kd, m' ++ m, kv', hlt, by simp, HT.out.1 (by trivial), HG.out (by trivial), by rw [List.append_assoc]; exact hKA, by rw [List.append_assoc]; exact hE.tail.tail⟩
                case measure => simp [intOf]; omega
              | false =>
                have hne : ¬ er = 0 := by simpa using her
                have hne2 : (er != 0) = true := by simp [bne, her]
                have HT2 := SL.hid (HT.out.2 hne)
                clear hne
                as_aux_lemma =>
                go_wp2_with (first
                  | go_skip
                  | ((with_reducible (show Go.wpList _ _ _ (Go.Oper.mk _ (.load 69 _) _ _ _ _ :: _) _ _)); refine wpl_loadC rfl rfl rfl Tryd.isAgg69 Tryd.sizeOf69 (enC ⟨xp, true, ([] : List UInt8)⟩) rfl (fun j v hv => by rw [Addr.add_lit]; exact hL.out _ (hE.suf sfx) j v hv) ?_)
                  | ((with_reducible (show Go.wpList _ _ _ (Go.Oper.mk _ (.alloc 69) _ _ _ _ :: _) _ _)); refine wpl_allocN hE rfl rfl (n := 3) (by kernel_rfl) ?_; clear hE; intro b6 cs w1 hq hE)
                  | ((with_reducible (show Go.wpList _ _ _ (Go.Oper.mk _ (.store 69 _ _) _ _ _ _ :: _) _ _)); refine wpl_storeN hE 0 rfl rfl rfl rfl (xs := enC ⟨xp, true, ([] : List UInt8)⟩) rfl Tryd.sizeOf69 rfl (by simp [enC, Value.oneCell']) hq ?_; clear hE hq; intro w2 hE; simp only [List.set_cons_zero] at hE; replace hE : Ent (pt b6 (.cells #[.string ⟨xp.toArray⟩, .bool true, .string ⟨([] : List UInt8).toArray⟩] 69) :: pt b4 (.cells #[.bool t.dir, .string ⟨t.data.toArray⟩, kv] 32) :: pt b2 (.cells #[.bool false, .string ⟨#[]⟩, .slice none 0 0] 32) :: (m ++ l)) w2 := hE)
                  | (go_at_call 23; refine (HS.out _ _ hE).mono ?_; clear hE; rintro e w3 ⟨v, rfl, an, cn, rfl, hE⟩)
                  | ((with_reducible (show Go.wpList _ _ _ (Go.Oper.mk _ (.load 32 _) _ _ _ _ :: _) _ _)); refine wpl_loadW (xs := [.bool t.dir, .string ⟨t.data.toArray⟩, kv]) hE 2 rfl rfl rfl rfl Tryd.isAgg32 Tryd.sizeOf32 rfl ?_)
                  | (refine ldX hE ?_)
                  | (go_at_call 24; have H := HW.out _ _ _ _ _ an cn hE (row_capJ hE 0 rfl) (fun w h => reads_row h 0 rfl); refine H.mono ?_; clear H hE; rintro e w7 ⟨v, rfl, m', kv', rfl, hE, hKA⟩)
                  | ((with_reducible (show Go.wpList _ _ _ (Go.Oper.mk _ (.store 32 (.tmp 4) _) _ _ _ _ :: _) _ _)); refine wpl_storeW hE 2 rfl rfl rfl (xs := [.bool kd.dir, .string ⟨kd.data.toArray⟩, kv']) rfl rfl Tryd.sizeOf32 rfl (by obtain ⟨a1, a2, rfl⟩ := hKA.slice; simp [Value.oneCell']) rfl ?_; clear hE; intro w8 hE; simp only [List.set_cons_zero, List.set_cons_succ] at hE)
                  | ((with_reducible (show Go.wpList _ _ _ (Go.Oper.mk _ (.store 32 (.tmp 2) _) _ _ _ _ :: _) _ _)); refine wpl_storeW hE 3 rfl rfl rfl (xs := [.bool false, .string ⟨#[]⟩, .slice none 0 0]) rfl rfl Tryd.sizeOf32 rfl (by simp [Value.oneCell']) rfl ?_; clear hE; intro w8 hE; simp only [List.set_cons_zero, List.set_cons_succ] at hE))
                refine bodyPost_ret (results_cell2 rfl hE 3 rfl rfl Tryd.isAgg32 Tryd.sizeOf32 rfl rfl) rfl ?_
                rw [HT2.out]
                exact ⟨_, rfl, m' ++ m, .slice none 0 0, rfl, by rw [List.append_assoc]; exact hE.tail.tail.tail.tail, KidsAt.nil _⟩
          | false =>
            cases hxb : (xb == [])
            all_goals
              rw [hxb] at hmb hmb2
              have HW := SL.hid (show ∀ (A B C D : HProp) (w : World) (an : Option Addr) (cn : Nat), Ent (A :: B :: C :: D :: (m ++ l)) w → (splitL xp).length ≤ cn → Knows (A :: B :: C :: D :: (m ++ l)) (reads (.slice an (splitL xp).length cn) (splitL xp).length ((splitL xp).map strv)) →
                  Calls Tryd.prog 24 #[.agg #[.bool t.dir, .string ⟨t.data.toArray⟩, kv], .slice an (splitL xp).length cn, .agg #[.bool false, .string ⟨xb.toArray⟩, .slice none 0 0]] w
                    (Ret fun v w' => ∃ m' kv', v = .tuple #[.agg #[.bool (Tr.withT (splitL xp) false xb t).2.dir, .string ⟨(Tr.withT (splitL xp) false xb t).2.data.toArray⟩, kv'], .int .i64 (Tr.withT (splitL xp) false xb t).1] ∧ Ent (A :: B :: C :: D :: (m' ++ (m ++ l))) w' ∧ KidsAt (m' ++ (m ++ l)) kv' (Tr.withT (splitL xp) false xb t).2.kids) from
                fun A B C D w an cn h3 h1 h2 => with_any (splitL xp) (by have := (splitL_names xp).1; omega) false xb Hxb.out t 6 hG.2.1 kv [A, B, C, D] (m ++ l) an cn w hkv h1 h2 h3)
              have hadd : addT t ⟨xp, false, xb⟩ = Tr.withT (splitL xp) false xb t := by rw [addT]; simp only [Hse.out]; rw [if_neg (by simp), if_neg (by simp)]
              have HT := SL.hid (show ((Tr.withT (splitL xp) false xb t).1 = 0 → buildT es = goT (Tr.withT (splitL xp) false xb t).2 (es.drop (k + 1))) ∧ (¬ (Tr.withT (splitL xp) false xb t).1 = 0 → buildT es = ((Tr.withT (splitL xp) false xb t).1, .zero)) from by
                rw [hB, goT, hadd]
                exact ⟨fun h => if_pos h, fun h => if_neg h⟩)
              have HG := SL.hid (show (Tr.withT (splitL xp) false xb t).1 = 0 → Good (Tr.withT (splitL xp) false xb t).2 (es.take (k + 1)) from fun h => by
                have := add_good hG (x := ⟨xp, false, xb⟩) (by rw [hadd]; exact h)
                rw [hadd, ← htk] at this
                exact this)
              clear hadd hB hG hkv
              try clear hx0
              try clear hxb
              generalize hres : Tr.withT (splitL xp) false xb t = res at *
              clear hres
              generalize splitL xp = ns at *
              obtain ⟨er, kd⟩ := res
              simp only at HW HT HG
              cases her : (er == 0) with
              | true =>
                obtain rfl : er = 0 := by simpa using her
                clear her
                as_aux_lemma =>
                go_wp2_with (first
                  | go_skip
                  | ((with_reducible (show Go.wpList _ _ _ (Go.Oper.mk _ (.load 69 _) _ _ _ _ :: _) _ _)); refine wpl_loadC rfl rfl rfl Tryd.isAgg69 Tryd.sizeOf69 (enC ⟨xp, false, xb⟩) rfl (fun j v hv => by rw [Addr.add_lit]; exact hL.out _ (hE.suf sfx) j v hv) ?_)
                  | ((with_reducible (show Go.wpList _ _ _ (Go.Oper.mk _ (.alloc 69) _ _ _ _ :: _) _ _)); refine wpl_allocN hE rfl rfl (n := 3) (by kernel_rfl) ?_; clear hE; intro b6 cs w1 hq hE)
                  | ((with_reducible (show Go.wpList _ _ _ (Go.Oper.mk _ (.store 69 _ _) _ _ _ _ :: _) _ _)); refine wpl_storeN hE 0 rfl rfl rfl rfl (xs := enC ⟨xp, false, xb⟩) rfl Tryd.sizeOf69 rfl (by simp [enC, Value.oneCell']) hq ?_; clear hE hq; intro w2 hE; simp only [List.set_cons_zero] at hE; replace hE : Ent (pt b6 (.cells #[.string ⟨xp.toArray⟩, .bool false, .string ⟨xb.toArray⟩] 69) :: pt b4 (.cells #[.bool t.dir, .string ⟨t.data.toArray⟩, kv] 32) :: pt b2 (.cells #[.bool false, .string ⟨#[]⟩, .slice none 0 0] 32) :: (m ++ l)) w2 := hE)
                  | (go_at_call 23; refine (HS.out _ _ hE).mono ?_; clear hE; rintro e w3 ⟨v, rfl, an, cn, rfl, hE⟩)
                  | ((with_reducible (show Go.wpList _ _ _ (Go.Oper.mk _ (.load 32 _) _ _ _ _ :: _) _ _)); refine wpl_loadW (xs := [.bool t.dir, .string ⟨t.data.toArray⟩, kv]) hE 2 rfl rfl rfl rfl Tryd.isAgg32 Tryd.sizeOf32 rfl ?_)
                  | (refine ldX hE ?_)
                  | (go_at_call 24; have H := HW.out _ _ _ _ _ an cn hE (row_capJ hE 0 rfl) (fun w h => reads_row h 0 rfl); refine H.mono ?_; clear H hE; rintro e w7 ⟨v, rfl, m', kv', rfl, hE, hKA⟩)
                  | ((with_reducible (show Go.wpList _ _ _ (Go.Oper.mk _ (.store 32 (.tmp 4) _) _ _ _ _ :: _) _ _)); refine wpl_storeW hE 2 rfl rfl rfl (xs := [.bool kd.dir, .string ⟨kd.data.toArray⟩, kv']) rfl rfl Tryd.sizeOf32 rfl (by obtain ⟨a1, a2, rfl⟩ := hKA.slice; simp [Value.oneCell']) rfl ?_; clear hE; intro w8 hE; simp only [List.set_cons_zero, List.set_cons_succ] at hE)
                  | ((with_reducible (show Go.wpList _ _ _ (Go.Oper.mk _ (.store 32 (.tmp 2) _) _ _ _ _ :: _) _ _)); refine wpl_storeW hE 3 rfl rfl rfl (xs := [.bool false, .string ⟨#[]⟩, .slice none 0 0]) rfl rfl Tryd.sizeOf32 rfl (by simp [Value.oneCell']) rfl ?_; clear hE; intro w8 hE; simp only [List.set_cons_zero, List.set_cons_succ] at hE))
                go_roundw
                case rel => exact ⟨k + 1, kd, m' ++ m, kv', hlt, by simp, HT.out.1 (by trivial), HG.out (by trivial), by rw [List.append_assoc]; exact hKA, by rw [List.append_assoc]; exact hE.tail.tail⟩
                case measure => simp [intOf]; omega
              | false =>
                have hne : ¬ er = 0 := by simpa using her
                have hne2 : (er != 0) = true := by simp [bne, her]
                have HT2 := SL.hid (HT.out.2 hne)
                clear hne
                as_aux_lemma =>
                go_wp2_with (first
                  | go_skip
                  | ((with_reducible (show Go.wpList _ _ _ (Go.Oper.mk _ (.load 69 _) _ _ _ _ :: _) _ _)); refine wpl_loadC rfl rfl rfl Tryd.isAgg69 Tryd.sizeOf69 (enC ⟨xp, false, xb⟩) rfl (fun j v hv => by rw [Addr.add_lit]; exact hL.out _ (hE.suf sfx) j v hv) ?_)
                  | ((with_reducible (show Go.wpList _ _ _ (Go.Oper.mk _ (.alloc 69) _ _ _ _ :: _) _ _)); refine wpl_allocN hE rfl rfl (n := 3) (by kernel_rfl) ?_; clear hE; intro b6 cs w1 hq hE)
                  | ((with_reducible (show Go.wpList _ _ _ (Go.Oper.mk _ (.store 69 _ _) _ _ _ _ :: _) _ _)); refine wpl_storeN hE 0 rfl rfl rfl rfl (xs := enC ⟨xp, false, xb⟩) rfl Tryd.sizeOf69 rfl (by simp [enC, Value.oneCell']) hq ?_; clear hE hq; intro w2 hE; simp only [List.set_cons_zero] at hE; replace hE : Ent (pt b6 (.cells #[.string ⟨xp.toArray⟩, .bool false, .string ⟨xb.toArray⟩] 69) :: pt b4 (.cells #[.bool t.dir, .string ⟨t.data.toArray⟩, kv] 32) :: pt b2 (.cells #[.bool false, .string ⟨#[]⟩, .slice none 0 0] 32) :: (m ++ l)) w2 := hE)
                  | (go_at_call 23; refine (HS.out _ _ hE).mono ?_; clear hE; rintro e w3 ⟨v, rfl, an, cn, rfl, hE⟩)
                  | ((with_reducible (show Go.wpList _ _ _ (Go.Oper.mk _ (.load 32 _) _ _ _ _ :: _) _ _)); refine wpl_loadW (xs := [.bool t.dir, .string ⟨t.data.toArray⟩, kv]) hE 2 rfl rfl rfl rfl Tryd.isAgg32 Tryd.sizeOf32 rfl ?_)
                  | (refine ldX hE ?_)
                  | (go_at_call 24; have H := HW.out _ _ _ _ _ an cn hE (row_capJ hE 0 rfl) (fun w h => reads_row h 0 rfl); refine H.mono ?_; clear H hE; rintro e w7 ⟨v, rfl, m', kv', rfl, hE, hKA⟩)
                  | ((with_reducible (show Go.wpList _ _ _ (Go.Oper.mk _ (.store 32 (.tmp 4) _) _ _ _ _ :: _) _ _)); refine wpl_storeW hE 2 rfl rfl rfl (xs := [.bool kd.dir, .string ⟨kd.data.toArray⟩, kv']) rfl rfl Tryd.sizeOf32 rfl (by obtain ⟨a1, a2, rfl⟩ := hKA.slice; simp [Value.oneCell']) rfl ?_; clear hE; intro w8 hE; simp only [List.set_cons_zero, List.set_cons_succ] at hE)
                  | ((with_reducible (show Go.wpList _ _ _ (Go.Oper.mk _ (.store 32 (.tmp 2) _) _ _ _ _ :: _) _ _)); refine wpl_storeW hE 3 rfl rfl rfl (xs := [.bool false, .string ⟨#[]⟩, .slice none 0 0]) rfl rfl Tryd.sizeOf32 rfl (by simp [Value.oneCell']) rfl ?_; clear hE; intro w8 hE; simp only [List.set_cons_zero, List.set_cons_succ] at hE))
                refine bodyPost_ret (results_cell2 rfl hE 3 rfl rfl Tryd.isAgg32 Tryd.sizeOf32 rfl rfl) rfl ?_
                rw [HT2.out]
                exact ⟨_, rfl, m' ++ m, .slice none 0 0, rfl, by rw [List.append_assoc]; exact hE.tail.tail.tail.tail, KidsAt.nil _⟩
        · have HT := SL.hid (show buildT es = (splitE xp, .zero) from by
            rw [hB, goT, addT]
            simp only
            rw [if_pos hse]
            rw [if_neg hse])
          have h1 : (splitE xp == 0) = false := by simpa using hse
          have h2 : (splitE xp != 0) = true := by simpa using hse
          generalize splitE xp = se at *
          as_aux_lemma =>
          go_wp2_with (first
            | go_skip
            | ((with_reducible (show Go.wpList _ _ _ (Go.Oper.mk _ (.load 69 _) _ _ _ _ :: _) _ _)); refine wpl_loadC rfl rfl rfl Tryd.isAgg69 Tryd.sizeOf69 (enC ⟨xp, xd, xb⟩) rfl (fun j v hv => by rw [Addr.add_lit]; exact hL.out _ (hE.suf sfx) j v hv) ?_)
            | ((with_reducible (show Go.wpList _ _ _ (Go.Oper.mk _ (.alloc 69) _ _ _ _ :: _) _ _)); refine wpl_allocN hE rfl rfl (n := 3) (by kernel_rfl) ?_; clear hE; intro b6 cs w1 hq hE)
            | ((with_reducible (show Go.wpList _ _ _ (Go.Oper.mk _ (.store 69 _ _) _ _ _ _ :: _) _ _)); refine wpl_storeN hE 0 rfl rfl rfl rfl (xs := enC ⟨xp, xd, xb⟩) rfl Tryd.sizeOf69 rfl (by simp [enC, Value.oneCell']) hq ?_; clear hE hq; intro w2 hE; simp only [List.set_cons_zero] at hE; replace hE : Ent (pt b6 (.cells #[.string ⟨xp.toArray⟩, .bool xd, .string ⟨xb.toArray⟩] 69) :: pt b4 (.cells #[.bool t.dir, .string ⟨t.data.toArray⟩, kv] 32) :: pt b2 (.cells #[.bool false, .string ⟨#[]⟩, .slice none 0 0] 32) :: (m ++ l)) w2 := hE)
            | (go_at_call 23; refine (HS.out _ _ hE).mono ?_; clear hE; rintro e w3 ⟨v, rfl, an, cn, rfl, hE⟩)
            | ((with_reducible (show Go.wpList _ _ _ (Go.Oper.mk _ (.load 32 _) _ _ _ _ :: _) _ _)); refine wpl_loadW (xs := [.bool t.dir, .string ⟨t.data.toArray⟩, kv]) hE 2 rfl rfl rfl rfl Tryd.isAgg32 Tryd.sizeOf32 rfl ?_)
            | (refine ldX hE ?_)
            | ((with_reducible (show Go.wpList _ _ _ (Go.Oper.mk _ (.store 32 _ _) _ _ _ _ :: _) _ _)); refine wpl_storeW hE 3 rfl rfl rfl (xs := [.bool false, .string ⟨#[]⟩, .slice none 0 0]) rfl rfl Tryd.sizeOf32 rfl (by simp [Value.oneCell']) rfl ?_; clear hE; intro w8 hE; simp only [List.set_cons_zero, List.set_cons_succ] at hE))
          refine bodyPost_ret (results_cell2 rfl hE 3 rfl rfl Tryd.isAgg32 Tryd.sizeOf32 rfl rfl) rfl ?_
          rw [HT.out]
          exact ⟨_, rfl, m, .slice none 0 0, rfl, hE.tail.tail.tail.tail, KidsAt.nil _⟩
      · obtain rfl : k = es.length := by omega
        rw [List.drop_length] at hB
        have HT := SL.hid (show buildT es = (0, t) from hB)
        as_aux_lemma =>
        go_wp2_with (first
          | go_skip
          | ((with_reducible (show Go.wpList _ _ _ (Go.Oper.mk _ (.load 32 _) _ _ _ _ :: _) _ _)); refine wpl_loadW (xs := [.bool t.dir, .string ⟨t.data.toArray⟩, kv]) hE 0 rfl rfl rfl rfl Tryd.isAgg32 Tryd.sizeOf32 rfl ?_)
          | ((with_reducible (show Go.wpList _ _ _ (Go.Oper.mk _ (.store 32 _ _) _ _ _ _ :: _) _ _)); refine wpl_storeW hE 1 rfl rfl rfl (xs := [.bool t.dir, .string ⟨t.data.toArray⟩, kv]) rfl rfl Tryd.sizeOf32 rfl (by obtain ⟨a1, a2, rfl⟩ := hkv.slice; simp [Value.oneCell']) rfl ?_; clear hE; intro w8 hE; simp only [List.set_cons_zero, List.set_cons_succ] at hE))
        refine bodyPost_ret (results_cell2 rfl hE 1 rfl rfl Tryd.isAgg32 Tryd.sizeOf32 rfl rfl) rfl ?_
        rw [HT.out]
        exact ⟨_, rfl, m, kv, rfl, hE.tail.tail, hkv⟩
end Go.Proofs.YtehfbokkcamliaaDoor
namespace Go.SL
section
variable {P : Program} {w : World} {l : List HProp}
theorem reads_cap {ao : Option Addr} {n c : Nat} {xs : List Value} (h : reads (.slice ao n c) n xs w) (c' : Nat) : reads (.slice ao n c') n xs w := by
  obtain ⟨a, c0, e, h1, h2⟩ := h
  cases e
  exact ⟨_, c', rfl, h1, h2⟩
theorem Ent.appendFull {e : TypeId} {size bytes : Nat} {t : TypeId} (ty : TypeId) (hE : Ent l w) (ht : P.underlying t = some (.slice e)) (hI : elemInfo P e = some (some size, size, bytes)) (hsz : 0 < size)
    {ao : Option Addr} {n : Nat} {xs : List Value} (hr : reads (.slice ao n n) n xs w) (hxl : xs.length = n * size)
    {ad : Addr} {m c : Nat} {news : List Value} (hx : reads (.slice (some ad) m c) m news w) (hl : news.length = m * size) (hm : 0 < m) (h1 : ∀ u ∈ news, u.oneCell' = true) (hbytes : (n + m) * bytes ≤ 140737488355328) (h63 : n + m ≤ 140737488355328) :
    ∃ ao' c' w', (Builtin.append_ #[t, t] ty #[.slice ao n n, .slice (some ad) m c]).run P w = .ok (.slice ao' (n + m) c') w' ∧ Ent (row e size (.slice ao' (n + m) c') (n + m) (xs ++ news) :: l) w' := by
  obtain ⟨i, z, hi, hz, hs, hb, hzs⟩ := elemInfo_parts hI
  subst hs hb
  obtain ⟨ao2, c2, e2, hnone, hc⟩ := hr
  cases e2
  obtain ⟨ad3, c3, e3, _, hc3⟩ := hx
  cases e3
  have hsrc := Src.ofSlice (P := P) w ht ad m c news hl (hc3 ad rfl) h1
  have hlen : (xs ++ news).length = (n + m) * i.size := by rw [List.length_append, hxl, hl, Nat.add_mul]
  have hzero : ∀ k, (Builtin.zeroCells z.cells k).size = k * i.size := fun k => by rw [size_zeroCells, hzs]
  have hold : (Builtin.firstCells i.size n (.slice ao n n)).run P w.drew = .ok xs.toArray w.drew := by
    cases ao with
    | none =>
      obtain ⟨rfl, rfl⟩ := hnone rfl
      exact run_firstCells_none w.drew i.size 0 0 0
    | some a => exact run_firstCells_some w.drew i.size n a n n xs hxl (hc a rfl)
  have hr := run_append_grow_src w t t ty e i z ht hi hz ao n n xs hold (.slice (some ad) m c) m news hsrc (by omega) (by omega) (growslice_fits (by omega) hbytes)
  have hge := grownCap_ge w (n + m) n e
  refine ⟨_, _, _, hr, hE.step0 (Bs := [row e i.size _ (n + m) (xs ++ news)]) ⟨rfl, rfl, rfl⟩ (by simp) (fun b hb => RowKit.Below.heap_alloc w.drew _ b hb) ⟨fun b => b = w.heap.size, on_single ?_, fun b hb => by omega⟩⟩
  unfold row
  refine ⟨⟨hlen, .inr ⟨w.heap.size, _, _, rfl, Nat.zero_le _, heap_alloc_new w.drew _, hge, grownCap_le_maxLen w (n + m) n e (by unfold maxLen; omega), ?_, ?_⟩⟩, fun b => by simp [Value.ownBlock, eq_comm]⟩
  · rw [Array.size_append, hzero, List.size_toArray, hlen, ← Nat.add_mul]
    congr 1
    omega
  · rw [Array.toList_append, ← hlen]
    exact List.take_left
variable {ops : Array Oper} {o : Oper} {a : Act} {K : Act → World → Prop} {Q : Exit → Act → World → Prop} {E : Prop}
theorem step_appendFull {e : TypeId} {size bytes : Nat} {t : TypeId} (hE : Ent l w) {s y : Operand} (ho : o.op = .call { callee := .builtin .append, args := #[s, y], argTypes := #[t, t] }) (hw : Region.wanted o (yielded ops a.tmps) = true)
    {ao : Option Addr} {n : Nat} (hs : a.eval s = .slice ao n n) {ad : Addr} {m c : Nat} (hy : a.eval y = .slice (some ad) m c) (ht : P.underlying t = some (.slice e)) (hI : elemInfo P e = some (some size, size, bytes)) (hsz : 0 < size)
    {xs : List Value} (hr : reads (.slice ao n n) n xs w) (hxl : xs.length = n * size) {news : List Value} (hx : reads (.slice (some ad) m c) m news w) (hl : news.length = m * size) (hm : 0 < m) (h1 : ∀ u ∈ news, u.oneCell' = true) (hbytes : (n + m) * bytes ≤ 140737488355328) (h63 : n + m ≤ 140737488355328)
    (h : ∀ ao' c' w', Ent (row e size (.slice ao' (n + m) c') (n + m) (xs ++ news) :: l) w' → K (a.put o.dst (.slice ao' (n + m) c')) w') : if Region.wanted o (yielded ops a.tmps) = true then Oper.wp P o a w K Q else E := by
  rw [if_pos hw]
  obtain ⟨ao', c', w', hr0, hE'⟩ := hE.appendFull (P := P) o.type ht hI hsz hr hxl hx hl hm h1 hbytes h63
  unfold Oper.wp execOp
  simp only [ho, resolve, invoke, builtin, Sem.run_bind, Sem.run_pure, Result.andThen_ok, List.map_toArray, List.map_cons, List.map_nil, hs, hy, hr0]
  exact h ao' c' w' hE'
theorem step_build1 (hE : Ent l w) {t e : TypeId} {x : Operand} (ho : o.op = .buildSlice t 1 #[(0, x)]) (hw : Region.wanted o (yielded ops a.tmps) = true) {xs : List Value} (hx : a.eval x = .agg xs.toArray)
    (ht : P.underlying t = some (.slice e)) {size : Nat} (hI : zeroSize P e = some size) (hn : ∀ w, (Go.sizeOf e).run P w = .ok size w) (h0 : 0 < size) (h24 : size ≤ 16777216) (hxl : xs.length = size)
    (h : ∀ b w', Ent (pt b (.cells xs.toArray e) :: l) w' → K (a.put o.dst (.slice (some ⟨b, 0, none⟩) 1 1)) w') : if Region.wanted o (yielded ops a.tmps) = true then Oper.wp P o a w K Q else E := by
  have hr := run_buildSlice1 (P := P) (w := w) ht hI hn h0 h24 xs hxl
  refine step_run hw (w' := w.alloc (.cells xs.toArray e)) (v := .slice (some ⟨w.heap.size, 0, none⟩) 1 1) ?_ (h _ _ (hE.alloc _))
  simp [execOp, ho, hx, hr]
/-- one cell written, as one step of a region that draws -/
theorem step_setC (hE : Ent l w) (i : Nat) {b : Nat} {cur : Array Value} {T : TypeId} (hi : l[i]? = some (pt b (.cells cur T (0, 0))))
    {t : TypeId} {x y : Operand} (ho : o.op = .store t x y) (hw : Region.wanted o (yielded ops a.tmps) = true) {off : Nat} (hx : a.eval x = .pointer (some ⟨b, off, none⟩)) {v : Value} (hy : a.eval y = v)
    (hn : ∀ w, (Go.sizeOf t).run P w = .ok 1 w) (hv : v.cells = #[v]) (h1 : v.oneCell' = true) (hfit : off < cur.size)
    (h : ∀ w', Ent (l.set i (pt b (.cells (cur.setIfInBounds off v) T (0, 0)))) w' → K (a.put o.dst undef) w') : if Region.wanted o (yielded ops a.tmps) = true then Oper.wp P o a w K Q else E := by
  rw [if_pos hw]
  have hr := run_storeV (P := P) hE i hi (t := t) (v := v) (n := 1) hn (by rw [hv]; rfl) (by rw [hv]; simpa using h1) (off := off) (by omega)
  have e : (cur.toList.take off ++ v.cells.toList ++ cur.toList.drop (off + v.cells.toList.length)).toArray = cur.setIfInBounds off v := by
    rw [hv]
    apply Array.ext'
    rw [Array.toList_setIfInBounds, List.set_eq_take_append_cons_drop, if_pos (by simpa using hfit)]
    simp
  rw [e] at hr
  have hx2 : (execOp a.eval o).run P w = .ok .skip (w.setRow b (cur.setIfInBounds off v)) := by simp [execOp, ho, hx, hy, hr]
  simp only [Oper.wp, hx2, Oper.upon]
  exact h _ (hE.setRow i hi _)
end
end Go.SL
namespace Go.Proofs.YtehfbokkcamliaaDoor
open Go.RowKit Go.SL
abbrev rowEn (ao : Option Addr) (c : Nat) (xs : List En) : HProp := row 69 3 (.slice ao xs.length c) xs.length (xs.flatMap enC)
theorem info_en : elemInfo Tryd.prog 69 = some (some 3, 3, 40) := by kernel_rfl
theorem zs_en : zeroSize Tryd.prog 69 = some 3 := by kernel_rfl
theorem zs_st : zeroSize Tryd.prog 9 = some 1 := by kernel_rfl
end Go.Proofs.YtehfbokkcamliaaDoor
namespace Go.Proofs.YtehfbokkcamliaaDoor
open Go.RowKit Go.SL

theorem eqEn (x : En) (w : World) : (Op.equalIn 10000 69 (.agg #[.string ⟨x.path.toArray⟩, .bool x.dir, .string ⟨x.data.toArray⟩]) (.agg #[.string ⟨x.path.toArray⟩, .bool x.dir, .string ⟨x.data.toArray⟩])).run Tryd.prog w = .ok true w := by
  have h := run_equalIn_agg (P := Tryd.prog) (w := w) 9999 69 #[.string ⟨x.path.toArray⟩, .bool x.dir, .string ⟨x.data.toArray⟩] #[.string ⟨x.path.toArray⟩, .bool x.dir, .string ⟨x.data.toArray⟩] (by kernel_rfl) (by kernel_rfl)
  refine h.trans ?_
  simp [go_sem]
/-- an entry of a row, read whole and in part -/
theorem load_en {b off c : Nat} {xs : List En} {w : World} (hr : reads (.slice (some ⟨b, off, none⟩) xs.length c) xs.length (xs.flatMap enC) w) {k : Nat} (hk : k < xs.length) :
    (Instr.loadAt 69 (.pointer (some ⟨b, off + k * 3, none⟩))).run Tryd.prog w = .ok (.agg #[.string ⟨xs[k].path.toArray⟩, .bool xs[k].dir, .string ⟨xs[k].data.toArray⟩]) w ∧
    (Instr.loadAt 9 (.pointer (some ⟨b, off + k * 3, none⟩))).run Tryd.prog w = .ok (.string ⟨xs[k].path.toArray⟩) w ∧
    (Instr.loadAt 4 (.pointer (some ⟨b, off + k * 3 + 1, none⟩))).run Tryd.prog w = .ok (.bool xs[k].dir) w ∧
    (Instr.loadAt 9 (.pointer (some ⟨b, off + k * 3 + 2, none⟩))).run Tryd.prog w = .ok (.string ⟨xs[k].data.toArray⟩) w := by
  obtain ⟨b', off', e, h⟩ := en_at hr hk
  cases e
  exact ⟨atCells Tryd.isAgg69 Tryd.sizeOf69 (enC xs[k]) rfl (fun j v hv => by rw [Addr.add_lit]; exact h j v hv), atCell (h 0 _ rfl) (by simp [go_sem]), atCell (h 1 _ rfl) (by simp [go_sem]), atCell (h 2 _ rfl) (by simp [go_sem])⟩
def GrRel (es : List En) (l : List HProp) (i : Value) (wr : World) : Prop :=
  ∃ k : Nat, k ≤ es.length ∧ i = .int .i64 k ∧ (∀ x ∈ es.take k, x.path.length ≤ 200 ∧ x.data.length ≤ 9000) ∧ Ent l wr
/-- is a row of entries too great for the law? -/
def great (es : List En) : Bool := decide (100 < es.length) || es.any fun x => decide (200 < x.path.length) || decide (9000 < x.data.length)
theorem great_not {es : List En} : great es = false ↔ es.length ≤ 100 ∧ ∀ x ∈ es, x.path.length ≤ 200 ∧ x.data.length ≤ 9000 := by
  simp only [great, Bool.or_eq_false_iff, decide_eq_false_iff_not, List.any_eq_false, Nat.not_lt, Bool.not_eq_true]
def GrPost (es : List En) (l : List HProp) (v : Value) (w' : World) : Prop := v = .bool (great es) ∧ Ent l w'
theorem GrPost.mk {es : List En} {l : List HProp} {w' : World} (b : Bool) (h : Ent l w') (h2 : great es = b) : GrPost es l (.bool b) w' := ⟨by rw [h2], h⟩
set_option maxRecDepth 100000 in
set_option maxHeartbeats 2000000 in
attribute [-go_sem] Instr.loadAt in
theorem Great_any {es : List En} {ao : Option Addr} {c : Nat} {l : List HProp} {w : World} (hk : Knows l (reads (.slice ao es.length c) es.length (es.flatMap enC))) (hE : Ent l w) :
    Calls Tryd.prog 9 #[.slice ao es.length c] w (Ret (GrPost es l)) := by
  cases h100 : decide ((100 : Int) < (es.length : Int)) with
  | true =>
    go_enter Tryd.func9, Tryd.ntmps9
    go_wp2
    refine bodyPost_ret (results_tmp rfl _ _ _) rfl ?_
    exact ⟨_, rfl, .mk true hE (by have := of_decide_eq_true h100; rw [great, decide_eq_true (by omega)]; rfl)⟩
  | false =>
    have hle : es.length ≤ 100 := by have := of_decide_eq_false h100; omega
    have Hle := SL.hid hle
    go_enter Tryd.func9, Tryd.ntmps9
    go_wp2
    clear h100
    go_loopw [3] (fun i wr => GrRel es l i wr) (fun i _ => es.length - (intOf i).toNat)
    case atStart => exact ⟨0, Nat.zero_le _, rfl, by simp, hE⟩
    case round =>
      clear hE
      obtain ⟨k, hkn, rfl, hin, hE⟩ := hrel
      have Hin := SL.hid hin
      clear hin
      by_cases hlt : k < es.length
      · obtain ⟨b, off, rfl, hz⟩ := en_at (hk _ hE) hlt
        clear hz
        have htk := SL.hid (List.take_succ_eq_append_getElem hlt)
        obtain ⟨hl0, hl1, hl2, hl3⟩ := load_en (hk _ hE) hlt
        clear hl0 hl2
        have Hmem := SL.hid (List.getElem_mem hlt)
        generalize es[k] = x at *
        obtain ⟨xp, xd, xb⟩ := x
        cases hp : decide ((200 : Int) < (xp.length : Int)) with
        | true =>
          go_wp2
          refine bodyPost_ret (results_tmp rfl _ _ _) rfl ?_
          exact ⟨_, rfl, .mk true hE (eq_true_of_ne_false fun h => by have := (great_not.1 h).2 _ Hmem.out; have := of_decide_eq_true hp; simp only at *; omega)⟩
        | false =>
          cases hd : decide ((9000 : Int) < (xb.length : Int)) with
          | true =>
            go_wp2
            refine bodyPost_ret (results_tmp rfl _ _ _) rfl ?_
            exact ⟨_, rfl, .mk true hE (eq_true_of_ne_false fun h => by have := (great_not.1 h).2 _ Hmem.out; have := of_decide_eq_true hd; simp only at *; omega)⟩
          | false =>
            go_wp2
            go_roundw
            case rel =>
              refine ⟨k + 1, hlt, by simp, ?_, hE⟩
              rw [htk.out]
              intro y hy
              rcases List.mem_append.1 hy with h | h
              · exact Hin.out y h
              · rw [List.mem_singleton.1 h]
                have := of_decide_eq_false hp
                have := of_decide_eq_false hd
                exact ⟨by simp only; omega, by simp only; omega⟩
            case measure => simp [intOf]; omega
      · obtain rfl : k = es.length := by omega
        go_wp2
        refine bodyPost_ret (results_tmp rfl _ _ _) rfl ?_
        exact ⟨_, rfl, .mk false hE (great_not.2 ⟨Hle.out, by have := Hin.out; rwa [List.take_length] at this⟩)⟩
set_option maxRecDepth 100000 in
set_option maxHeartbeats 2000000 in
attribute [-go_sem] Instr.loadAt Go.run_equalIn_agg in
theorem Row_same {es : List En} (hn : es.length ≤ 1000000) {ao bo : Option Addr} {c d : Nat} {l : List HProp} {w : World} (hk : Knows l (reads (.slice ao es.length c) es.length (es.flatMap enC))) (hk2 : Knows l (reads (.slice bo es.length d) es.length (es.flatMap enC))) (hE : Ent l w) :
    Calls Tryd.prog 21 #[.slice ao es.length c, .slice bo es.length d] w (Ret fun v w' => v = .bool true ∧ Ent l w') := by
  go_enter Tryd.func21, Tryd.ntmps21
  go_wp2
  go_loopw [5] (fun i wr => CntRel es.length l i wr) (fun i _ => es.length - (intOf i).toNat)
  case atStart => exact ⟨0, Nat.zero_le _, rfl, hE⟩
  case round =>
    clear hE
    obtain ⟨k, hkl, rfl, hE⟩ := hrel
    by_cases hlt : k < es.length
    · obtain ⟨b1, o1, rfl, hz⟩ := en_at (hk _ hE) hlt
      obtain ⟨b2, o2, rfl, hz2⟩ := en_at (hk2 _ hE) hlt
      clear hz hz2
      have f1 := SL.hid (show ∀ w, Ent l w → _ from fun w h => (load_en (hk w h) hlt).1)
      have f2 := SL.hid (show ∀ w, Ent l w → _ from fun w h => (load_en (hk2 w h) hlt).1)
      have hcm := fun w => eqEn es[k] w
      generalize es[k] = x at f1 f2 hcm
      obtain ⟨x1, x2, x3⟩ := x
      go_wp2
      refine wp_region_held_drew (S := (fun w' => ((Instr.loadAt 69 (.pointer (some ⟨b1, o1 + k * 3, none⟩))).run Tryd.prog w' = .ok (.agg #[.string ⟨x1.toArray⟩, .bool x2, .string ⟨x3.toArray⟩]) w') ∧ ((Instr.loadAt 69 (.pointer (some ⟨b2, o2 + k * 3, none⟩))).run Tryd.prog w' = .ok (.agg #[.string ⟨x1.toArray⟩, .bool x2, .string ⟨x3.toArray⟩]) w'))) (by kernel_rfl) ⟨(f1.out _ hE.drew), (f2.out _ hE.drew)⟩ (fun hS => ?_)
      refine tV 0 hS ?_; refine tV 1 hS ?_; refine tV 2 hS ?_; refine tL 3 hS ?_; refine tV 4 hS ?_; refine tV 5 hS ?_; refine tV 6 hS ?_; refine tL 7 hS ?_; refine tV 8 hS ?_
      refine wpAnyH_done (by kernel_rfl) ?_ _
      go_wp2
      go_roundw
      case rel => exact ⟨k + 1, hlt, by first | rfl | simp, hE.drew⟩
      case measure => simp [intOf] <;> omega
    · obtain rfl : k = es.length := by omega
      go_wp2
      go_ret
      exact ⟨_, rfl, rfl, hE⟩
end Go.Proofs.YtehfbokkcamliaaDoor
