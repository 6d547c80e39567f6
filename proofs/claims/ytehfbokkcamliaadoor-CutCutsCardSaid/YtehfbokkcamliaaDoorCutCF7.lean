/-
  The document's tree: the entry of a path, a path's parent, directories.
-/
import Derived.Test.YtehfbokkcamliaaDoorCutCF6
namespace Go.Proofs.YtehfbokkcamliaaDoor
open Go.RowKit Go.SL

def atD (L : List En) (p : List UInt8) : Int := if L.findIdx (fun x => x.path == p) < L.length then ((L.findIdx (fun x => x.path == p) : Nat) : Int) else -1
theorem atD_at {L : List En} {p : List UInt8} {k : Nat} (hk : k < L.length) (h : L[k].path = p) (hb : ∀ x ∈ L.take k, x.path ≠ p) : atD L p = (k : Int) := by
  have e : L.findIdx (fun x => x.path == p) = k := by
    refine (List.findIdx_eq hk).2 ⟨by simpa using h, fun j hj => ?_⟩
    have := hb (L[j]'(by omega)) (List.mem_iff_getElem.2 ⟨j, by rw [List.length_take]; omega, by simp⟩)
    simpa using this
  rw [atD, e, if_pos hk]
theorem atD_no {L : List En} {p : List UInt8} (hb : ∀ x ∈ L, x.path ≠ p) : atD L p = -1 := by
  have e : L.findIdx (fun x => x.path == p) = L.length := List.findIdx_eq_length.2 (fun x hx => by simpa using hb x hx)
  rw [atD, e, if_neg (by omega)]
theorem atD_has (L : List En) (p : List UInt8) : decide (0 ≤ atD L p) = hasD L p := by
  rw [Bool.eq_iff_iff, decide_eq_true_iff, hasD, List.any_eq_true, atD]
  by_cases h : L.findIdx (fun x => x.path == p) < L.length
  · rw [if_pos h]
    exact ⟨fun _ => ⟨_, List.getElem_mem h, List.findIdx_getElem (w := h)⟩, fun _ => by omega⟩
  · rw [if_neg h]
    refine ⟨fun h => by omega, fun ⟨x, hx, hp⟩ => absurd (List.findIdx_lt_length_of_exists ⟨x, hx, hp⟩) h⟩
def AtRelD (L : List En) (p : List UInt8) (l : List HProp) (i : Value) (wr : World) : Prop :=
  ∃ k : Nat, k ≤ L.length ∧ i = .int .i64 k ∧ (∀ x ∈ L.take k, x.path ≠ p) ∧ Ent l wr
set_option maxRecDepth 100000 in
set_option maxHeartbeats 2000000 in
attribute [-go_sem] Instr.loadAt in
theorem at_any {L : List En} (hL : L.length ≤ 1000000) (p : List UInt8) {ao : Option Addr} {c : Nat} {l : List HProp} {w : World} (hk : Knows l (reads (.slice ao L.length c) L.length (L.flatMap enC))) (hE : Ent l w) :
    Calls Tryd.prog 49 #[.agg #[.slice ao L.length c], .string ⟨p.toArray⟩] w (Ret fun v w' => v = .int .i64 (atD L p) ∧ Ent l w') := by
  go_enter Tryd.func49, Tryd.ntmps49
  go_wp2_with (first
    | go_skip
    | (refine bxX hE ?_; clear hE; intro b2 w hE))
  go_loopw [5] (fun i wr => AtRelD L p (pt b2 (.cells #[.slice ao L.length c] 37) :: l) i wr) (fun i _ => L.length - (intOf i).toNat)
  case atStart => exact ⟨0, Nat.zero_le _, rfl, by simp, hE⟩
  case round =>
    clear hE
    obtain ⟨k, hkn, rfl, hin, hE⟩ := hrel
    have Hin := SL.hid hin
    clear hin
    by_cases hlt : k < L.length
    · obtain ⟨b, off, rfl, hz⟩ := en_at (hk _ hE.tail) hlt
      clear hz
      have htk := SL.hid (List.take_succ_eq_append_getElem hlt)
      have f0 := SL.hid (show ∀ w, Ent l w → _ from fun w h => (load_en (hk w h) hlt).2.1)
      have HA := SL.hid (fun (h : L[k].path = p) => atD_at (p := p) hlt h Hin.out)
      generalize L[k] = x at *
      obtain ⟨xp, xd, xb⟩ := x
      simp only at f0 HA
      have hm := mkb xp p
      cases hp : (xp == p) with
      | true =>
        obtain rfl : xp = p := by simpa using hp
        rw [hp] at hm
        go_wp2_with (first
          | go_skip
          | ((with_reducible (show Go.wpList _ _ _ (Go.Oper.mk _ (.load 9 _) _ _ _ _ :: _) _ _)); refine wpl_run rfl (w' := wr) (v := .string ⟨xp.toArray⟩) (by simp only [execOp, Act.eval]; simp [f0.out _ hE.tail]) ?_)
          | (refine ldX hE ?_))
        refine bodyPost_ret (results_tmp rfl _ _ _) rfl ?_
        exact ⟨_, rfl, by rw [HA.out trivial]; rfl, hE.tail⟩
      | false =>
        rw [hp] at hm
        go_wp2_with (first
          | go_skip
          | ((with_reducible (show Go.wpList _ _ _ (Go.Oper.mk _ (.load 9 _) _ _ _ _ :: _) _ _)); refine wpl_run rfl (w' := wr) (v := .string ⟨xp.toArray⟩) (by simp only [execOp, Act.eval]; simp [f0.out _ hE.tail]) ?_)
          | (refine ldX hE ?_))
        go_roundw
        case rel =>
          refine ⟨k + 1, hlt, by simp, ?_, hE⟩
          rw [htk.out]
          intro y hy
          rcases List.mem_append.1 hy with h | h
          · exact Hin.out y h
          · rw [List.mem_singleton.1 h]; simpa using hp
        case measure => simp [intOf]; omega
    · obtain rfl : k = L.length := by omega
      have HN := SL.hid (atD_no (p := p) (by have := Hin.out; rwa [List.take_length] at this))
      go_wp2_with (first
        | go_skip
        | (refine ldX hE ?_))
      refine bodyPost_ret (results_tmp rfl _ _ _) rfl ?_
      exact ⟨_, rfl, by rw [HN.out]; rfl, hE.tail⟩
/-- a path's parent -/
theorem par_cut {p : List UInt8} {j : Nat} (hj : j < p.length) (h : p[j] = 47) (ha : ∀ c ∈ p.drop (j + 1), c ≠ 47) : parP p = p.take j := by
  have e : p = p.take j ++ 47 :: p.drop (j + 1) := by
    conv => lhs; rw [← List.take_append_drop j p, List.drop_eq_getElem_cons hj, h]
  conv => lhs; rw [e]
  exact parP_app ha
def PaRel (p : List UInt8) (l : List HProp) (i : Value) (wr : World) : Prop :=
  ∃ k : Nat, k ≤ p.length ∧ i = .int .i64 ((k : Int) - 1) ∧ (∀ x ∈ p.drop k, x ≠ 47) ∧ Ent l wr
set_option maxRecDepth 100000 in
set_option maxHeartbeats 2000000 in
theorem Parent_any {p : List UInt8} (hp : p.length ≤ 1000000) {l : List HProp} {w : World} (hE : Ent l w) :
    Calls Tryd.prog 51 #[.string ⟨p.toArray⟩] w (Ret fun v w' => v = .string ⟨(parP p).toArray⟩ ∧ Ent l w') := by
  have hw0 : wrap64 ((p.length : Int) - 1) = (p.length : Int) - 1 := by unfold wrap64; omega
  go_enter Tryd.func51, Tryd.ntmps51
  go_wp2
  go_loopw [3] (fun i wr => PaRel p l i wr) (fun i _ => (intOf i + 1).toNat)
  case atStart => exact ⟨p.length, Nat.le_refl _, by simp, by simp, hE⟩
  case round =>
    clear hE
    obtain ⟨k, hkn, rfl, hin, hE⟩ := hrel
    have Hin := SL.hid hin
    clear hin hw0
    by_cases h0 : k = 0
    · subst h0
      have HN := SL.hid (show parP p = [] from parP_free (by have := Hin.out; rwa [List.drop_zero] at this))
      go_wp2
      refine bodyPost_ret (results_tmp rfl _ _ _) rfl ?_
      exact ⟨_, rfl, by rw [HN.out]; rfl, hE⟩
    · obtain ⟨j, rfl⟩ : ∃ j, k = j + 1 := ⟨k - 1, by omega⟩
      have hi : j < p.length := by omega
      have e1 : (((j + 1 : Nat) : Int) - 1) = (j : Int) := by omega
      have hwj : wrap64 ((j : Int) - 1) = (j : Int) - 1 := by unfold wrap64; omega
      have hix := str_at p j (by rw [bytes_size]; exact hi)
      have hex : (⟨p.toArray⟩ : ByteArray).extract 0 j = ⟨(p.take j).toArray⟩ := by rw [extract_mk]; simp
      have hgd : p.getD j 0 = p[j] := by rw [List.getD_eq_getElem?_getD, List.getElem?_eq_getElem hi]; rfl
      have HC := SL.hid (fun (h : p[j] = 47) => par_cut (p := p) hi h Hin.out)
      have HD := SL.hid (List.drop_eq_getElem_cons hi)
      rw [e1]
      rw [hgd] at hix
      clear hgd e1
      generalize p[j] = b at *
      cases h47 : ((b.toNat : Int) == 47) with
      | true =>
        have e47 : b = 47 := by
          have : b.toNat = 47 := by
            have h : (b.toNat : Int) = 47 := by simpa using h47
            omega
          rw [← UInt8.toNat_inj, this]; rfl
        go_wp2
        refine bodyPost_ret (results_tmp rfl _ _ _) rfl ?_
        exact ⟨_, rfl, by rw [HC.out e47]; rfl, hE⟩
      | false =>
        have H1 := SL.hid (show b ≠ 47 by intro e; rw [e] at h47; simp at h47)
        go_wp2
        go_roundw
        case rel =>
          refine ⟨j, by omega, by first | rfl | simp, ?_, hE⟩
          rw [HD.out]
          intro d hd
          rcases List.mem_cons.1 hd with rfl | hd
          · exact H1.out
          · exact Hin.out d hd
        case measure => simp [intOf] <;> omega
end Go.Proofs.YtehfbokkcamliaaDoor
namespace Go.Proofs.YtehfbokkcamliaaDoor
open Go.RowKit Go.SL

theorem dirD_at {L : List En} (hn : (L.map En.path).Nodup) {p : List UInt8} {k : Nat} (hk : k < L.length) (h : L[k].path = p) : dirD L p = (p == [] || L[k].dir) := by
  rw [dirD]
  congr 1
  rw [Bool.eq_iff_iff, List.any_eq_true]
  constructor
  · rintro ⟨x, hx, h2⟩
    rw [Bool.and_eq_true, beq_iff_eq] at h2
    obtain ⟨j, hj, rfl⟩ := List.getElem_of_mem hx
    have : j = k := (List.getElem_inj (h₀ := by simpa using hj) (h₁ := by simpa using hk) hn).1 (by simp [h, h2.1])
    subst this
    exact h2.2
  · intro hd
    exact ⟨_, List.getElem_mem hk, by simp [h, hd]⟩
theorem dirD_no {L : List En} {p : List UInt8} (h : atD L p = -1) : dirD L p = (p == []) := by
  have : hasD L p = false := by rw [← atD_has, h]; rfl
  rw [dirD]
  have e : (L.any fun x => x.path == p && x.dir) = false := by
    rw [hasD, List.any_eq_false] at this
    rw [List.any_eq_false]
    intro x hx
    have := this x hx
    simp only [Bool.and_eq_true, not_and]
    exact fun h => absurd h this
  rw [e, Bool.or_false]
theorem atD_form (L : List En) (p : List UInt8) : atD L p = -1 ∨ ∃ (k : Nat) (h : k < L.length), atD L p = (k : Int) ∧ L[k].path = p := by
  rw [atD]
  by_cases h : L.findIdx (fun x => x.path == p) < L.length
  · rw [if_pos h]
    exact .inr ⟨_, h, rfl, by simpa using List.findIdx_getElem (w := h)⟩
  · rw [if_neg h]; exact .inl rfl
set_option maxRecDepth 100000 in
set_option maxHeartbeats 2000000 in
attribute [-go_sem] Instr.loadAt in
theorem dir_any {L : List En} (hL : L.length ≤ 1000000) (hn : (L.map En.path).Nodup) (p : List UInt8) {ao : Option Addr} {c : Nat} {l : List HProp} {w : World} (hk : Knows l (reads (.slice ao L.length c) L.length (L.flatMap enC))) (hE : Ent l w) :
    Calls Tryd.prog 50 #[.agg #[.slice ao L.length c], .string ⟨p.toArray⟩] w (Ret fun v w' => v = .bool (dirD L p) ∧ Ent l w') := by
  have HA := SL.hid (show ∀ (A : HProp) w, Ent (A :: l) w → Calls Tryd.prog 49 #[.agg #[.slice ao L.length c], .string ⟨p.toArray⟩] w (Ret fun v w' => v = .int .i64 (atD L p) ∧ Ent (A :: l) w') from fun A w h => at_any hL p (hk.suf (List.suffix_cons _ _)) h)
  have hmb := mkb p []
  rcases atD_form L p with h1 | ⟨k, hlt, h1, h2⟩
  · rw [h1] at HA
    have HD := SL.hid (dirD_no h1)
    clear h1 hk
    cases hp : (p == []) with
    | true =>
      rw [hp] at hmb HD
      go_enter Tryd.func50, Tryd.ntmps50
      go_wp2_with (first
        | go_skip
        | (refine bxX hE ?_; clear hE; intro b2 w hE)
        | (go_at_call 49; refine (HA.out _ _ hE).mono ?_; clear hE; rintro e w3 ⟨v, rfl, rfl, hE⟩)
        | (refine lwX (t := 37) hE Tryd.isAgg37 Tryd.sizeOf37 ?_)
        | (refine ldX hE ?_))
      refine bodyPost_ret (results_tmp rfl _ _ _) rfl ?_
      exact ⟨_, rfl, by rw [HD.out]; rfl, hE.tail⟩
    | false =>
      rw [hp] at hmb HD
      go_enter Tryd.func50, Tryd.ntmps50
      go_wp2_with (first
        | go_skip
        | (refine bxX hE ?_; clear hE; intro b2 w hE)
        | (go_at_call 49; refine (HA.out _ _ hE).mono ?_; clear hE; rintro e w3 ⟨v, rfl, rfl, hE⟩)
        | (refine lwX (t := 37) hE Tryd.isAgg37 Tryd.sizeOf37 ?_)
        | (refine ldX hE ?_))
      refine bodyPost_ret (results_tmp rfl _ _ _) rfl ?_
      exact ⟨_, rfl, by rw [HD.out]; rfl, hE.tail⟩
  · rw [h1] at HA
    have HD := SL.hid (dirD_at hn hlt h2)
    obtain ⟨b, off, rfl, hz⟩ := en_at (hk _ hE) hlt
    clear hz
    have f0 := SL.hid (show ∀ w, Ent l w → _ from fun w h => (load_en (hk w h) hlt).2.2.1)
    clear h1 h2 hk
    generalize L[k].dir = xd at *
    cases hp : (p == []) with
    | true =>
      rw [hp] at hmb HD
      go_enter Tryd.func50, Tryd.ntmps50
      go_wp2_with (first
        | go_skip
        | (refine bxX hE ?_; clear hE; intro b2 w hE)
        | (go_at_call 49; refine (HA.out _ _ hE).mono ?_; clear hE; rintro e w3 ⟨v, rfl, rfl, hE⟩)
        | ((with_reducible (show Go.wpList _ _ _ (Go.Oper.mk _ (.load 4 _) _ _ _ _ :: _) _ _)); refine wpl_run rfl (w' := w3) (v := .bool xd) (by simp only [execOp, Act.eval]; simp [f0.out _ hE.tail]) ?_)
        | (refine lwX (t := 37) hE Tryd.isAgg37 Tryd.sizeOf37 ?_)
        | (refine ldX hE ?_))
      refine bodyPost_ret (results_tmp rfl _ _ _) rfl ?_
      exact ⟨_, rfl, by rw [HD.out]; rfl, hE.tail⟩
    | false =>
      rw [hp] at hmb HD
      go_enter Tryd.func50, Tryd.ntmps50
      go_wp2_with (first
        | go_skip
        | (refine bxX hE ?_; clear hE; intro b2 w hE)
        | (go_at_call 49; refine (HA.out _ _ hE).mono ?_; clear hE; rintro e w3 ⟨v, rfl, rfl, hE⟩)
        | ((with_reducible (show Go.wpList _ _ _ (Go.Oper.mk _ (.load 4 _) _ _ _ _ :: _) _ _)); refine wpl_run rfl (w' := w3) (v := .bool xd) (by simp only [execOp, Act.eval]; simp [f0.out _ hE.tail]) ?_)
        | (refine lwX (t := 37) hE Tryd.isAgg37 Tryd.sizeOf37 ?_)
        | (refine ldX hE ?_))
      refine bodyPost_ret (results_tmp rfl _ _ _) rfl ?_
      exact ⟨_, rfl, by rw [HD.out]; rfl, hE.tail⟩
/-- the places of what is right in a directory -/
def kidsFrom (p : List UInt8) : Nat → List En → List Nat
  | _, [] => []
  | n, x :: r => if parP x.path == p then n :: kidsFrom p (n + 1) r else kidsFrom p (n + 1) r
theorem kidsFrom_snoc (p : List UInt8) (x : En) : ∀ (l : List En) (n : Nat), kidsFrom p n (l ++ [x]) = kidsFrom p n l ++ (if parP x.path == p then [n + l.length] else [])
  | [], n => by simp only [List.nil_append, kidsFrom, List.length_nil, Nat.add_zero]
  | y :: r, n => by
    rw [List.cons_append, kidsFrom, kidsFrom_snoc p x r (n + 1), kidsFrom, List.length_cons, show n + (r.length + 1) = n + 1 + r.length by omega]
    split <;> simp
theorem kidsFrom_lt (p : List UInt8) : ∀ (l : List En) (n : Nat), ∀ i ∈ kidsFrom p n l, n ≤ i ∧ i < n + l.length
  | [], n => by simp [kidsFrom]
  | y :: r, n => fun i hi => by
    have ih := kidsFrom_lt p r (n + 1)
    rw [kidsFrom] at hi
    rw [List.length_cons]
    split at hi
    · rcases List.mem_cons.1 hi with rfl | h
      · omega
      · have := ih i h; omega
    · have := ih i hi; omega
theorem kidsFrom_map (p : List UInt8) (d : En) : ∀ (r l : List En), (kidsFrom p l.length r).map (fun i => (l ++ r).getD i d) = kidsD r p
  | [], l => by simp [kidsFrom, kidsD]
  | y :: r, l => by
    have ih := kidsFrom_map p d r (l ++ [y])
    rw [List.append_assoc, List.singleton_append, List.length_append, List.length_singleton] at ih
    rw [kidsFrom, kidsD, List.filter_cons]
    split
    · rw [List.map_cons, ih, kidsD]
      congr 1
      rw [List.getD_eq_getElem?_getD, List.getElem?_append_right (Nat.le_refl _), Nat.sub_self]
      rfl
    · exact ih
def kidsI (L : List En) (p : List UInt8) : List Nat := kidsFrom p 0 L
theorem kidsI_map (L : List En) (p : List UInt8) (d : En) : (kidsI L p).map (fun i => L.getD i d) = kidsD L p := kidsFrom_map p d L []
theorem kidsI_len (L : List En) (p : List UInt8) : (kidsI L p).length = (kidsD L p).length := by rw [← kidsI_map L p ⟨[], false, []⟩, List.length_map]
theorem kidsI_lt {L : List En} {p : List UInt8} {i : Nat} (h : i ∈ kidsI L p) : i < L.length := by have := kidsFrom_lt p L 0 i h; omega
end Go.Proofs.YtehfbokkcamliaaDoor
namespace Go.Proofs.YtehfbokkcamliaaDoor
open Go.RowKit Go.SL

def intv (i : Nat) : Value := .int .i64 (i : Int)
abbrev rowN (ao : Option Addr) (c : Nat) (is : List Nat) : HProp := row 3 1 (.slice ao is.length c) is.length (is.map intv)
theorem info_int : elemInfo Tryd.prog 3 = some (some 1, 1, 8) := by kernel_rfl
theorem kidsI_snoc (L : List En) (p : List UInt8) {k : Nat} (hk : k < L.length) : kidsI (L.take (k + 1)) p = kidsI (L.take k) p ++ (if parP L[k].path == p then [k] else []) := by
  rw [kidsI, List.take_succ_eq_append_getElem hk, kidsFrom_snoc, List.length_take, Nat.min_eq_left (by omega), Nat.zero_add]
  rfl
theorem kidsI_le (L : List En) (p : List UInt8) : (kidsI L p).length ≤ L.length := by
  rw [kidsI_len, kidsD]; exact List.length_filter_le _ _
def KdRel (L : List En) (p : List UInt8) (l : List HProp) (o i : Value) (wr : World) : Prop :=
  ∃ (k : Nat) (ao : Option Addr) (c : Nat), k ≤ L.length ∧ i = .int .i64 k ∧ o = .slice ao (kidsI (L.take k) p).length c ∧ Ent (rowN ao c (kidsI (L.take k) p) :: l) wr
set_option maxRecDepth 100000 in
set_option maxHeartbeats 2000000 in
attribute [-go_sem] Instr.loadAt in
theorem kids_any {L : List En} (hL : L.length ≤ 1000000) (hb : ∀ x ∈ L, x.path.length ≤ 1000000) (p : List UInt8) {ao : Option Addr} {c : Nat} {l : List HProp} {w : World} (hk : Knows l (reads (.slice ao L.length c) L.length (L.flatMap enC))) (hE : Ent l w) :
    Calls Tryd.prog 52 #[.agg #[.slice ao L.length c], .string ⟨p.toArray⟩] w (Ret fun v w' => ∃ a' c', v = .slice a' (kidsI L p).length c' ∧ Ent (rowN a' c' (kidsI L p) :: l) w') := by
  go_enter Tryd.func52, Tryd.ntmps52
  go_wp2_with (first
    | go_skip
    | (refine bxX hE ?_; clear hE; intro b2 w hE))
  go_loopw [5, 6] (fun o i wr => KdRel L p (pt b2 (.cells #[.slice ao L.length c] 37) :: l) o i wr) (fun _ i _ => L.length - (intOf i).toNat)
  case atStart => exact ⟨0, none, 0, Nat.zero_le _, rfl, rfl, hE.nil _ _⟩
  case round =>
    clear hE
    obtain ⟨k, ar, cr, hkn, rfl, rfl, hE⟩ := hrel
    by_cases hlt : k < L.length
    · obtain ⟨b, off, rfl, hz⟩ := en_at (hk _ hE.tail.tail) hlt
      clear hz
      have f0 := SL.hid (show ∀ w, Ent l w → _ from fun w h => (load_en (hk w h) hlt).2.1)
      have Ht := SL.hid (kidsI_snoc L p hlt)
      have hlp := SL.hid (hb _ (List.getElem_mem hlt))
      have hle := kidsI_le (L.take k) p
      rw [List.length_take] at hle
      have HP := SL.hid (fun (l : List HProp) (w : World) (h : Ent l w) => Parent_any (p := L[k].path) (hb _ (List.getElem_mem hlt)) h)
      generalize L[k] = x at *
      generalize kidsI (L.take k) p = pr at *
      obtain ⟨xp, xd, xb⟩ := x
      simp only at f0 HP
      generalize hq : parP xp = q at *
      have Hq := SL.hid hq
      have hm := mkb q p
      clear hq
      cases hp : (q == p) with
      | true =>
        rw [hp] at hm
        go_wp2_with (first
          | go_skip
          | ((with_reducible (show Go.wpList _ _ _ (Go.Oper.mk _ (.load 9 _) _ _ _ _ :: _) _ _)); refine wpl_run rfl (w' := _) (v := .string ⟨xp.toArray⟩) (by simp only [execOp, Act.eval]; simp [f0.out _ hE.tail.tail]; rfl) ?_)
          | (go_at_call 51; refine (HP.out _ _ hE).mono ?_; clear hE; rintro e w3 ⟨v, rfl, rfl, hE⟩)
          | (refine ldX hE ?_)
          | ((with_reducible (show Go.wpList _ _ _ (Go.Oper.mk _ (.call { callee := .builtin .append, args := _, argTypes := _ }) _ _ _ _ :: _) _ _)); have hE9 := hE.alloc (.cells #[.int .i64 (k : Int)] 3); refine wpl_appendG hE9 1 rfl rfl rfl rfl rfl Tryd.underlying113 info_int (by decide) (m := 1) (news := [intv k]) (reads_pt hE9 0 rfl (off := 0) (fun j u hu => by rw [Nat.zero_add, List.getElem?_toArray]; exact hu)) rfl (by simp [intv, Value.oneCell']) (by omega) (by omega) ?_; clear hE9 hE; intro ao' c' w6 hE10; simp only [List.set_cons_zero, List.set_cons_succ] at hE10))
        go_roundw
        case rel =>
          have hF := hE10.tail
          have e0 : kidsI (L.take (k + 1)) p = pr ++ [k] := by rw [Ht.out]; simp only [Hq.out, hp, if_true]
          have e1 : (pr ++ [k]).length = pr.length + 1 := by simp
          have e2 : (pr ++ [k]).map intv = pr.map intv ++ [intv k] := by simp
          refine ⟨k + 1, ao', c', hlt, by first | rfl | simp, by rw [e0, e1], by rw [e0]; simp only [rowN, e1, e2]; exact hF⟩
        case measure => simp [intOf] <;> omega
      | false =>
        rw [hp] at hm
        go_wp2_with (first
          | go_skip
          | ((with_reducible (show Go.wpList _ _ _ (Go.Oper.mk _ (.load 9 _) _ _ _ _ :: _) _ _)); refine wpl_run rfl (w' := _) (v := .string ⟨xp.toArray⟩) (by simp only [execOp, Act.eval]; simp [f0.out _ hE.tail.tail]; rfl) ?_)
          | (go_at_call 51; refine (HP.out _ _ hE).mono ?_; clear hE; rintro e w3 ⟨v, rfl, rfl, hE⟩)
          | (refine ldX hE ?_))
        go_roundw
        case rel =>
          have e0 : kidsI (L.take (k + 1)) p = pr := by rw [Ht.out]; simp [Hq.out, hp]
          exact ⟨k + 1, ar, cr, hlt, by first | rfl | simp, by rw [e0], by rw [e0]; exact hE⟩
        case measure => simp [intOf] <;> omega
    · obtain rfl : k = L.length := by omega
      rw [List.take_length] at hE ⊢
      go_wp2_with (first
        | go_skip
        | (refine ldX hE ?_))
      refine bodyPost_ret (results_tmp rfl _ _ _) rfl ?_
      exact ⟨_, rfl, ar, cr, rfl, hE.erase 1⟩
end Go.Proofs.YtehfbokkcamliaaDoor
namespace Go.Proofs.YtehfbokkcamliaaDoor
open Go.RowKit Go.SL

def RsRel (p : List UInt8) (l : List HProp) (o fr i : Value) (wr : World) : Prop :=
  ∃ (pre : List (List UInt8)) (f k : Nat) (ao : Option Addr) (c : Nat), o = .slice ao pre.length c ∧ fr = .int .i64 f ∧ i = .int .i64 k ∧ pre.all isName = true ∧ pre.length ≤ k ∧ k ≤ p.length + 1 ∧
    ((f ≤ k ∧ k ≤ p.length ∧ cuts p = pre ++ cuts (p.drop f) ∧ ∀ b ∈ (p.drop f).take (k - f), b ≠ 47) ∨ (k = p.length + 1 ∧ cuts p = pre)) ∧ Ent (rowS ao c pre :: l) wr
theorem slash_next {p : List UInt8} {f k : Nat} (hf : f ≤ k) (hk : k < p.length) : (p.drop f).take (k + 1 - f) = (p.drop f).take (k - f) ++ [p.getD k 0] := by
  have h : k - f < (p.drop f).length := by rw [List.length_drop]; omega
  rw [show k + 1 - f = (k - f) + 1 by omega, List.take_succ_eq_append_getElem h, List.getElem_drop]
  congr 2
  rw [List.getD_eq_getElem?_getD, List.getElem?_eq_getElem hk]
  simp [show f + (k - f) = k by omega]
theorem slash_cut {p : List UInt8} {f k : Nat} (hf : f ≤ k) (hk : k < p.length) (h : p.getD k 0 = 47) (ha : ∀ b ∈ (p.drop f).take (k - f), b ≠ 47) : cuts (p.drop f) = (p.drop f).take (k - f) :: cuts (p.drop (k + 1)) := by
  have e : p.drop f = (p.drop f).take (k - f) ++ 47 :: p.drop (k + 1) := by
    have h2 := slash_next hf hk
    rw [h] at h2
    have h3 := (List.take_append_drop (k + 1 - f) (p.drop f)).symm
    rw [List.drop_drop, show f + (k + 1 - f) = k + 1 by omega, h2, List.append_assoc] at h3
    exact h3
  conv => lhs; rw [e]
  exact cuts_app _ ha
theorem slash_last {p : List UInt8} {f : Nat} (hf : f ≤ p.length) (ha : ∀ b ∈ (p.drop f).take (p.length - f), b ≠ 47) : (p.drop f).take (p.length - f) = p.drop f ∧ cuts (p.drop f) = [p.drop f] := by
  have e : (p.drop f).take (p.length - f) = p.drop f := List.take_of_length_le (by rw [List.length_drop]; omega)
  rw [e] at ha
  exact ⟨e, cuts_free ha⟩

set_option maxRecDepth 100000 in
set_option maxHeartbeats 4000000 in
theorem rSplit_any {p : List UInt8} (hp : p.length ≤ 1000000) {l : List HProp} {w : World} (hE : Ent l w) :
    Calls Tryd.prog 48 #[.string ⟨p.toArray⟩] w (Ret fun v w' => ∃ ao c, v = .tuple #[.slice ao (splitL p).length c, .int .i64 (splitE p)] ∧ Ent (rowS ao c (splitL p) :: l) w') := by
  by_cases h0 : p = []
  · subst h0
    go_enter Tryd.func48, Tryd.ntmps48
    go_wp2
    go_ret2
    exact ⟨_, rfl, none, 0, rfl, hE.nil _ _⟩
  have hne : (p == []) = false := by simpa using h0
  go_enter Tryd.func48, Tryd.ntmps48
  go_wp2
  go_loopw [4, 5, 6] (fun o fr i wr => RsRel p l o fr i wr) (fun _ _ i _ => p.length + 1 - (intOf i).toNat)
  case atStart => exact ⟨[], 0, 0, none, 0, rfl, rfl, rfl, rfl, Nat.le_refl _, Nat.zero_le _, .inl ⟨Nat.le_refl _, Nat.zero_le _, rfl, by simp⟩, hE.nil _ _⟩
  case round =>
    clear hE
    obtain ⟨pre, f, k, ao, c, rfl, rfl, rfl, hall, hpk, hkl, hst, hE⟩ := hrel
    have Hall := SL.hid hall
    clear hall
    by_cases hlt : k ≤ p.length
    · obtain ⟨hf, _, hc, ha⟩ := hst.resolve_right (by rintro ⟨h, _⟩; omega)
      clear hst
      have hwk : wrap64 ((k : Int) + 1) = ((k + 1 : Nat) : Int) := by unfold wrap64; omega
      have hex : (⟨p.toArray⟩ : ByteArray).extract f k = ⟨((p.drop f).take (k - f)).toArray⟩ := extract_mk p f k
      have hN := fun w => rName_any ((p.drop f).take (k - f)) (by rw [List.length_take, List.length_drop]; omega) w
      by_cases hi : k < p.length
      · have hix := str_at p k (by rw [bytes_size]; exact hi)
        have Hnx := SL.hid (slash_next hf hi)
        have Hct := SL.hid (slash_cut hf hi)
        cases h47 : (((p.getD k 0).toNat : Int) != 47) with
        | true =>
          have H1 := SL.hid (show p.getD k 0 ≠ 47 by intro e; rw [e] at h47; simp at h47)
          have Hc := SL.hid hc
          have Ha := SL.hid ha
          clear hc ha hex hN
          generalize p.getD k 0 = b at *
          go_wp2
          go_roundw
          case rel =>
            refine ⟨pre, f, k + 1, ao, c, rfl, rfl, by first | rfl | simp, Hall.out, by omega, by omega, .inl ⟨by omega, by omega, Hc.out, ?_⟩, hE⟩
            rw [Hnx.out]
            intro d hd
            simp only [List.mem_append, List.mem_singleton] at hd
            rcases hd with hd | rfl
            · exact Ha.out d hd
            · exact H1.out
          case measure => simp [intOf] <;> omega
        | false =>
          have e47 : p.getD k 0 = 47 := by
            have : (p.getD k 0).toNat = 47 := by
              have h : ((p.getD k 0).toNat : Int) = 47 := by simpa using h47
              omega
            rw [← UInt8.toNat_inj, this]; rfl
          have Hcc := SL.hid (show cuts p = (pre ++ [(p.drop f).take (k - f)]) ++ cuts (p.drop (k + 1)) by rw [hc, Hct.out e47 ha]; simp)
          have hlx : ((p.drop f).take (k - f)).length ≤ 1000000 := by rw [List.length_take, List.length_drop]; omega
          clear hc ha Hct Hnx
          generalize (p.drop f).take (k - f) = x at *
          generalize p.getD k 0 = b at *
          cases hn : isName x with
          | false =>
            rw [hn] at hN
            have R := SL.hid (split_bad h0 (x := x) (by rw [Hcc.out]; simp) hn)
            clear hn
            go_wp2_with (first
              | go_skip
              | (go_at_call 84; refine (hN _).mono ?_; rintro e w2 ⟨rfl, rfl⟩))
            go_ret2
            exact ⟨_, rfl, none, 0, by rw [R.out.1, R.out.2]; rfl, by rw [R.out.1]; exact hE.tail.nil _ _⟩
          | true =>
            rw [hn] at hN
            have Hn := SL.hid (show (pre ++ [x]).all isName = true by rw [List.all_append, Hall.out]; simp [hn])
            clear hn
            go_wp2_with (first
              | go_skip
              | (go_at_call 84; refine (hN _).mono ?_; rintro e w2 ⟨rfl, rfl⟩)
              | ((with_reducible (show Go.wpList _ _ _ (Go.Oper.mk _ (.call { callee := .builtin .append, args := _, argTypes := _ }) _ _ _ _ :: _) _ _)); have hE9 := hE.alloc (.cells #[.string ⟨x.toArray⟩] 9); refine wpl_appendG hE9 1 rfl rfl rfl rfl rfl Tryd.underlying22 info_str (by decide) (m := 1) (news := [strv x]) (reads_pt hE9 0 rfl (off := 0) (fun j u hu => by rw [Nat.zero_add, List.getElem?_toArray]; exact hu)) rfl (by simp [strv, Value.oneCell']) (by omega) (by omega) ?_; clear hE9 hE; intro ao' c' w6 hE10; simp only [List.set_cons_zero, List.set_cons_succ] at hE10))
            go_roundw
            case measure => simp [intOf] <;> omega
            case rel =>
              have hF := hE10.tail
              have e1 : (pre ++ [x]).length = pre.length + 1 := by simp
              have e2 : (pre ++ [x]).map strv = pre.map strv ++ [strv x] := by simp
              refine ⟨pre ++ [x], k + 1, k + 1, ao', c', by rw [e1], by first | rfl | simp, by first | rfl | simp, Hn.out, by rw [e1]; omega, by omega, .inl ⟨Nat.le_refl _, by omega, Hcc.out, by simp⟩, by simp only [rowS, e1, e2]; exact hF⟩
      · obtain rfl : k = p.length := by omega
        obtain ⟨ex, ec⟩ := slash_last hf ha
        have Hcc := SL.hid (show cuts p = pre ++ [(p.drop f).take (p.length - f)] by rw [hc, ec, ex])
        have hlx : ((p.drop f).take (p.length - f)).length ≤ 1000000 := by rw [List.length_take, List.length_drop]; omega
        clear hc ha ex ec
        generalize (p.drop f).take (p.length - f) = x at *
        cases hn : isName x with
        | false =>
          rw [hn] at hN
          have R := SL.hid (split_bad h0 (x := x) (by rw [Hcc.out]; simp) hn)
          clear hn
          go_wp2_with (first
            | go_skip
            | (go_at_call 84; refine (hN _).mono ?_; rintro e w2 ⟨rfl, rfl⟩))
          go_ret2
          exact ⟨_, rfl, none, 0, by rw [R.out.1, R.out.2]; rfl, by rw [R.out.1]; exact hE.tail.nil _ _⟩
        | true =>
          rw [hn] at hN
          have Hn := SL.hid (show (pre ++ [x]).all isName = true by rw [List.all_append, Hall.out]; simp [hn])
          clear hn
          go_wp2_with (first
            | go_skip
            | (go_at_call 84; refine (hN _).mono ?_; rintro e w2 ⟨rfl, rfl⟩)
            | ((with_reducible (show Go.wpList _ _ _ (Go.Oper.mk _ (.call { callee := .builtin .append, args := _, argTypes := _ }) _ _ _ _ :: _) _ _)); have hE9 := hE.alloc (.cells #[.string ⟨x.toArray⟩] 9); refine wpl_appendG hE9 1 rfl rfl rfl rfl rfl Tryd.underlying22 info_str (by decide) (m := 1) (news := [strv x]) (reads_pt hE9 0 rfl (off := 0) (fun j u hu => by rw [Nat.zero_add, List.getElem?_toArray]; exact hu)) rfl (by simp [strv, Value.oneCell']) (by omega) (by omega) ?_; clear hE9 hE; intro ao' c' w6 hE10; simp only [List.set_cons_zero, List.set_cons_succ] at hE10))
          go_roundw
          case measure => simp [intOf] <;> omega
          case rel =>
            have hF := hE10.tail
            have e1 : (pre ++ [x]).length = pre.length + 1 := by simp
            have e2 : (pre ++ [x]).map strv = pre.map strv ++ [strv x] := by simp
            refine ⟨pre ++ [x], p.length + 1, p.length + 1, ao', c', by rw [e1], by first | rfl | simp, by first | rfl | simp, Hn.out, by rw [e1]; omega, by omega, .inr ⟨by omega, by rw [Hcc.out]⟩, by simp only [rowS, e1, e2]; exact hF⟩
    · obtain ⟨_, hc⟩ := hst.resolve_left (by rintro ⟨_, h, _⟩; omega)
      have hall := Hall.out
      rw [← hc] at hall hE ⊢
      by_cases h6 : (cuts p).length ≤ 6
      · have R := SL.hid (split_good h0 hall h6)
        have hd : decide ((6 : Int) < ((cuts p).length : Int)) = false := decide_eq_false (by omega)
        clear h6 hall hc hst
        go_wp2
        go_ret2
        exact ⟨_, rfl, ao, c, by rw [R.out.1, R.out.2]; rfl, by rw [R.out.1]; exact hE⟩
      · have R := SL.hid (split_many h0 hall h6)
        have hd : (6 : Int) < ((cuts p).length : Int) := by omega
        clear h6 hall hc hst
        go_wp2
        go_ret2
        exact ⟨_, rfl, none, 0, by rw [R.out.1, R.out.2]; rfl, by rw [R.out.1]; exact hE.tail.nil _ _⟩
end Go.Proofs.YtehfbokkcamliaaDoor
namespace Go.SL
variable {P : Program} {w : World} {l : List HProp} {ops : Array Oper} {o : Oper} {a : Act} {K : Act → World → Prop} {Q : Exit → Act → World → Prop} {E : Prop}
theorem step_appendNil {e : TypeId} {size bytes : Nat} {t : TypeId} (hE : Ent l w) {s y : Operand} (ho : o.op = .call { callee := .builtin .append, args := #[s, y], argTypes := #[t, t] }) (hw : Region.wanted o (yielded ops a.tmps) = true)
    (hs : a.eval s = .slice none 0 0) {x : Value} (hy : a.eval y = x) (ht : P.underlying t = some (.slice e)) (hI : elemInfo P e = some (some size, size, bytes)) (hsz : 0 < size)
    {m : Nat} {news : List Value} (hx : reads x m news w) (hl : news.length = m * size) (h1 : ∀ u ∈ news, u.oneCell' = true) (hbytes : m * bytes ≤ 140737488355328) (h63 : m ≤ 140737488355328)
    (h : ∀ ao' c' w', Ent (row e size (.slice ao' m c') m news :: l) w' → K (a.put o.dst (.slice ao' m c')) w') : if Region.wanted o (yielded ops a.tmps) = true then Oper.wp P o a w K Q else E := by
  refine step_appendG (hE.nil e size) 0 rfl ho hw hs hy ht hI hsz hx hl h1 (by simpa using hbytes) (by simpa using h63) (fun ao' c' w' h' => ?_)
  rw [Nat.zero_add, List.nil_append, List.set_cons_zero] at h'
  rw [Nat.zero_add]
  exact h ao' c' w' h'
end Go.SL
namespace Go.Proofs.YtehfbokkcamliaaDoor
open Go.RowKit Go.SL

theorem flat_one (L : List En) : ∀ u ∈ L.flatMap enC, u.oneCell' = true := by
  intro u hu
  obtain ⟨x, _, h⟩ := List.mem_flatMap.1 hu
  exact enC_one x u h
def addL (L : List En) (x : En) : List En := if addE L x = 0 then L ++ [x] else L
def AddPost (L : List En) (x : En) (ao : Option Addr) (c0 : Nat) (l : List HProp) (v : Value) (w' : World) : Prop :=
  ∃ (m : List HProp) (a : Option Addr) (c : Nat), v = .tuple #[.agg #[.slice a (addL L x).length c], .int .i64 (addE L x)] ∧ Ent (m ++ l) w' ∧
    ∀ lk, Knows lk (reads (.slice ao L.length c0) L.length (L.flatMap enC)) → Knows (m ++ lk) (reads (.slice a (addL L x).length c) (addL L x).length ((addL L x).flatMap enC))
theorem AddPost.bad {L : List En} {x : En} {l : List HProp} {er : Int} (h : addE L x = er ∧ er ≠ 0) {a : Option Addr} {c : Nat} {m : List HProp} {w : World} (hE : Ent (m ++ l) w) :
    AddPost L x a c l (.tuple #[.agg #[.slice a L.length c], .int .i64 er]) w := by
  obtain ⟨rfl, h0⟩ := h
  have e : addL L x = L := by rw [addL, if_neg h0]
  refine ⟨m, a, c, by rw [e], hE, fun lk hk => ?_⟩
  rw [e]
  exact hk.append
theorem AddPost.good {L : List En} {x : En} {l : List HProp} (h : addE L x = 0) {ao : Option Addr} {c0 : Nat} {a : Option Addr} {c : Nat} {m : List HProp} {w : World} (hk : ∀ lk, Knows (m ++ lk) (reads (.slice a (L.length + 1) c) (L.length + 1) (L.flatMap enC ++ enC x))) (hE : Ent (m ++ l) w) :
    AddPost L x ao c0 l (.tuple #[.agg #[.slice a (L.length + 1) c], .int .i64 0]) w := by
  have e : addL L x = L ++ [x] := by rw [addL, if_pos h]
  have e1 : (L ++ [x]).length = L.length + 1 := by simp
  have e2 : (L ++ [x]).flatMap enC = L.flatMap enC ++ enC x := by simp
  refine ⟨m, a, c, by rw [e, e1, h], hE, fun lk _ => ?_⟩
  rw [e, e1, e2]
  exact hk lk

set_option maxRecDepth 100000 in
set_option maxHeartbeats 16000000 in
attribute [-go_sem] Instr.loadAt in
theorem add_any {L : List En} (hL : L.length ≤ 1000) (hb : ∀ x ∈ L, x.path.length ≤ 1000000) (hn : (L.map En.path).Nodup) {xp : List UInt8} {xd : Bool} {xb : List UInt8} (hxp : xp.length ≤ 1000000) (hxb : xb.length ≤ 1000000) {ao : Option Addr} {c : Nat} {l : List HProp} {w : World} (hk : Knows l (reads (.slice ao L.length c) L.length (L.flatMap enC))) (hE : Ent l w) :
    Calls Tryd.prog 25 #[.agg #[.slice ao L.length c], .agg #[.string ⟨xp.toArray⟩, .bool xd, .string ⟨xb.toArray⟩]] w (Ret (AddPost L ⟨xp, xd, xb⟩ ao c l)) := by
  have HS := SL.hid (fun (L' : List HProp) (w : World) (h : Ent L' w) => rSplit_any hxp h)
  have HAt := SL.hid (fun (L' : List HProp) (w : World) (hs : l <:+ L') (h : Ent L' w) => at_any (by omega) xp (hk.suf hs) h)
  have HPa := SL.hid (fun (L' : List HProp) (w : World) (h : Ent L' w) => Parent_any hxp h)
  have HDi := SL.hid (fun (L' : List HProp) (w : World) (hs : l <:+ L') (h : Ent L' w) => dir_any (by omega) hn (parP xp) (hk.suf hs) h)
  have HKi := SL.hid (fun (L' : List HProp) (w : World) (hs : l <:+ L') (h : Ent L' w) => kids_any (by omega) hb (parP xp) (hk.suf hs) h)
  have HE := SL.hid (show addE L ⟨xp, xd, xb⟩ = if splitE xp ≠ 0 then splitE xp else if xp = [] ∨ (xd = true ∧ xb ≠ []) ∨ hasD L xp = true ∨ dirD L (parP xp) = false then 8 else if 8192 < xb.length ∨ 6 ≤ (kidsD L (parP xp)).length then 6 else 0 from rfl)
  rw [← atD_has, ← kidsI_len] at HE
  have hle := kidsI_le L (parP xp)
  generalize parP xp = pp at *
  generalize kidsI L pp = ki at *
  generalize dirD L pp = dd at *
  generalize atD L xp = ai at *
  generalize splitE xp = se at *
  generalize splitL xp = sl at *
  cases e0 : (se != 0) with
  | true =>
    have HB := SL.hid (show addE L ⟨xp, xd, xb⟩ = se ∧ se ≠ 0 from by
      have h : se ≠ 0 := by simpa using e0
      exact ⟨by rw [HE.out, if_pos h], h⟩)
    clear HE
    have Tok := SL.hid True.intro
    go_enter Tryd.func25, Tryd.ntmps25
    go_wp2_with (first
      | go_skip
      | ((with_reducible (show Go.wpList _ _ _ (Go.Oper.mk _ (.box _ _) _ _ _ _ :: _) _ _)); clear Tok; refine wpl_box hE rfl rfl rfl ?_; clear hE; intro b2 w hE; simp only [Act.eval, Act.put, List.setIfInBounds_toArray, List.set_cons_zero, List.set_cons_succ, getD_lit, List.getD_cons_succ, List.getD_cons_zero, Value.cells] at hE)
      | ((with_reducible (show Go.wpList _ _ _ (Go.Oper.mk _ (.box _ _) _ _ _ _ :: _) _ _)); refine wpl_box hE rfl rfl rfl ?_; clear hE; intro b3 w hE; simp only [Act.eval, Act.put, List.setIfInBounds_toArray, List.set_cons_zero, List.set_cons_succ, getD_lit, List.getD_cons_succ, List.getD_cons_zero, Value.cells] at hE)
      | (refine alX hE ?_; clear hE; intro b4 w hE)
      | (go_at_call 48; refine (HS.out _ _ hE).mono ?_; clear hE; rintro e w3 ⟨v, rfl, an, cn, rfl, hE⟩; replace hE := hE.tail)
      | (refine lwX (t := 37) hE Tryd.isAgg37 Tryd.sizeOf37 ?_)
      | (refine swX (t := 37) hE [.slice ao L.length c] Tryd.sizeOf37 ?_; clear hE; intro w hE)
      | (refine ldX hE ?_))
    refine bodyPost_ret (results_cell2 rfl hE 0 rfl rfl Tryd.isAgg37 Tryd.sizeOf37 rfl rfl) rfl ?_
    exact ⟨_, rfl, AddPost.bad HB.out (m := [_, _, _]) hE⟩
  | false =>
    obtain rfl : se = 0 := by simpa using e0
    have HE2 := SL.hid (HE.out.trans (if_neg (by simp)))
    clear HE e0
    have hmA := mkb xp []
    have hmB := mkb xb []
    have hmB2 : ((⟨xb.toArray⟩ : ByteArray) != ⟨#[]⟩) = !(xb == []) := by rw [bne, mkb]
    have Tok := SL.hid True.intro
    go_enter Tryd.func25, Tryd.ntmps25
    go_wp2_with (first
      | go_skip
      | ((with_reducible (show Go.wpList _ _ _ (Go.Oper.mk _ (.box _ _) _ _ _ _ :: _) _ _)); clear Tok; refine wpl_box hE rfl rfl rfl ?_; clear hE; intro b2 w hE; simp only [Act.eval, Act.put, List.setIfInBounds_toArray, List.set_cons_zero, List.set_cons_succ, getD_lit, List.getD_cons_succ, List.getD_cons_zero, Value.cells] at hE)
      | ((with_reducible (show Go.wpList _ _ _ (Go.Oper.mk _ (.box _ _) _ _ _ _ :: _) _ _)); refine wpl_box hE rfl rfl rfl ?_; clear hE; intro b3 w hE; simp only [Act.eval, Act.put, List.setIfInBounds_toArray, List.set_cons_zero, List.set_cons_succ, getD_lit, List.getD_cons_succ, List.getD_cons_zero, Value.cells] at hE)
      | (refine alX hE ?_; clear hE; intro b4 w hE)
      | (go_at_call 48; refine (HS.out _ _ hE).mono ?_; clear hE; rintro e w3 ⟨v, rfl, an, cn, rfl, hE⟩; replace hE := hE.tail)
      | (refine lwX (t := 37) hE Tryd.isAgg37 Tryd.sizeOf37 ?_)
      | (refine swX (t := 37) hE [.slice ao L.length c] Tryd.sizeOf37 ?_; clear hE; intro w hE)
      | (refine ldX hE ?_))
    cases hA : (xp == []) with
    | true =>
      rw [hA] at hmA
      have HB := SL.hid (show addE L _ = 8 ∧ (8 : Int) ≠ 0 from ⟨HE2.out.trans (if_pos (.inl (by simpa using hA))), by decide⟩)
      refine wp_region_held_drew (S := (fun w' => ((Instr.loadAt 9 (.pointer (some ⟨b3, 0, none⟩))).run Tryd.prog w' = .ok (.string ⟨xp.toArray⟩) w') ∧ ((Instr.loadAt 4 (.pointer (some ⟨b3, 1, none⟩))).run Tryd.prog w' = .ok (.bool xd) w') ∧ ((Instr.loadAt 9 (.pointer (some ⟨b3, 2, none⟩))).run Tryd.prog w' = .ok (.string ⟨xb.toArray⟩) w') ∧ ((Instr.loadAt 37 (.pointer (some ⟨b2, 0, none⟩))).run Tryd.prog w' = .ok (.agg [.slice ao L.length c].toArray) w'))) (by kernel_rfl) ⟨(atVq hE.drew), (atVq hE.drew), (atVq hE.drew), (atWq hE.drew Tryd.isAgg37 Tryd.sizeOf37)⟩ (fun hS => ?_)
      refine tV 0 hS ?_; refine tL 1 hS ?_; refine tV 2 hS ?_; refine tV 3 hS ?_; refine tU 4 hS ?_; refine tU 5 hS ?_; refine tU 6 hS ?_; refine tU 7 hS ?_; refine tU 8 hS ?_; refine tU 9 hS ?_; refine tU 10 hS ?_; refine tV 11 hS ?_; refine tV 12 hS ?_; refine tU 13 hS ?_; refine tU 14 hS ?_; refine tU 15 hS ?_; refine tU 16 hS ?_; refine tU 17 hS ?_; refine tV 18 hS ?_; refine tV 19 hS ?_; refine tU 20 hS ?_
      refine tU 21 hS ?_; refine tU 22 hS ?_; refine tU 23 hS ?_; refine tU 24 hS ?_; refine tU 25 hS ?_; refine tV 26 hS ?_
      refine wpAnyH_done (by kernel_rfl) ?_ _
      replace hE := hE.drew
      clear hS
      clear HE2
      go_wp2_with (first
        | go_skip
        | (refine lwX (t := 37) hE Tryd.isAgg37 Tryd.sizeOf37 ?_)
        | (refine swX (t := 37) hE [.slice ao L.length c] Tryd.sizeOf37 ?_; clear hE; intro w hE))
      refine bodyPost_ret (results_cell2 rfl hE 0 rfl rfl Tryd.isAgg37 Tryd.sizeOf37 rfl rfl) rfl ?_
      exact ⟨_, rfl, AddPost.bad HB.out (m := [_, _, _]) hE⟩
    | false =>
      rw [hA] at hmA
      cases xd with
      | true =>
        cases hB : (xb == []) with
        | false =>
          rw [hB] at hmB hmB2
          have HB := SL.hid (show addE L _ = 8 ∧ (8 : Int) ≠ 0 from ⟨HE2.out.trans (if_pos (.inr (.inl ⟨rfl, by simpa using hB⟩))), by decide⟩)
          refine wp_region_held_drew (S := (fun w' => ((Instr.loadAt 9 (.pointer (some ⟨b3, 0, none⟩))).run Tryd.prog w' = .ok (.string ⟨xp.toArray⟩) w') ∧ ((Instr.loadAt 4 (.pointer (some ⟨b3, 1, none⟩))).run Tryd.prog w' = .ok (.bool true) w') ∧ ((Instr.loadAt 9 (.pointer (some ⟨b3, 2, none⟩))).run Tryd.prog w' = .ok (.string ⟨xb.toArray⟩) w') ∧ ((Instr.loadAt 37 (.pointer (some ⟨b2, 0, none⟩))).run Tryd.prog w' = .ok (.agg [.slice ao L.length c].toArray) w'))) (by kernel_rfl) ⟨(atVq hE.drew), (atVq hE.drew), (atVq hE.drew), (atWq hE.drew Tryd.isAgg37 Tryd.sizeOf37)⟩ (fun hS => ?_)
          refine tV 0 hS ?_; refine tL 1 hS ?_; refine tV 2 hS ?_; refine tV 3 hS ?_; refine tV 4 hS ?_; refine tL 5 hS ?_; refine tV 6 hS ?_; refine tV 7 hS ?_; refine tL 8 hS ?_; refine tV 9 hS ?_; refine tV 10 hS ?_; refine tV 11 hS ?_; refine tV 12 hS ?_; refine tU 13 hS ?_; refine tU 14 hS ?_; refine tU 15 hS ?_; refine tU 16 hS ?_; refine tU 17 hS ?_; refine tV 18 hS ?_; refine tV 19 hS ?_; refine tU 20 hS ?_
          refine tU 21 hS ?_; refine tU 22 hS ?_; refine tU 23 hS ?_; refine tU 24 hS ?_; refine tU 25 hS ?_; refine tV 26 hS ?_
          refine wpAnyH_done (by kernel_rfl) ?_ _
          replace hE := hE.drew
          clear hS
          clear HE2
          go_wp2_with (first
            | go_skip
            | (refine lwX (t := 37) hE Tryd.isAgg37 Tryd.sizeOf37 ?_)
            | (refine swX (t := 37) hE [.slice ao L.length c] Tryd.sizeOf37 ?_; clear hE; intro w hE))
          refine bodyPost_ret (results_cell2 rfl hE 0 rfl rfl Tryd.isAgg37 Tryd.sizeOf37 rfl rfl) rfl ?_
          exact ⟨_, rfl, AddPost.bad HB.out (m := [_, _, _]) hE⟩
        | true =>
          rw [hB] at hmB hmB2
          by_cases hC : 0 ≤ ai
          · skip
            have HB := SL.hid (show addE L _ = 8 ∧ (8 : Int) ≠ 0 from ⟨HE2.out.trans (if_pos (.inr (.inr (.inl (by simp [hC]))))), by decide⟩)
            refine wp_region_held_drew (S := (fun w' => ((Instr.loadAt 9 (.pointer (some ⟨b3, 0, none⟩))).run Tryd.prog w' = .ok (.string ⟨xp.toArray⟩) w') ∧ ((Instr.loadAt 4 (.pointer (some ⟨b3, 1, none⟩))).run Tryd.prog w' = .ok (.bool true) w') ∧ ((Instr.loadAt 9 (.pointer (some ⟨b3, 2, none⟩))).run Tryd.prog w' = .ok (.string ⟨xb.toArray⟩) w') ∧ ((Instr.loadAt 37 (.pointer (some ⟨b2, 0, none⟩))).run Tryd.prog w' = .ok (.agg [.slice ao L.length c].toArray) w'))) (by kernel_rfl) ⟨(atVq hE.drew), (atVq hE.drew), (atVq hE.drew), (atWq hE.drew Tryd.isAgg37 Tryd.sizeOf37)⟩ (fun hS => ?_)
            refine tV 0 hS ?_; refine tL 1 hS ?_; refine tV 2 hS ?_; refine tV 3 hS ?_; refine tV 4 hS ?_; refine tL 5 hS ?_; refine tV 6 hS ?_; refine tV 7 hS ?_; refine tL 8 hS ?_; refine tV 9 hS ?_; refine tV 10 hS ?_; refine tV 11 hS ?_; refine tV 12 hS ?_; refine tL 13 hS ?_; refine tV 14 hS ?_; refine tL 15 hS ?_
            refine tO 16 (fun K hK => ?_)
            (go_simp; refine (HAt.out _ _ sfx hE.drew).mono ?_; rintro e w3 ⟨v, rfl, rfl, hA1⟩)
            refine tK hK ⟨(atVq hA1), (atVq hA1), (atVq hA1), (atWq hA1 Tryd.isAgg37 Tryd.sizeOf37)⟩ (fun hS => ?_); clear hK K
            refine tV 17 hS ?_; refine tV 18 hS ?_; refine tV 19 hS ?_; refine tU 20 hS ?_; refine tU 21 hS ?_; refine tU 22 hS ?_; refine tU 23 hS ?_; refine tU 24 hS ?_; refine tU 25 hS ?_; refine tV 26 hS ?_
            refine wpAnyH_done (by kernel_rfl) ?_ _
            replace hE := hA1
            clear hS
            try clear hA1
            try clear hA2
            try clear hA3
            clear HE2
            go_wp2_with (first
              | go_skip
              | (refine lwX (t := 37) hE Tryd.isAgg37 Tryd.sizeOf37 ?_)
              | (refine swX (t := 37) hE [.slice ao L.length c] Tryd.sizeOf37 ?_; clear hE; intro w hE))
            refine bodyPost_ret (results_cell2 rfl hE 0 rfl rfl Tryd.isAgg37 Tryd.sizeOf37 rfl rfl) rfl ?_
            exact ⟨_, rfl, AddPost.bad HB.out (m := [_, _, _]) hE⟩
          · cases dd with
            | false =>
              have HB := SL.hid (show addE L _ = 8 ∧ (8 : Int) ≠ 0 from ⟨HE2.out.trans (if_pos (.inr (.inr (.inr rfl)))), by decide⟩)
              refine wp_region_held_drew (S := (fun w' => ((Instr.loadAt 9 (.pointer (some ⟨b3, 0, none⟩))).run Tryd.prog w' = .ok (.string ⟨xp.toArray⟩) w') ∧ ((Instr.loadAt 4 (.pointer (some ⟨b3, 1, none⟩))).run Tryd.prog w' = .ok (.bool true) w') ∧ ((Instr.loadAt 9 (.pointer (some ⟨b3, 2, none⟩))).run Tryd.prog w' = .ok (.string ⟨xb.toArray⟩) w') ∧ ((Instr.loadAt 37 (.pointer (some ⟨b2, 0, none⟩))).run Tryd.prog w' = .ok (.agg [.slice ao L.length c].toArray) w'))) (by kernel_rfl) ⟨(atVq hE.drew), (atVq hE.drew), (atVq hE.drew), (atWq hE.drew Tryd.isAgg37 Tryd.sizeOf37)⟩ (fun hS => ?_)
              refine tV 0 hS ?_; refine tL 1 hS ?_; refine tV 2 hS ?_; refine tV 3 hS ?_; refine tV 4 hS ?_; refine tL 5 hS ?_; refine tV 6 hS ?_; refine tV 7 hS ?_; refine tL 8 hS ?_; refine tV 9 hS ?_; refine tV 10 hS ?_; refine tV 11 hS ?_; refine tV 12 hS ?_; refine tL 13 hS ?_; refine tV 14 hS ?_; refine tL 15 hS ?_
              refine tO 16 (fun K hK => ?_)
              (go_simp; refine (HAt.out _ _ sfx hE.drew).mono ?_; rintro e w3 ⟨v, rfl, rfl, hA1⟩)
              refine tK hK ⟨(atVq hA1), (atVq hA1), (atVq hA1), (atWq hA1 Tryd.isAgg37 Tryd.sizeOf37)⟩ (fun hS => ?_); clear hK K
              refine tV 17 hS ?_; refine tV 18 hS ?_; refine tV 19 hS ?_; refine tL 20 hS ?_; refine tV 21 hS ?_; refine tL 22 hS ?_
              refine tO 23 (fun K hK => ?_)
              (go_simp; refine (HPa.out _ _ hA1).mono ?_; rintro e w4 ⟨v, rfl, rfl, hA2⟩)
              refine tK hK ⟨(atVq hA2), (atVq hA2), (atVq hA2), (atWq hA2 Tryd.isAgg37 Tryd.sizeOf37)⟩ (fun hS => ?_); clear hK K
              refine tO 24 (fun K hK => ?_)
              (go_simp; refine (HDi.out _ _ sfx hA2).mono ?_; rintro e w5 ⟨v, rfl, rfl, hA3⟩)
              refine tK hK ⟨(atVq hA3), (atVq hA3), (atVq hA3), (atWq hA3 Tryd.isAgg37 Tryd.sizeOf37)⟩ (fun hS => ?_); clear hK K
              refine tV 25 hS ?_; refine tV 26 hS ?_
              refine wpAnyH_done (by kernel_rfl) ?_ _
              replace hE := hA3
              clear hS
              try clear hA1
              try clear hA2
              try clear hA3
              clear HE2
              go_wp2_with (first
                | go_skip
                | (refine lwX (t := 37) hE Tryd.isAgg37 Tryd.sizeOf37 ?_)
                | (refine swX (t := 37) hE [.slice ao L.length c] Tryd.sizeOf37 ?_; clear hE; intro w hE))
              refine bodyPost_ret (results_cell2 rfl hE 0 rfl rfl Tryd.isAgg37 Tryd.sizeOf37 rfl rfl) rfl ?_
              exact ⟨_, rfl, AddPost.bad HB.out (m := [_, _, _]) hE⟩
            | true =>
              have HE3 := SL.hid (HE2.out.trans (if_neg (by have h1 : xp ≠ [] := (by simpa using hA); have h2 : xb = [] := (by simpa using hB); simp [h1, hC, h2])))
              clear HE2
              refine wp_region_held_drew (S := (fun w' => ((Instr.loadAt 9 (.pointer (some ⟨b3, 0, none⟩))).run Tryd.prog w' = .ok (.string ⟨xp.toArray⟩) w') ∧ ((Instr.loadAt 4 (.pointer (some ⟨b3, 1, none⟩))).run Tryd.prog w' = .ok (.bool true) w') ∧ ((Instr.loadAt 9 (.pointer (some ⟨b3, 2, none⟩))).run Tryd.prog w' = .ok (.string ⟨xb.toArray⟩) w') ∧ ((Instr.loadAt 37 (.pointer (some ⟨b2, 0, none⟩))).run Tryd.prog w' = .ok (.agg [.slice ao L.length c].toArray) w'))) (by kernel_rfl) ⟨(atVq hE.drew), (atVq hE.drew), (atVq hE.drew), (atWq hE.drew Tryd.isAgg37 Tryd.sizeOf37)⟩ (fun hS => ?_)
              refine tV 0 hS ?_; refine tL 1 hS ?_; refine tV 2 hS ?_; refine tV 3 hS ?_; refine tV 4 hS ?_; refine tL 5 hS ?_; refine tV 6 hS ?_; refine tV 7 hS ?_; refine tL 8 hS ?_; refine tV 9 hS ?_; refine tV 10 hS ?_; refine tV 11 hS ?_; refine tV 12 hS ?_; refine tL 13 hS ?_; refine tV 14 hS ?_; refine tL 15 hS ?_
              refine tO 16 (fun K hK => ?_)
              (go_simp; refine (HAt.out _ _ sfx hE.drew).mono ?_; rintro e w3 ⟨v, rfl, rfl, hA1⟩)
              refine tK hK ⟨(atVq hA1), (atVq hA1), (atVq hA1), (atWq hA1 Tryd.isAgg37 Tryd.sizeOf37)⟩ (fun hS => ?_); clear hK K
              refine tV 17 hS ?_; refine tV 18 hS ?_; refine tV 19 hS ?_; refine tL 20 hS ?_; refine tV 21 hS ?_; refine tL 22 hS ?_
              refine tO 23 (fun K hK => ?_)
              (go_simp; refine (HPa.out _ _ hA1).mono ?_; rintro e w4 ⟨v, rfl, rfl, hA2⟩)
              refine tK hK ⟨(atVq hA2), (atVq hA2), (atVq hA2), (atWq hA2 Tryd.isAgg37 Tryd.sizeOf37)⟩ (fun hS => ?_); clear hK K
              refine tO 24 (fun K hK => ?_)
              (go_simp; refine (HDi.out _ _ sfx hA2).mono ?_; rintro e w5 ⟨v, rfl, rfl, hA3⟩)
              refine tK hK ⟨(atVq hA3), (atVq hA3), (atVq hA3), (atWq hA3 Tryd.isAgg37 Tryd.sizeOf37)⟩ (fun hS => ?_); clear hK K
              refine tV 25 hS ?_; refine tV 26 hS ?_
              refine wpAnyH_done (by kernel_rfl) ?_ _
              replace hE := hA3
              clear hS
              try clear hA1
              try clear hA2
              try clear hA3
              cases hG : decide ((8192 : Int) < (xb.length : Int)) with
              | true =>
                have hG2 := of_decide_eq_true hG
                have HB := SL.hid (show addE L _ = 6 ∧ (6 : Int) ≠ 0 from ⟨HE3.out.trans (if_pos (.inl (by omega))), by decide⟩)
                try clear hG2
                try clear h62
                go_wp2
                refine wp_region_held_drew (S := (fun w' => ((Instr.loadAt 9 (.pointer (some ⟨b3, 0, none⟩))).run Tryd.prog w' = .ok (.string ⟨xp.toArray⟩) w') ∧ ((Instr.loadAt 9 (.pointer (some ⟨b3, 2, none⟩))).run Tryd.prog w' = .ok (.string ⟨xb.toArray⟩) w') ∧ ((Instr.loadAt 37 (.pointer (some ⟨b2, 0, none⟩))).run Tryd.prog w' = .ok (.agg [.slice ao L.length c].toArray) w'))) (by kernel_rfl) ⟨(atVq hE.drew), (atVq hE.drew), (atWq hE.drew Tryd.isAgg37 Tryd.sizeOf37)⟩ (fun hS => ?_)
                refine tV 0 hS ?_; refine tL 1 hS ?_; refine tV 2 hS ?_; refine tV 3 hS ?_; refine tV 4 hS ?_; refine tU 5 hS ?_; refine tU 6 hS ?_; refine tU 7 hS ?_; refine tU 8 hS ?_; refine tU 9 hS ?_; refine tU 10 hS ?_; refine tU 11 hS ?_; refine tV 12 hS ?_
                refine wpAnyH_done (by kernel_rfl) ?_ _
                replace hE := hE.drew
                clear hS
                clear HE3
                go_wp2_with (first
                  | go_skip
                  | (refine lwX (t := 37) hE Tryd.isAgg37 Tryd.sizeOf37 ?_)
                  | (refine swX (t := 37) hE [.slice ao L.length c] Tryd.sizeOf37 ?_; clear hE; intro w hE))
                refine bodyPost_ret (results_cell2 rfl hE 0 rfl rfl Tryd.isAgg37 Tryd.sizeOf37 rfl rfl) rfl ?_
                exact ⟨_, rfl, AddPost.bad HB.out (m := [_, _, _]) hE⟩
              | false =>
                have hG2 := of_decide_eq_false hG
                cases h6 : decide ((6 : Int) ≤ (ki.length : Int)) with
                | true =>
                  have h62 := of_decide_eq_true h6
                  have HB := SL.hid (show addE L _ = 6 ∧ (6 : Int) ≠ 0 from ⟨HE3.out.trans (if_pos (.inr (by omega))), by decide⟩)
                  try clear hG2
                  try clear h62
                  go_wp2
                  refine wp_region_held_drew (S := (fun w' => ((Instr.loadAt 9 (.pointer (some ⟨b3, 0, none⟩))).run Tryd.prog w' = .ok (.string ⟨xp.toArray⟩) w') ∧ ((Instr.loadAt 9 (.pointer (some ⟨b3, 2, none⟩))).run Tryd.prog w' = .ok (.string ⟨xb.toArray⟩) w') ∧ ((Instr.loadAt 37 (.pointer (some ⟨b2, 0, none⟩))).run Tryd.prog w' = .ok (.agg [.slice ao L.length c].toArray) w'))) (by kernel_rfl) ⟨(atVq hE.drew), (atVq hE.drew), (atWq hE.drew Tryd.isAgg37 Tryd.sizeOf37)⟩ (fun hS => ?_)
                  refine tV 0 hS ?_; refine tL 1 hS ?_; refine tV 2 hS ?_; refine tV 3 hS ?_; refine tV 4 hS ?_; refine tL 5 hS ?_; refine tV 6 hS ?_; refine tL 7 hS ?_
                  refine tO 8 (fun K hK => ?_)
                  (go_simp; refine (HPa.out _ _ hE.drew).mono ?_; rintro e w4 ⟨v, rfl, rfl, hA1⟩)
                  refine tK hK ⟨(atVq hA1), (atVq hA1), (atWq hA1 Tryd.isAgg37 Tryd.sizeOf37)⟩ (fun hS => ?_); clear hK K
                  refine tO 9 (fun K hK => ?_)
                  (go_simp; refine (HKi.out _ _ sfx hA1).mono ?_; rintro e w5 ⟨v, rfl, ka, kc, rfl, hA2⟩)
                  refine tK hK ⟨(atVq hA2), (atVq hA2), (atWq hA2 Tryd.isAgg37 Tryd.sizeOf37)⟩ (fun hS => ?_); clear hK K
                  refine tV 10 hS ?_; refine tV 11 hS ?_; refine tV 12 hS ?_
                  refine wpAnyH_done (by kernel_rfl) ?_ _
                  replace hE := hA2.tail
                  clear hS
                  try clear hA1
                  try clear hA2
                  try clear hA3
                  clear HE3
                  go_wp2_with (first
                    | go_skip
                    | (refine lwX (t := 37) hE Tryd.isAgg37 Tryd.sizeOf37 ?_)
                    | (refine swX (t := 37) hE [.slice ao L.length c] Tryd.sizeOf37 ?_; clear hE; intro w hE))
                  refine bodyPost_ret (results_cell2 rfl hE 0 rfl rfl Tryd.isAgg37 Tryd.sizeOf37 rfl rfl) rfl ?_
                  exact ⟨_, rfl, AddPost.bad HB.out (m := [_, _, _]) hE⟩
                | false =>
                  have h62 := of_decide_eq_false h6
                  have HB := SL.hid (show addE L _ = 0 from HE3.out.trans (if_neg (by omega)))
                  try clear hG2
                  try clear h62
                  go_wp2
                  refine wp_region_held_drew (S := (fun w' => ((Instr.loadAt 9 (.pointer (some ⟨b3, 0, none⟩))).run Tryd.prog w' = .ok (.string ⟨xp.toArray⟩) w') ∧ ((Instr.loadAt 9 (.pointer (some ⟨b3, 2, none⟩))).run Tryd.prog w' = .ok (.string ⟨xb.toArray⟩) w') ∧ ((Instr.loadAt 37 (.pointer (some ⟨b2, 0, none⟩))).run Tryd.prog w' = .ok (.agg [.slice ao L.length c].toArray) w'))) (by kernel_rfl) ⟨(atVq hE.drew), (atVq hE.drew), (atWq hE.drew Tryd.isAgg37 Tryd.sizeOf37)⟩ (fun hS => ?_)
                  refine tV 0 hS ?_; refine tL 1 hS ?_; refine tV 2 hS ?_; refine tV 3 hS ?_; refine tV 4 hS ?_; refine tL 5 hS ?_; refine tV 6 hS ?_; refine tL 7 hS ?_
                  refine tO 8 (fun K hK => ?_)
                  (go_simp; refine (HPa.out _ _ hE.drew).mono ?_; rintro e w4 ⟨v, rfl, rfl, hA1⟩)
                  refine tK hK ⟨(atVq hA1), (atVq hA1), (atWq hA1 Tryd.isAgg37 Tryd.sizeOf37)⟩ (fun hS => ?_); clear hK K
                  refine tO 9 (fun K hK => ?_)
                  (go_simp; refine (HKi.out _ _ sfx hA1).mono ?_; rintro e w5 ⟨v, rfl, ka, kc, rfl, hA2⟩)
                  refine tK hK ⟨(atVq hA2), (atVq hA2), (atWq hA2 Tryd.isAgg37 Tryd.sizeOf37)⟩ (fun hS => ?_); clear hK K
                  refine tV 10 hS ?_; refine tV 11 hS ?_; refine tV 12 hS ?_
                  refine wpAnyH_done (by kernel_rfl) ?_ _
                  replace hE := hA2.tail
                  clear hS
                  try clear hA1
                  try clear hA2
                  try clear hA3
                  clear HE3
                  go_wp2
                  refine wp_region_held_drew (S := (fun w' => ((Instr.loadAt 27 (.pointer (some ⟨b2, 0, none⟩))).run Tryd.prog w' = .ok (.slice ao L.length c) w') ∧ ((Instr.loadAt 69 (.pointer (some ⟨b3, 0, none⟩))).run Tryd.prog w' = .ok (.agg [.string ⟨xp.toArray⟩, .bool true, .string ⟨xb.toArray⟩].toArray) w'))) (by kernel_rfl) ⟨(atVq hE.drew), (atWq hE.drew Tryd.isAgg69 Tryd.sizeOf69)⟩ (fun hS => ?_)
                  refine tV 0 hS ?_; refine tL 1 hS ?_; refine tL 3 hS ?_
                  refine wpAnyH_ready (rs := [2, 4]) (by kernel_rfl) (by simp) ?_
                  refine (AllReadyH.cons (o := ⟨some 62, .call { callee := .builtin .append, args := #[.const (.slice none 0 0), .tmp 61], argTypes := #[27, 27] }, _, _, _, none⟩) rfl (fun K hK => ?_) (AllReadyH.cons (o := ⟨some 64, .buildSlice 27 1 #[(0, .tmp 63)], _, _, _, none⟩) rfl (fun K hK => ?_) AllReadyH.nil))
                  focus
                    ((first | refine step_appendNil hB rfl (by rfl) (by rfl) (by rfl) Tryd.underlying27 info_en (by decide) (hk _ (hB.suf sfx)) (enC_flat_len L) (flat_one L) (by omega) (by omega) ?_ | refine step_appendNil hE.drew rfl (by rfl) (by rfl) (by rfl) Tryd.underlying27 info_en (by decide) (hk _ (hE.drew.suf sfx)) (enC_flat_len L) (flat_one L) (by omega) (by omega) ?_); intro a1 c1 w6 hA)
                    refine tK hK ⟨(atVq hA), (atWq hA Tryd.isAgg69 Tryd.sizeOf69)⟩ (fun hS => ?_); clear hK K
                    refine tO 4 (fun K hK => ?_)
                    ((first | refine step_build1 hA rfl (by rfl) (xs := enC ⟨xp, true, xb⟩) (by rfl) Tryd.underlying27 zs_en Tryd.sizeOf69 (by decide) (by decide) rfl ?_ | refine step_build1 hE.drew rfl (by rfl) (xs := enC ⟨xp, true, xb⟩) (by rfl) Tryd.underlying27 zs_en Tryd.sizeOf69 (by decide) (by decide) rfl ?_); intro b9 w7 hB)
                    refine tK hK ⟨(atVq hB), (atWq hB Tryd.isAgg69 Tryd.sizeOf69)⟩ (fun hS => ?_); clear hK K
                    refine tO 5 (fun K hK => ?_)
                    ((first | refine step_appendG hB 1 rfl rfl (by rfl) (by rfl) (by rfl) Tryd.underlying27 info_en (by decide) (m := 1) (news := enC ⟨xp, true, xb⟩) (reads_pt hB 0 rfl (off := 0) (fun j u hu => by rw [Nat.zero_add, List.getElem?_toArray]; exact hu)) rfl (enC_one _) (by omega) (by omega) ?_ | refine step_appendG hA 0 rfl rfl (by rfl) (by rfl) (by rfl) Tryd.underlying27 info_en (by decide) (m := 1) (news := enC ⟨xp, true, xb⟩) (reads_pt hA 1 rfl (off := 0) (fun j u hu => by rw [Nat.zero_add, List.getElem?_toArray]; exact hu)) rfl (enC_one _) (by omega) (by omega) ?_); intro a2 c2 w8 hC; simp only [List.set_cons_zero, List.set_cons_succ] at hC)
                    refine tK hK ⟨(atVq hC), (atWq hC Tryd.isAgg69 Tryd.sizeOf69)⟩ (fun hS => ?_); clear hK K
                    refine tV 6 hS ?_
                    refine tO 7 (fun K hK => ?_)
                    (refine step_storeW hC 2 rfl (by rfl) (by rfl) (by rfl) (xs := [.slice a2 (L.length + 1) c2]) (by rfl) Tryd.sizeOf37 rfl (by simp [Value.oneCell']) rfl ?_; intro w9 hD; simp only [List.set_cons_zero, List.set_cons_succ] at hD)
                    refine tK hK ⟨(atVq hD), (atWq hD Tryd.isAgg69 Tryd.sizeOf69)⟩ (fun hS => ?_); clear hK K
                    refine tV 8 hS ?_
                    refine wpAnyH_done (by kernel_rfl) ?_ _
                  rotate_right
                  focus
                    ((first | refine step_build1 hA rfl (by rfl) (xs := enC ⟨xp, true, xb⟩) (by rfl) Tryd.underlying27 zs_en Tryd.sizeOf69 (by decide) (by decide) rfl ?_ | refine step_build1 hE.drew rfl (by rfl) (xs := enC ⟨xp, true, xb⟩) (by rfl) Tryd.underlying27 zs_en Tryd.sizeOf69 (by decide) (by decide) rfl ?_); intro b9 w7 hB)
                    refine tK hK ⟨(atVq hB), (atWq hB Tryd.isAgg69 Tryd.sizeOf69)⟩ (fun hS => ?_); clear hK K
                    refine tO 2 (fun K hK => ?_)
                    ((first | refine step_appendNil hB rfl (by rfl) (by rfl) (by rfl) Tryd.underlying27 info_en (by decide) (hk _ (hB.suf sfx)) (enC_flat_len L) (flat_one L) (by omega) (by omega) ?_ | refine step_appendNil hE.drew rfl (by rfl) (by rfl) (by rfl) Tryd.underlying27 info_en (by decide) (hk _ (hE.drew.suf sfx)) (enC_flat_len L) (flat_one L) (by omega) (by omega) ?_); intro a1 c1 w6 hA)
                    refine tK hK ⟨(atVq hA), (atWq hA Tryd.isAgg69 Tryd.sizeOf69)⟩ (fun hS => ?_); clear hK K
                    refine tO 5 (fun K hK => ?_)
                    ((first | refine step_appendG hB 1 rfl rfl (by rfl) (by rfl) (by rfl) Tryd.underlying27 info_en (by decide) (m := 1) (news := enC ⟨xp, true, xb⟩) (reads_pt hB 0 rfl (off := 0) (fun j u hu => by rw [Nat.zero_add, List.getElem?_toArray]; exact hu)) rfl (enC_one _) (by omega) (by omega) ?_ | refine step_appendG hA 0 rfl rfl (by rfl) (by rfl) (by rfl) Tryd.underlying27 info_en (by decide) (m := 1) (news := enC ⟨xp, true, xb⟩) (reads_pt hA 1 rfl (off := 0) (fun j u hu => by rw [Nat.zero_add, List.getElem?_toArray]; exact hu)) rfl (enC_one _) (by omega) (by omega) ?_); intro a2 c2 w8 hC; simp only [List.set_cons_zero, List.set_cons_succ] at hC)
                    refine tK hK ⟨(atVq hC), (atWq hC Tryd.isAgg69 Tryd.sizeOf69)⟩ (fun hS => ?_); clear hK K
                    refine tV 6 hS ?_
                    refine tO 7 (fun K hK => ?_)
                    (refine step_storeW hC 2 rfl (by rfl) (by rfl) (by rfl) (xs := [.slice a2 (L.length + 1) c2]) (by rfl) Tryd.sizeOf37 rfl (by simp [Value.oneCell']) rfl ?_; intro w9 hD; simp only [List.set_cons_zero, List.set_cons_succ] at hD)
                    refine tK hK ⟨(atVq hD), (atWq hD Tryd.isAgg69 Tryd.sizeOf69)⟩ (fun hS => ?_); clear hK K
                    refine tV 8 hS ?_
                    refine wpAnyH_done (by kernel_rfl) ?_ _
                  all_goals
                    clear hC hB hA hE hS
                    go_wp2
                    refine bodyPost_ret (results_cell2 rfl hD 2 rfl rfl Tryd.isAgg37 Tryd.sizeOf37 rfl rfl) rfl ?_
                    exact ⟨_, rfl, AddPost.good HB.out (m := [_, _, _, _, _]) (fun lk w h => by first | exact reads_row h 0 rfl | exact reads_row h 1 rfl) hD⟩
      | false =>
        by_cases hC : 0 ≤ ai
        · skip
          have HB := SL.hid (show addE L _ = 8 ∧ (8 : Int) ≠ 0 from ⟨HE2.out.trans (if_pos (.inr (.inr (.inl (by simp [hC]))))), by decide⟩)
          refine wp_region_held_drew (S := (fun w' => ((Instr.loadAt 9 (.pointer (some ⟨b3, 0, none⟩))).run Tryd.prog w' = .ok (.string ⟨xp.toArray⟩) w') ∧ ((Instr.loadAt 4 (.pointer (some ⟨b3, 1, none⟩))).run Tryd.prog w' = .ok (.bool false) w') ∧ ((Instr.loadAt 9 (.pointer (some ⟨b3, 2, none⟩))).run Tryd.prog w' = .ok (.string ⟨xb.toArray⟩) w') ∧ ((Instr.loadAt 37 (.pointer (some ⟨b2, 0, none⟩))).run Tryd.prog w' = .ok (.agg [.slice ao L.length c].toArray) w'))) (by kernel_rfl) ⟨(atVq hE.drew), (atVq hE.drew), (atVq hE.drew), (atWq hE.drew Tryd.isAgg37 Tryd.sizeOf37)⟩ (fun hS => ?_)
          refine tV 0 hS ?_; refine tL 1 hS ?_; refine tV 2 hS ?_; refine tV 3 hS ?_; refine tV 4 hS ?_; refine tL 5 hS ?_; refine tV 6 hS ?_; refine tU 7 hS ?_; refine tU 8 hS ?_; refine tU 9 hS ?_; refine tV 10 hS ?_; refine tV 11 hS ?_; refine tV 12 hS ?_; refine tL 13 hS ?_; refine tV 14 hS ?_; refine tL 15 hS ?_
          refine tO 16 (fun K hK => ?_)
          (go_simp; refine (HAt.out _ _ sfx hE.drew).mono ?_; rintro e w3 ⟨v, rfl, rfl, hA1⟩)
          refine tK hK ⟨(atVq hA1), (atVq hA1), (atVq hA1), (atWq hA1 Tryd.isAgg37 Tryd.sizeOf37)⟩ (fun hS => ?_); clear hK K
          refine tV 17 hS ?_; refine tV 18 hS ?_; refine tV 19 hS ?_; refine tU 20 hS ?_; refine tU 21 hS ?_; refine tU 22 hS ?_; refine tU 23 hS ?_; refine tU 24 hS ?_; refine tU 25 hS ?_; refine tV 26 hS ?_
          refine wpAnyH_done (by kernel_rfl) ?_ _
          replace hE := hA1
          clear hS
          try clear hA1
          try clear hA2
          try clear hA3
          clear HE2
          go_wp2_with (first
            | go_skip
            | (refine lwX (t := 37) hE Tryd.isAgg37 Tryd.sizeOf37 ?_)
            | (refine swX (t := 37) hE [.slice ao L.length c] Tryd.sizeOf37 ?_; clear hE; intro w hE))
          refine bodyPost_ret (results_cell2 rfl hE 0 rfl rfl Tryd.isAgg37 Tryd.sizeOf37 rfl rfl) rfl ?_
          exact ⟨_, rfl, AddPost.bad HB.out (m := [_, _, _]) hE⟩
        · cases dd with
          | false =>
            have HB := SL.hid (show addE L _ = 8 ∧ (8 : Int) ≠ 0 from ⟨HE2.out.trans (if_pos (.inr (.inr (.inr rfl)))), by decide⟩)
            refine wp_region_held_drew (S := (fun w' => ((Instr.loadAt 9 (.pointer (some ⟨b3, 0, none⟩))).run Tryd.prog w' = .ok (.string ⟨xp.toArray⟩) w') ∧ ((Instr.loadAt 4 (.pointer (some ⟨b3, 1, none⟩))).run Tryd.prog w' = .ok (.bool false) w') ∧ ((Instr.loadAt 9 (.pointer (some ⟨b3, 2, none⟩))).run Tryd.prog w' = .ok (.string ⟨xb.toArray⟩) w') ∧ ((Instr.loadAt 37 (.pointer (some ⟨b2, 0, none⟩))).run Tryd.prog w' = .ok (.agg [.slice ao L.length c].toArray) w'))) (by kernel_rfl) ⟨(atVq hE.drew), (atVq hE.drew), (atVq hE.drew), (atWq hE.drew Tryd.isAgg37 Tryd.sizeOf37)⟩ (fun hS => ?_)
            refine tV 0 hS ?_; refine tL 1 hS ?_; refine tV 2 hS ?_; refine tV 3 hS ?_; refine tV 4 hS ?_; refine tL 5 hS ?_; refine tV 6 hS ?_; refine tU 7 hS ?_; refine tU 8 hS ?_; refine tU 9 hS ?_; refine tV 10 hS ?_; refine tV 11 hS ?_; refine tV 12 hS ?_; refine tL 13 hS ?_; refine tV 14 hS ?_; refine tL 15 hS ?_
            refine tO 16 (fun K hK => ?_)
            (go_simp; refine (HAt.out _ _ sfx hE.drew).mono ?_; rintro e w3 ⟨v, rfl, rfl, hA1⟩)
            refine tK hK ⟨(atVq hA1), (atVq hA1), (atVq hA1), (atWq hA1 Tryd.isAgg37 Tryd.sizeOf37)⟩ (fun hS => ?_); clear hK K
            refine tV 17 hS ?_; refine tV 18 hS ?_; refine tV 19 hS ?_; refine tL 20 hS ?_; refine tV 21 hS ?_; refine tL 22 hS ?_
            refine tO 23 (fun K hK => ?_)
            (go_simp; refine (HPa.out _ _ hA1).mono ?_; rintro e w4 ⟨v, rfl, rfl, hA2⟩)
            refine tK hK ⟨(atVq hA2), (atVq hA2), (atVq hA2), (atWq hA2 Tryd.isAgg37 Tryd.sizeOf37)⟩ (fun hS => ?_); clear hK K
            refine tO 24 (fun K hK => ?_)
            (go_simp; refine (HDi.out _ _ sfx hA2).mono ?_; rintro e w5 ⟨v, rfl, rfl, hA3⟩)
            refine tK hK ⟨(atVq hA3), (atVq hA3), (atVq hA3), (atWq hA3 Tryd.isAgg37 Tryd.sizeOf37)⟩ (fun hS => ?_); clear hK K
            refine tV 25 hS ?_; refine tV 26 hS ?_
            refine wpAnyH_done (by kernel_rfl) ?_ _
            replace hE := hA3
            clear hS
            try clear hA1
            try clear hA2
            try clear hA3
            clear HE2
            go_wp2_with (first
              | go_skip
              | (refine lwX (t := 37) hE Tryd.isAgg37 Tryd.sizeOf37 ?_)
              | (refine swX (t := 37) hE [.slice ao L.length c] Tryd.sizeOf37 ?_; clear hE; intro w hE))
            refine bodyPost_ret (results_cell2 rfl hE 0 rfl rfl Tryd.isAgg37 Tryd.sizeOf37 rfl rfl) rfl ?_
            exact ⟨_, rfl, AddPost.bad HB.out (m := [_, _, _]) hE⟩
          | true =>
            have HE3 := SL.hid (HE2.out.trans (if_neg (by have h1 : xp ≠ [] := (by simpa using hA); simp [h1, hC])))
            clear HE2
            refine wp_region_held_drew (S := (fun w' => ((Instr.loadAt 9 (.pointer (some ⟨b3, 0, none⟩))).run Tryd.prog w' = .ok (.string ⟨xp.toArray⟩) w') ∧ ((Instr.loadAt 4 (.pointer (some ⟨b3, 1, none⟩))).run Tryd.prog w' = .ok (.bool false) w') ∧ ((Instr.loadAt 9 (.pointer (some ⟨b3, 2, none⟩))).run Tryd.prog w' = .ok (.string ⟨xb.toArray⟩) w') ∧ ((Instr.loadAt 37 (.pointer (some ⟨b2, 0, none⟩))).run Tryd.prog w' = .ok (.agg [.slice ao L.length c].toArray) w'))) (by kernel_rfl) ⟨(atVq hE.drew), (atVq hE.drew), (atVq hE.drew), (atWq hE.drew Tryd.isAgg37 Tryd.sizeOf37)⟩ (fun hS => ?_)
            refine tV 0 hS ?_; refine tL 1 hS ?_; refine tV 2 hS ?_; refine tV 3 hS ?_; refine tV 4 hS ?_; refine tL 5 hS ?_; refine tV 6 hS ?_; refine tU 7 hS ?_; refine tU 8 hS ?_; refine tU 9 hS ?_; refine tV 10 hS ?_; refine tV 11 hS ?_; refine tV 12 hS ?_; refine tL 13 hS ?_; refine tV 14 hS ?_; refine tL 15 hS ?_
            refine tO 16 (fun K hK => ?_)
            (go_simp; refine (HAt.out _ _ sfx hE.drew).mono ?_; rintro e w3 ⟨v, rfl, rfl, hA1⟩)
            refine tK hK ⟨(atVq hA1), (atVq hA1), (atVq hA1), (atWq hA1 Tryd.isAgg37 Tryd.sizeOf37)⟩ (fun hS => ?_); clear hK K
            refine tV 17 hS ?_; refine tV 18 hS ?_; refine tV 19 hS ?_; refine tL 20 hS ?_; refine tV 21 hS ?_; refine tL 22 hS ?_
            refine tO 23 (fun K hK => ?_)
            (go_simp; refine (HPa.out _ _ hA1).mono ?_; rintro e w4 ⟨v, rfl, rfl, hA2⟩)
            refine tK hK ⟨(atVq hA2), (atVq hA2), (atVq hA2), (atWq hA2 Tryd.isAgg37 Tryd.sizeOf37)⟩ (fun hS => ?_); clear hK K
            refine tO 24 (fun K hK => ?_)
            (go_simp; refine (HDi.out _ _ sfx hA2).mono ?_; rintro e w5 ⟨v, rfl, rfl, hA3⟩)
            refine tK hK ⟨(atVq hA3), (atVq hA3), (atVq hA3), (atWq hA3 Tryd.isAgg37 Tryd.sizeOf37)⟩ (fun hS => ?_); clear hK K
            refine tV 25 hS ?_; refine tV 26 hS ?_
            refine wpAnyH_done (by kernel_rfl) ?_ _
            replace hE := hA3
            clear hS
            try clear hA1
            try clear hA2
            try clear hA3
            cases hG : decide ((8192 : Int) < (xb.length : Int)) with
            | true =>
              have hG2 := of_decide_eq_true hG
              have HB := SL.hid (show addE L _ = 6 ∧ (6 : Int) ≠ 0 from ⟨HE3.out.trans (if_pos (.inl (by omega))), by decide⟩)
              try clear hG2
              try clear h62
              go_wp2
              refine wp_region_held_drew (S := (fun w' => ((Instr.loadAt 9 (.pointer (some ⟨b3, 0, none⟩))).run Tryd.prog w' = .ok (.string ⟨xp.toArray⟩) w') ∧ ((Instr.loadAt 9 (.pointer (some ⟨b3, 2, none⟩))).run Tryd.prog w' = .ok (.string ⟨xb.toArray⟩) w') ∧ ((Instr.loadAt 37 (.pointer (some ⟨b2, 0, none⟩))).run Tryd.prog w' = .ok (.agg [.slice ao L.length c].toArray) w'))) (by kernel_rfl) ⟨(atVq hE.drew), (atVq hE.drew), (atWq hE.drew Tryd.isAgg37 Tryd.sizeOf37)⟩ (fun hS => ?_)
              refine tV 0 hS ?_; refine tL 1 hS ?_; refine tV 2 hS ?_; refine tV 3 hS ?_; refine tV 4 hS ?_; refine tU 5 hS ?_; refine tU 6 hS ?_; refine tU 7 hS ?_; refine tU 8 hS ?_; refine tU 9 hS ?_; refine tU 10 hS ?_; refine tU 11 hS ?_; refine tV 12 hS ?_
              refine wpAnyH_done (by kernel_rfl) ?_ _
              replace hE := hE.drew
              clear hS
              clear HE3
              go_wp2_with (first
                | go_skip
                | (refine lwX (t := 37) hE Tryd.isAgg37 Tryd.sizeOf37 ?_)
                | (refine swX (t := 37) hE [.slice ao L.length c] Tryd.sizeOf37 ?_; clear hE; intro w hE))
              refine bodyPost_ret (results_cell2 rfl hE 0 rfl rfl Tryd.isAgg37 Tryd.sizeOf37 rfl rfl) rfl ?_
              exact ⟨_, rfl, AddPost.bad HB.out (m := [_, _, _]) hE⟩
            | false =>
              have hG2 := of_decide_eq_false hG
              cases h6 : decide ((6 : Int) ≤ (ki.length : Int)) with
              | true =>
                have h62 := of_decide_eq_true h6
                have HB := SL.hid (show addE L _ = 6 ∧ (6 : Int) ≠ 0 from ⟨HE3.out.trans (if_pos (.inr (by omega))), by decide⟩)
                try clear hG2
                try clear h62
                go_wp2
                refine wp_region_held_drew (S := (fun w' => ((Instr.loadAt 9 (.pointer (some ⟨b3, 0, none⟩))).run Tryd.prog w' = .ok (.string ⟨xp.toArray⟩) w') ∧ ((Instr.loadAt 9 (.pointer (some ⟨b3, 2, none⟩))).run Tryd.prog w' = .ok (.string ⟨xb.toArray⟩) w') ∧ ((Instr.loadAt 37 (.pointer (some ⟨b2, 0, none⟩))).run Tryd.prog w' = .ok (.agg [.slice ao L.length c].toArray) w'))) (by kernel_rfl) ⟨(atVq hE.drew), (atVq hE.drew), (atWq hE.drew Tryd.isAgg37 Tryd.sizeOf37)⟩ (fun hS => ?_)
                refine tV 0 hS ?_; refine tL 1 hS ?_; refine tV 2 hS ?_; refine tV 3 hS ?_; refine tV 4 hS ?_; refine tL 5 hS ?_; refine tV 6 hS ?_; refine tL 7 hS ?_
                refine tO 8 (fun K hK => ?_)
                (go_simp; refine (HPa.out _ _ hE.drew).mono ?_; rintro e w4 ⟨v, rfl, rfl, hA1⟩)
                refine tK hK ⟨(atVq hA1), (atVq hA1), (atWq hA1 Tryd.isAgg37 Tryd.sizeOf37)⟩ (fun hS => ?_); clear hK K
                refine tO 9 (fun K hK => ?_)
                (go_simp; refine (HKi.out _ _ sfx hA1).mono ?_; rintro e w5 ⟨v, rfl, ka, kc, rfl, hA2⟩)
                refine tK hK ⟨(atVq hA2), (atVq hA2), (atWq hA2 Tryd.isAgg37 Tryd.sizeOf37)⟩ (fun hS => ?_); clear hK K
                refine tV 10 hS ?_; refine tV 11 hS ?_; refine tV 12 hS ?_
                refine wpAnyH_done (by kernel_rfl) ?_ _
                replace hE := hA2.tail
                clear hS
                try clear hA1
                try clear hA2
                try clear hA3
                clear HE3
                go_wp2_with (first
                  | go_skip
                  | (refine lwX (t := 37) hE Tryd.isAgg37 Tryd.sizeOf37 ?_)
                  | (refine swX (t := 37) hE [.slice ao L.length c] Tryd.sizeOf37 ?_; clear hE; intro w hE))
                refine bodyPost_ret (results_cell2 rfl hE 0 rfl rfl Tryd.isAgg37 Tryd.sizeOf37 rfl rfl) rfl ?_
                exact ⟨_, rfl, AddPost.bad HB.out (m := [_, _, _]) hE⟩
              | false =>
                have h62 := of_decide_eq_false h6
                have HB := SL.hid (show addE L _ = 0 from HE3.out.trans (if_neg (by omega)))
                try clear hG2
                try clear h62
                go_wp2
                refine wp_region_held_drew (S := (fun w' => ((Instr.loadAt 9 (.pointer (some ⟨b3, 0, none⟩))).run Tryd.prog w' = .ok (.string ⟨xp.toArray⟩) w') ∧ ((Instr.loadAt 9 (.pointer (some ⟨b3, 2, none⟩))).run Tryd.prog w' = .ok (.string ⟨xb.toArray⟩) w') ∧ ((Instr.loadAt 37 (.pointer (some ⟨b2, 0, none⟩))).run Tryd.prog w' = .ok (.agg [.slice ao L.length c].toArray) w'))) (by kernel_rfl) ⟨(atVq hE.drew), (atVq hE.drew), (atWq hE.drew Tryd.isAgg37 Tryd.sizeOf37)⟩ (fun hS => ?_)
                refine tV 0 hS ?_; refine tL 1 hS ?_; refine tV 2 hS ?_; refine tV 3 hS ?_; refine tV 4 hS ?_; refine tL 5 hS ?_; refine tV 6 hS ?_; refine tL 7 hS ?_
                refine tO 8 (fun K hK => ?_)
                (go_simp; refine (HPa.out _ _ hE.drew).mono ?_; rintro e w4 ⟨v, rfl, rfl, hA1⟩)
                refine tK hK ⟨(atVq hA1), (atVq hA1), (atWq hA1 Tryd.isAgg37 Tryd.sizeOf37)⟩ (fun hS => ?_); clear hK K
                refine tO 9 (fun K hK => ?_)
                (go_simp; refine (HKi.out _ _ sfx hA1).mono ?_; rintro e w5 ⟨v, rfl, ka, kc, rfl, hA2⟩)
                refine tK hK ⟨(atVq hA2), (atVq hA2), (atWq hA2 Tryd.isAgg37 Tryd.sizeOf37)⟩ (fun hS => ?_); clear hK K
                refine tV 10 hS ?_; refine tV 11 hS ?_; refine tV 12 hS ?_
                refine wpAnyH_done (by kernel_rfl) ?_ _
                replace hE := hA2.tail
                clear hS
                try clear hA1
                try clear hA2
                try clear hA3
                clear HE3
                go_wp2
                refine wp_region_held_drew (S := (fun w' => ((Instr.loadAt 27 (.pointer (some ⟨b2, 0, none⟩))).run Tryd.prog w' = .ok (.slice ao L.length c) w') ∧ ((Instr.loadAt 69 (.pointer (some ⟨b3, 0, none⟩))).run Tryd.prog w' = .ok (.agg [.string ⟨xp.toArray⟩, .bool false, .string ⟨xb.toArray⟩].toArray) w'))) (by kernel_rfl) ⟨(atVq hE.drew), (atWq hE.drew Tryd.isAgg69 Tryd.sizeOf69)⟩ (fun hS => ?_)
                refine tV 0 hS ?_; refine tL 1 hS ?_; refine tL 3 hS ?_
                refine wpAnyH_ready (rs := [2, 4]) (by kernel_rfl) (by simp) ?_
                refine (AllReadyH.cons (o := ⟨some 62, .call { callee := .builtin .append, args := #[.const (.slice none 0 0), .tmp 61], argTypes := #[27, 27] }, _, _, _, none⟩) rfl (fun K hK => ?_) (AllReadyH.cons (o := ⟨some 64, .buildSlice 27 1 #[(0, .tmp 63)], _, _, _, none⟩) rfl (fun K hK => ?_) AllReadyH.nil))
                focus
                  ((first | refine step_appendNil hB rfl (by rfl) (by rfl) (by rfl) Tryd.underlying27 info_en (by decide) (hk _ (hB.suf sfx)) (enC_flat_len L) (flat_one L) (by omega) (by omega) ?_ | refine step_appendNil hE.drew rfl (by rfl) (by rfl) (by rfl) Tryd.underlying27 info_en (by decide) (hk _ (hE.drew.suf sfx)) (enC_flat_len L) (flat_one L) (by omega) (by omega) ?_); intro a1 c1 w6 hA)
                  refine tK hK ⟨(atVq hA), (atWq hA Tryd.isAgg69 Tryd.sizeOf69)⟩ (fun hS => ?_); clear hK K
                  refine tO 4 (fun K hK => ?_)
                  ((first | refine step_build1 hA rfl (by rfl) (xs := enC ⟨xp, false, xb⟩) (by rfl) Tryd.underlying27 zs_en Tryd.sizeOf69 (by decide) (by decide) rfl ?_ | refine step_build1 hE.drew rfl (by rfl) (xs := enC ⟨xp, false, xb⟩) (by rfl) Tryd.underlying27 zs_en Tryd.sizeOf69 (by decide) (by decide) rfl ?_); intro b9 w7 hB)
                  refine tK hK ⟨(atVq hB), (atWq hB Tryd.isAgg69 Tryd.sizeOf69)⟩ (fun hS => ?_); clear hK K
                  refine tO 5 (fun K hK => ?_)
                  ((first | refine step_appendG hB 1 rfl rfl (by rfl) (by rfl) (by rfl) Tryd.underlying27 info_en (by decide) (m := 1) (news := enC ⟨xp, false, xb⟩) (reads_pt hB 0 rfl (off := 0) (fun j u hu => by rw [Nat.zero_add, List.getElem?_toArray]; exact hu)) rfl (enC_one _) (by omega) (by omega) ?_ | refine step_appendG hA 0 rfl rfl (by rfl) (by rfl) (by rfl) Tryd.underlying27 info_en (by decide) (m := 1) (news := enC ⟨xp, false, xb⟩) (reads_pt hA 1 rfl (off := 0) (fun j u hu => by rw [Nat.zero_add, List.getElem?_toArray]; exact hu)) rfl (enC_one _) (by omega) (by omega) ?_); intro a2 c2 w8 hC; simp only [List.set_cons_zero, List.set_cons_succ] at hC)
                  refine tK hK ⟨(atVq hC), (atWq hC Tryd.isAgg69 Tryd.sizeOf69)⟩ (fun hS => ?_); clear hK K
                  refine tV 6 hS ?_
                  refine tO 7 (fun K hK => ?_)
                  (refine step_storeW hC 2 rfl (by rfl) (by rfl) (by rfl) (xs := [.slice a2 (L.length + 1) c2]) (by rfl) Tryd.sizeOf37 rfl (by simp [Value.oneCell']) rfl ?_; intro w9 hD; simp only [List.set_cons_zero, List.set_cons_succ] at hD)
                  refine tK hK ⟨(atVq hD), (atWq hD Tryd.isAgg69 Tryd.sizeOf69)⟩ (fun hS => ?_); clear hK K
                  refine tV 8 hS ?_
                  refine wpAnyH_done (by kernel_rfl) ?_ _
                rotate_right
                focus
                  ((first | refine step_build1 hA rfl (by rfl) (xs := enC ⟨xp, false, xb⟩) (by rfl) Tryd.underlying27 zs_en Tryd.sizeOf69 (by decide) (by decide) rfl ?_ | refine step_build1 hE.drew rfl (by rfl) (xs := enC ⟨xp, false, xb⟩) (by rfl) Tryd.underlying27 zs_en Tryd.sizeOf69 (by decide) (by decide) rfl ?_); intro b9 w7 hB)
                  refine tK hK ⟨(atVq hB), (atWq hB Tryd.isAgg69 Tryd.sizeOf69)⟩ (fun hS => ?_); clear hK K
                  refine tO 2 (fun K hK => ?_)
                  ((first | refine step_appendNil hB rfl (by rfl) (by rfl) (by rfl) Tryd.underlying27 info_en (by decide) (hk _ (hB.suf sfx)) (enC_flat_len L) (flat_one L) (by omega) (by omega) ?_ | refine step_appendNil hE.drew rfl (by rfl) (by rfl) (by rfl) Tryd.underlying27 info_en (by decide) (hk _ (hE.drew.suf sfx)) (enC_flat_len L) (flat_one L) (by omega) (by omega) ?_); intro a1 c1 w6 hA)
                  refine tK hK ⟨(atVq hA), (atWq hA Tryd.isAgg69 Tryd.sizeOf69)⟩ (fun hS => ?_); clear hK K
                  refine tO 5 (fun K hK => ?_)
                  ((first | refine step_appendG hB 1 rfl rfl (by rfl) (by rfl) (by rfl) Tryd.underlying27 info_en (by decide) (m := 1) (news := enC ⟨xp, false, xb⟩) (reads_pt hB 0 rfl (off := 0) (fun j u hu => by rw [Nat.zero_add, List.getElem?_toArray]; exact hu)) rfl (enC_one _) (by omega) (by omega) ?_ | refine step_appendG hA 0 rfl rfl (by rfl) (by rfl) (by rfl) Tryd.underlying27 info_en (by decide) (m := 1) (news := enC ⟨xp, false, xb⟩) (reads_pt hA 1 rfl (off := 0) (fun j u hu => by rw [Nat.zero_add, List.getElem?_toArray]; exact hu)) rfl (enC_one _) (by omega) (by omega) ?_); intro a2 c2 w8 hC; simp only [List.set_cons_zero, List.set_cons_succ] at hC)
                  refine tK hK ⟨(atVq hC), (atWq hC Tryd.isAgg69 Tryd.sizeOf69)⟩ (fun hS => ?_); clear hK K
                  refine tV 6 hS ?_
                  refine tO 7 (fun K hK => ?_)
                  (refine step_storeW hC 2 rfl (by rfl) (by rfl) (by rfl) (xs := [.slice a2 (L.length + 1) c2]) (by rfl) Tryd.sizeOf37 rfl (by simp [Value.oneCell']) rfl ?_; intro w9 hD; simp only [List.set_cons_zero, List.set_cons_succ] at hD)
                  refine tK hK ⟨(atVq hD), (atWq hD Tryd.isAgg69 Tryd.sizeOf69)⟩ (fun hS => ?_); clear hK K
                  refine tV 8 hS ?_
                  refine wpAnyH_done (by kernel_rfl) ?_ _
                all_goals
                  clear hC hB hA hE hS
                  go_wp2
                  refine bodyPost_ret (results_cell2 rfl hD 2 rfl rfl Tryd.isAgg37 Tryd.sizeOf37 rfl rfl) rfl ?_
                  exact ⟨_, rfl, AddPost.good HB.out (m := [_, _, _, _, _]) (fun lk w h => by first | exact reads_row h 0 rfl | exact reads_row h 1 rfl) hD⟩
end Go.Proofs.YtehfbokkcamliaaDoor
namespace Go.SL
end Go.SL
namespace Go.Proofs.YtehfbokkcamliaaDoor
open Go.RowKit Go.SL

theorem add_nodup {L : List En} {x : En} (hn : (L.map En.path).Nodup) (h : addE L x = 0) : ((L ++ [x]).map En.path).Nodup := by
  have hh : hasD L x.path = false := by
    rw [addE] at h
    split at h
    · rename_i h1; exact absurd h h1
    · split at h
      · cases h
      · rename_i h2
        cases hx : hasD L x.path with
        | false => rfl
        | true => exact absurd (.inr (.inr (.inl hx))) h2
  rw [List.map_append, List.nodup_append]
  refine ⟨hn, by simp, ?_⟩
  intro a ha b hb e
  subst e
  simp only [List.map_cons, List.map_nil, List.mem_singleton] at hb
  subst hb
  obtain ⟨y, hy, hp⟩ := List.mem_map.1 ha
  rw [hasD, List.any_eq_false] at hh
  exact hh y hy (by simpa using hp)
def BdPost (es : List En) (l : List HProp) (v : Value) (w' : World) : Prop :=
  ∃ (m : List HProp) (a : Option Addr) (c : Nat), v = .tuple #[.agg #[.slice a (buildD es).2.length c], .int .i64 (buildD es).1] ∧ Ent (m ++ l) w' ∧ Knows (m ++ l) (reads (.slice a (buildD es).2.length c) (buildD es).2.length ((buildD es).2.flatMap enC))
def BdRel (es : List En) (b2 b4 : Nat) (l : List HProp) (i : Value) (wr : World) : Prop :=
  ∃ (k : Nat) (m : List HProp) (a : Option Addr) (c : Nat) (L : List En), k ≤ es.length ∧ i = .int .i64 k ∧ L = es.take k ∧ buildD es = goD L (es.drop k) ∧ (L.map En.path).Nodup ∧
    Knows (m ++ l) (reads (.slice a L.length c) L.length (L.flatMap enC)) ∧
    Ent (pt b4 (.cells #[.slice a L.length c] 37) :: pt b2 (.cells #[.slice none 0 0] 37) :: (m ++ l)) wr
set_option maxRecDepth 100000 in
set_option maxHeartbeats 8000000 in
attribute [-go_sem] Instr.loadAt in
theorem rBuild_any {es : List En} (hn : es.length ≤ 1000) (hb : ∀ x ∈ es, x.path.length ≤ 1000000 ∧ x.data.length ≤ 1000000) {ao : Option Addr} {c : Nat} {l : List HProp} {w : World} (hk : Knows l (reads (.slice ao es.length c) es.length (es.flatMap enC))) (hE : Ent l w) :
    Calls Tryd.prog 12 #[.slice ao es.length c] w (Ret (BdPost es l)) := by
  cases h64 : decide ((64 : Int) < (es.length : Int)) with
  | true =>
    have hT : buildD es = (6, []) := by rw [buildD, if_pos (by have := of_decide_eq_true h64; omega)]
    have HT := SL.hid hT
    clear hT
    go_enter Tryd.func12, Tryd.ntmps12
    go_wp2_with (first
      | go_skip
      | (refine alX hE ?_; clear hE; intro b2 w hE)
      | (refine swX (t := 37) hE [.slice none 0 0] Tryd.sizeOf37 ?_; clear hE; intro w hE))
    refine bodyPost_ret (results_cell2 rfl hE 0 rfl rfl Tryd.isAgg37 Tryd.sizeOf37 rfl rfl) rfl ?_
    refine ⟨_, rfl, [_], none, 0, ?_, hE, ?_⟩
    · rw [HT.out]; rfl
    · rw [HT.out]; exact fun _ _ => reads_nil 0 0 rfl _
  | false =>
    have HT0 := SL.hid (show buildD es = goD [] es by rw [buildD, if_neg (by have := of_decide_eq_false h64; omega)])
    have Tok := SL.hid True.intro
    go_enter Tryd.func12, Tryd.ntmps12
    go_wp2_with (first
      | go_skip
      | ((with_reducible (show Go.wpList _ _ _ (Go.Oper.mk _ (.alloc _) _ _ _ _ :: _) _ _)); clear Tok; (refine alX hE ?_; clear hE; intro b2 w hE))
      | (refine alX hE ?_; clear hE; intro b4 w hE))
    clear h64
    go_loopw [5] (fun i wr => BdRel es b2 b4 l i wr) (fun i _ => es.length - (intOf i).toNat)
    case atStart => exact ⟨0, [], none, 0, [], Nat.zero_le _, rfl, rfl, HT0.out, by simp, fun _ _ => reads_nil 0 0 rfl _, hE⟩
    case round =>
      clear hE HT0
      obtain ⟨k, m, a, ca, L, hkn, rfl, hL, hB, hnd, hkL, hE⟩ := hrel
      by_cases hlt : k < es.length
      · obtain ⟨b, off, rfl, hz⟩ := en_at (hk _ hE.tail.tail.drop) hlt
        clear hz
        have f0 := SL.hid (show ∀ w, Ent l w → _ from fun w h => (load_en (hk w h) hlt).1)
        have hx := hb _ (List.getElem_mem hlt)
        have Htk := SL.hid (show es.take (k + 1) = L ++ [es[k]] from by rw [hL]; exact List.take_succ_eq_append_getElem hlt)
        have hdk : es.drop k = es[k] :: es.drop (k + 1) := List.drop_eq_getElem_cons hlt
        rw [hdk, goD] at hB
        have HB := SL.hid hB
        have hLl : L.length ≤ 1000 := by rw [hL, List.length_take]; omega
        have hLb : ∀ x ∈ L, x.path.length ≤ 1000000 := fun x hx => (hb x (List.mem_of_mem_take (hL ▸ hx))).1
        have HN := SL.hid (fun (h : addE L es[k] = 0) => add_nodup (x := es[k]) hnd h)
        have HAd := SL.hid (fun (F : List HProp) (w : World) (h : Ent (F ++ (m ++ l)) w) => add_any (xp := es[k].path) (xd := es[k].dir) (xb := es[k].data) hLl hLb hnd hx.1 hx.2 (hkL.append (m := F)) h)
        have HkL := SL.hid hkL
        clear hB hdk hx hL hLb hnd hkL
        generalize es[k] = x at *
        obtain ⟨xp, xd, xb⟩ := x
        simp only at f0 HAd
        have HAd2 := SL.hid (fun (F : List HProp) (w : World) (h : Ent (F ++ (m ++ l)) w) =>
          show Calls Tryd.prog 25 #[.agg #[.slice a L.length ca], .agg #[.string ⟨xp.toArray⟩, .bool xd, .string ⟨xb.toArray⟩]] w (Ret fun v w' => ∃ (m2 : List HProp) (a2 : Option Addr) (c2 : Nat), v = .tuple #[.agg #[.slice a2 (addL L ⟨xp, xd, xb⟩).length c2], .int .i64 (addE L ⟨xp, xd, xb⟩)] ∧ Ent (F ++ (m2 ++ (m ++ l))) w' ∧
            Knows (m2 ++ (m ++ l)) (reads (.slice a2 (addL L ⟨xp, xd, xb⟩).length c2) (addL L ⟨xp, xd, xb⟩).length ((addL L ⟨xp, xd, xb⟩).flatMap enC))) from by
            refine (HAd.out F w h).mono ?_
            rintro e w' ⟨v, rfl, m2, a2, c2, rfl, h1, h2⟩
            exact ⟨_, rfl, m2, a2, c2, rfl, h1.swap, h2 _ HkL.out⟩)
        have HL2 := SL.hid (show addE L ⟨xp, xd, xb⟩ = 0 → addL L ⟨xp, xd, xb⟩ = L ++ [⟨xp, xd, xb⟩] from fun h => by rw [addL, if_pos h])
        clear HAd
        generalize addE L ⟨xp, xd, xb⟩ = er at *
        generalize addL L ⟨xp, xd, xb⟩ = L2 at *
        go_wp2
        refine wp_region_held_drew (S := (fun w' => ((Instr.loadAt 37 (.pointer (some ⟨b4, 0, none⟩))).run Tryd.prog w' = .ok (.agg [.slice a L.length ca].toArray) w') ∧ ((Instr.loadAt 69 (.pointer (some ⟨b, off + k * 3, none⟩))).run Tryd.prog w' = .ok (.agg #[.string ⟨xp.toArray⟩, .bool xd, .string ⟨xb.toArray⟩]) w'))) (by kernel_rfl) ⟨(atWq hE.drew Tryd.isAgg37 Tryd.sizeOf37), (f0.out _ (by first | exact (hE.drew.tail.tail).drop | exact hE.drew.tail.tail.tail.drop | exact hE.drew.tail.tail.drop.drop | exact hE.drew.tail.tail.tail.drop.drop))⟩ (fun hS => ?_)
        refine tL 0 hS ?_; refine tV 1 hS ?_; refine tV 2 hS ?_; refine tV 3 hS ?_; refine tL 4 hS ?_
        refine wpAnyH_ready (rs := [5, 9]) (by kernel_rfl) (by simp) ?_
        refine (AllReadyH.cons (o := ⟨some 24, .call { callee := .value (.func 25), args := #[.tmp 19, .tmp 23], argTypes := #[37, 69] }, _, _, _, none⟩) rfl (fun K hK => ?_) (AllReadyH.cons (o := ⟨some 6, .alloc 37, _, _, _, none⟩) rfl (fun K hK => ?_) AllReadyH.nil))
        focus
          (go_simp; (first | have H := HAd2.out [_, _, _] _ hAl | have H := HAd2.out [_, _] _ hE.drew); refine H.mono ?_; clear H; rintro e w3 ⟨v, rfl, m2, a2, c2, rfl, hA, hK2⟩; simp only [List.cons_append, List.nil_append] at hA)
          refine tK hK ⟨(atWq hA Tryd.isAgg37 Tryd.sizeOf37), (f0.out _ (by first | exact (hA.tail.tail).drop | exact hA.tail.tail.tail.drop | exact hA.tail.tail.drop.drop | exact hA.tail.tail.tail.drop.drop))⟩ (fun hS => ?_); clear hK K
          refine tV 6 hS ?_; refine tV 7 hS ?_; refine tV 8 hS ?_
          refine tO 9 (fun K hK => ?_)
          (go_simp; (first | have hAl := hA.alloc (.cells #[.slice none 0 0] 37) | have hAl := hE.drew.alloc (.cells #[.slice none 0 0] 37)))
          refine tK hK ⟨(atWq hAl Tryd.isAgg37 Tryd.sizeOf37), (f0.out _ (by first | exact (hAl.tail.tail).drop | exact hAl.tail.tail.tail.drop | exact hAl.tail.tail.drop.drop | exact hAl.tail.tail.tail.drop.drop))⟩ (fun hS => ?_); clear hK K
          refine tO 10 (fun K hK => ?_)
          ((first | refine step_storeW hAl 0 rfl (by rfl) (by rfl) (by rfl) (xs := [.slice a2 L2.length c2]) (by rfl) Tryd.sizeOf37 rfl (by simp [Value.oneCell']) rfl ?_ | refine step_storeW hA 0 rfl (by rfl) (by rfl) (by rfl) (xs := [.slice a2 L2.length c2]) (by rfl) Tryd.sizeOf37 rfl (by simp [Value.oneCell']) rfl ?_); intro w7 hEs; simp only [List.set_cons_zero, List.set_cons_succ] at hEs)
          refine tK hK ⟨(atWq hEs Tryd.isAgg37 Tryd.sizeOf37), (f0.out _ (by first | exact (hEs.tail.tail).drop | exact hEs.tail.tail.tail.drop | exact hEs.tail.tail.drop.drop | exact hEs.tail.tail.tail.drop.drop))⟩ (fun hS => ?_); clear hK K
          refine tV 11 hS ?_
          refine wpAnyH_done (by kernel_rfl) ?_ _
        rotate_right
        focus
          (go_simp; (first | have hAl := hA.alloc (.cells #[.slice none 0 0] 37) | have hAl := hE.drew.alloc (.cells #[.slice none 0 0] 37)))
          refine tK hK ⟨(atWq hAl Tryd.isAgg37 Tryd.sizeOf37), (f0.out _ (by first | exact (hAl.tail.tail).drop | exact hAl.tail.tail.tail.drop | exact hAl.tail.tail.drop.drop | exact hAl.tail.tail.tail.drop.drop))⟩ (fun hS => ?_); clear hK K
          refine tO 5 (fun K hK => ?_)
          (go_simp; (first | have H := HAd2.out [_, _, _] _ hAl | have H := HAd2.out [_, _] _ hE.drew); refine H.mono ?_; clear H; rintro e w3 ⟨v, rfl, m2, a2, c2, rfl, hA, hK2⟩; simp only [List.cons_append, List.nil_append] at hA)
          refine tK hK ⟨(atWq hA Tryd.isAgg37 Tryd.sizeOf37), (f0.out _ (by first | exact (hA.tail.tail).drop | exact hA.tail.tail.tail.drop | exact hA.tail.tail.drop.drop | exact hA.tail.tail.tail.drop.drop))⟩ (fun hS => ?_); clear hK K
          refine tV 6 hS ?_; refine tV 7 hS ?_; refine tV 8 hS ?_
          refine tO 10 (fun K hK => ?_)
          ((first | refine step_storeW hAl 0 rfl (by rfl) (by rfl) (by rfl) (xs := [.slice a2 L2.length c2]) (by rfl) Tryd.sizeOf37 rfl (by simp [Value.oneCell']) rfl ?_ | refine step_storeW hA 0 rfl (by rfl) (by rfl) (by rfl) (xs := [.slice a2 L2.length c2]) (by rfl) Tryd.sizeOf37 rfl (by simp [Value.oneCell']) rfl ?_); intro w7 hEs; simp only [List.set_cons_zero, List.set_cons_succ] at hEs)
          refine tK hK ⟨(atWq hEs Tryd.isAgg37 Tryd.sizeOf37), (f0.out _ (by first | exact (hEs.tail.tail).drop | exact hEs.tail.tail.tail.drop | exact hEs.tail.tail.drop.drop | exact hEs.tail.tail.tail.drop.drop))⟩ (fun hS => ?_); clear hK K
          refine tV 11 hS ?_
          refine wpAnyH_done (by kernel_rfl) ?_ _
        all_goals
          first
            | (replace hE : Ent (pt wr.heap.size (.cells #[.slice a2 L2.length c2] 37) :: pt b4 (.cells #[.slice a L.length ca] 37) :: pt b2 (.cells #[.slice none 0 0] 37) :: (m2 ++ (m ++ l))) w7 := hEs; generalize wr.heap.size = b6 at *)
            | (replace hE : Ent (pt w3.heap.size (.cells #[.slice a2 L2.length c2] 37) :: pt b4 (.cells #[.slice a L.length ca] 37) :: pt b2 (.cells #[.slice none 0 0] 37) :: (m2 ++ (m ++ l))) w7 := hEs; generalize w3.heap.size = b6 at *)
          clear hEs hS
          try clear hAl
          try clear hA
          cases he : (er != 0) with
          | true =>
            have HT := SL.hid (show buildD es = (er, []) from HB.out.trans (if_neg (by simpa using he)))
            clear HB HN HL2 HAd2 Htk
            go_wp2_with (first
              | go_skip
              | (refine swX (t := 37) hE [.slice none 0 0] Tryd.sizeOf37 ?_; clear hE; intro w hE))
            refine bodyPost_ret (results_cell2 rfl hE 2 rfl rfl Tryd.isAgg37 Tryd.sizeOf37 rfl rfl) rfl ?_
            refine ⟨_, rfl, pt b6 (.cells #[.slice a2 L2.length c2] 37) :: pt b4 (.cells #[.slice a L.length ca] 37) :: pt b2 (.cells #[.slice none 0 0] 37) :: (m2 ++ m), none, 0, ?_, ?_, ?_⟩
            · rw [HT.out]; rfl
            · simp only [List.cons_append, List.append_assoc]; exact hE
            · rw [HT.out]; exact fun _ _ => reads_nil 0 0 rfl _
          | false =>
            obtain rfl : er = 0 := by simpa using he
            obtain rfl := HL2.out rfl
            have HT := SL.hid (HB.out.trans (if_pos rfl))
            have HN2 := SL.hid (HN.out rfl)
            clear HB HN HL2 HAd2 he
            generalize hL3 : L ++ [(⟨xp, xd, xb⟩ : En)] = L3 at *
            have HL3 := SL.hid hL3
            clear hL3
            go_wp2_with (first
              | go_skip
              | (refine lwX (t := 37) hE Tryd.isAgg37 Tryd.sizeOf37 ?_)
              | (refine swX (t := 37) hE [.slice a2 L3.length c2] Tryd.sizeOf37 ?_; clear hE; intro w hE))
            go_roundw
            case rel =>
              refine ⟨k + 1, m2 ++ m, a2, c2, L3, hlt, by first | rfl | simp, by rw [Htk.out], HT.out, HN2.out, ?_, ?_⟩
              · rw [List.append_assoc]; exact hK2
              · rw [List.append_assoc]; exact hE.tail
            case measure => simp [intOf] <;> omega
      · obtain rfl : k = es.length := by omega
        rw [List.drop_length] at hB
        have HT := SL.hid (show buildD es = (0, L) from hB)
        clear hB hL
        go_wp2_with (first
          | go_skip
          | (refine lwX (t := 37) hE Tryd.isAgg37 Tryd.sizeOf37 ?_)
          | (refine swX (t := 37) hE [.slice a L.length ca] Tryd.sizeOf37 ?_; clear hE; intro w hE))
        refine bodyPost_ret (results_cell2 rfl hE 1 rfl rfl Tryd.isAgg37 Tryd.sizeOf37 rfl rfl) rfl ?_
        refine ⟨_, rfl, pt b4 (.cells #[.slice a L.length ca] 37) :: pt b2 (.cells #[.slice a L.length ca] 37) :: m, a, ca, ?_, ?_, ?_⟩
        · rw [HT.out]; rfl
        · exact hE
        · rw [HT.out]; exact hkL.suf (List.suffix_append [_, _] _)
end Go.Proofs.YtehfbokkcamliaaDoor
namespace Go.Proofs.YtehfbokkcamliaaDoor
open Go.RowKit Go.SL

/-- may this one be picked as number k? -/
def Cand (S : List En) (k : Nat) (x : En) : Prop := ∀ h : 0 < k ∧ k - 1 < S.length, Op.bytesLess (S[k - 1]'h.2).path x.path = true
theorem rising_at {S : List En} (hr : Rising (S.map En.path)) {i j : Nat} (hij : i < j) (hj : j < S.length) : Op.bytesLess (S[i]'(by omega)).path S[j].path = true := by
  have := hr.of hij (by simpa using hj)
  simpa using this
theorem cand_iff {S : List En} (hr : Rising (S.map En.path)) {k m : Nat} (hk : k ≤ S.length) (hm : m < S.length) : Cand S k S[m] ↔ k ≤ m := by
  constructor
  · intro h
    rcases Nat.lt_or_ge m k with h1 | h1
    · have h2 := h ⟨by omega, by omega⟩
      rcases Nat.lt_or_eq_of_le (show m ≤ k - 1 by omega) with h3 | h3
      · rw [bl_asymm (rising_at hr h3 (by omega))] at h2; cases h2
      · subst h3
        rw [bl_irrefl] at h2; cases h2
    · exact h1
  · intro h h1
    exact rising_at hr (by omega) hm
theorem best_at {l S : List En} (hp : l.Perm S) (hr : Rising (S.map En.path)) {k b : Nat} (hk : k < S.length) (hb : b < l.length) (hc : Cand S k l[b])
    (hmin : ∀ (j : Nat) (h : j < l.length), Cand S k l[j] → Op.bytesLess l[j].path l[b].path = false) : l[b] = S[k] := by
  obtain ⟨m, hm, e⟩ := List.getElem_of_mem (hp.mem_iff.1 (List.getElem_mem hb))
  obtain ⟨j, hj, e2⟩ := List.getElem_of_mem (hp.mem_iff.2 (List.getElem_mem hk))
  rw [← e] at hc
  have h1 := (cand_iff hr (by omega) hm).1 hc
  have h2 := hmin j hj (by rw [e2]; exact (cand_iff hr (by omega) hk).2 (Nat.le_refl _))
  rw [e2, ← e] at h2
  rcases Nat.lt_or_eq_of_le h1 with h3 | h3
  · rw [rising_at hr h3 hm] at h2; cases h2
  · subst h3; exact e.symm
theorem some_cand {l S : List En} (hp : l.Perm S) (hr : Rising (S.map En.path)) {k : Nat} (hk : k < S.length) : ∃ (j : Nat) (h : j < l.length), Cand S k l[j] := by
  obtain ⟨j, hj, e2⟩ := List.getElem_of_mem (hp.mem_iff.2 (List.getElem_mem hk))
  exact ⟨j, hj, by rw [e2]; exact (cand_iff hr (by omega) hk).2 (Nat.le_refl _)⟩
end Go.Proofs.YtehfbokkcamliaaDoor
namespace Go.Proofs.YtehfbokkcamliaaDoor
open Go.RowKit Go.SL
theorem cells_of {w : World} {b n c : Nat} {xs : List Value} (h : reads (.slice (some ⟨b, 0, none⟩) n c) n xs w) (j : Nat) (u : Value) (hu : xs[j]? = some u) : w.cell? ⟨b, j, none⟩ = some u := by
  obtain ⟨ao, c', e, _, h2⟩ := h
  cases e
  have := h2 _ rfl j u hu
  rwa [Addr.add_lit, Nat.zero_add] at this

theorem kd_at {L : List En} {p : List UInt8} {j : Nat} (hj : j < (kidsI L p).length) : ∃ (h1 : (kidsI L p)[j] < L.length) (h2 : j < (kidsD L p).length), L[(kidsI L p)[j]] = (kidsD L p)[j] := by
  have h1 : (kidsI L p)[j] < L.length := kidsI_lt (List.getElem_mem hj)
  have h2 : j < (kidsD L p).length := by rw [← kidsI_len]; exact hj
  refine ⟨h1, h2, ?_⟩
  have e := kidsI_map L p ⟨[], false, []⟩
  have : (kidsD L p)[j]? = some (L.getD (kidsI L p)[j] ⟨[], false, []⟩) := by rw [← e, List.getElem?_map, List.getElem?_eq_getElem hj]; rfl
  rw [List.getElem?_eq_getElem h2, List.getD_eq_getElem?_getD, List.getElem?_eq_getElem h1] at this
  exact (Option.some.inj this).symm
def outLen : Value → Nat | .slice _ n _ => n | _ => 0
/-- what is known of the least one so far -/
def Best (S D : List En) (k j : Nat) (v : Value) : Prop :=
  (v = .int .i64 (-1) ∧ ∀ (m : Nat) (h : m < D.length), m < j → ¬ Cand S k D[m]) ∨
  ∃ (b : Nat) (hb : b < D.length), b < j ∧ v = .int .i64 (b : Int) ∧ Cand S k D[b] ∧ ∀ (m : Nat) (h : m < D.length), m < j → Cand S k D[m] → Op.bytesLess D[m].path D[b].path = false
theorem Best.skip {S D : List En} {k j : Nat} {v : Value} (h : Best S D k j v) (hj : j < D.length) (hn : ¬ Cand S k D[j]) : Best S D k (j + 1) v := by
  rcases h with ⟨e, h⟩ | ⟨b, hb, hbj, e, hc, h⟩
  · refine .inl ⟨e, fun m hm hmj => ?_⟩
    rcases Nat.lt_or_eq_of_le (show m ≤ j by omega) with h1 | rfl
    · exact h m hm h1
    · exact hn
  · refine .inr ⟨b, hb, by omega, e, hc, fun m hm hmj => ?_⟩
    rcases Nat.lt_or_eq_of_le (show m ≤ j by omega) with h1 | rfl
    · exact h m hm h1
    · exact fun h' => absurd h' hn
theorem Best.first {S D : List En} {k j : Nat} (h : ∀ (m : Nat) (h : m < D.length), m < j → ¬ Cand S k D[m]) (hj : j < D.length) (hc : Cand S k D[j]) : Best S D k (j + 1) (.int .i64 (j : Int)) := by
  refine .inr ⟨j, hj, by omega, rfl, hc, fun m hm hmj => ?_⟩
  rcases Nat.lt_or_eq_of_le (show m ≤ j by omega) with h1 | rfl
  · exact fun h' => absurd h' (h m hm h1)
  · exact fun _ => bl_irrefl _
theorem Best.keep {S D : List En} {k j b : Nat} (hb : b < D.length) (hbj : b < j) (hc : Cand S k D[b]) (h : ∀ (m : Nat) (h : m < D.length), m < j → Cand S k D[m] → Op.bytesLess D[m].path D[b].path = false) (hj : j < D.length) (hl : Op.bytesLess D[j].path D[b].path = false) : Best S D k (j + 1) (.int .i64 (b : Int)) := by
  refine .inr ⟨b, hb, by omega, rfl, hc, fun m hm hmj => ?_⟩
  rcases Nat.lt_or_eq_of_le (show m ≤ j by omega) with h1 | rfl
  · exact h m hm h1
  · exact fun _ => hl
theorem Best.less {S D : List En} {k j b : Nat} (hb : b < D.length) (h : ∀ (m : Nat) (h : m < D.length), m < j → Cand S k D[m] → Op.bytesLess D[m].path D[b].path = false) (hj : j < D.length) (hc : Cand S k D[j]) (hl : Op.bytesLess D[j].path D[b].path = true) : Best S D k (j + 1) (.int .i64 (j : Int)) := by
  refine .inr ⟨j, hj, by omega, rfl, hc, fun m hm hmj hm2 => ?_⟩
  rcases Nat.lt_or_eq_of_le (show m ≤ j by omega) with h1 | rfl
  · have h2 := h m hm h1 hm2
    cases hx : Op.bytesLess D[m].path D[j].path with
    | false => rfl
    | true => rw [bl_trans hx hl] at h2; cases h2
  · exact bl_irrefl _
def SoPost (S : List En) (l : List HProp) (v : Value) (w' : World) : Prop := ∃ (a : Option Addr) (c : Nat) (m : List HProp), v = .slice a S.length c ∧ Ent (rowEn a c S :: (m ++ l)) w'
def SoRel (S : List En) (l : List HProp) (o : Value) (wr : World) : Prop :=
  ∃ (k : Nat) (a : Option Addr) (c : Nat), k ≤ S.length ∧ o = .slice a (S.take k).length c ∧ Ent (rowEn a c (S.take k) :: l) wr
def SiRel (S D : List En) (k : Nat) (l : List HProp) (v i : Value) (wr : World) : Prop :=
  ∃ j : Nat, j ≤ D.length ∧ i = .int .i64 j ∧ Best S D k j v ∧ Ent l wr
set_option maxRecDepth 100000 in
set_option maxHeartbeats 16000000 in
attribute [-go_sem] Instr.loadAt in
theorem Sorted_any {L S : List En} (hL : L.length ≤ 1000) (hb : ∀ x ∈ L, x.path.length ≤ 1000000) (p : List UInt8) (hS : (kidsD L p).Perm S) (hr : Rising (S.map En.path)) {ao : Option Addr} {c : Nat} {l : List HProp} {w : World} (hk : Knows l (reads (.slice ao L.length c) L.length (L.flatMap enC))) (hE : Ent l w) :
    Calls Tryd.prog 55 #[.agg #[.slice ao L.length c], .string ⟨p.toArray⟩] w (Ret (SoPost S l)) := by
  have HKi := SL.hid (fun (L' : List HProp) (w : World) (hs : l <:+ L') (h : Ent L' w) => kids_any (by omega) hb p (hk.suf hs) h)
  have HKD := SL.hid (fun (j : Nat) (h : j < (kidsI L p).length) => kd_at h)
  have hDn : (kidsD L p).length = (kidsI L p).length := (kidsI_len L p).symm
  have hSn := hS.length_eq
  have hle := kidsI_le L p
  have HS := SL.hid hS
  have Hr := SL.hid hr
  clear hS hr hb
  generalize kidsI L p = ki at *
  generalize kidsD L p = D at *
  have HDn := SL.hid hDn
  have HSn := SL.hid (hSn.symm.trans hDn)
  clear hDn hSn
  go_enter Tryd.func55, Tryd.ntmps55
  go_wp2_with (first
    | go_skip
    | (refine bxX hE ?_; clear hE; intro b2 w hE)
    | (refine lwX (t := 37) hE Tryd.isAgg37 Tryd.sizeOf37 ?_)
    | (go_at_call 52; refine (HKi.out _ _ (by repeat (first | exact List.suffix_refl _ | refine List.IsSuffix.trans ?_ (List.suffix_cons _ _) | refine List.IsSuffix.trans ?_ (List.suffix_append _ _))) hE).mono ?_; clear hE; rintro e w3 ⟨v, rfl, ak, ck, rfl, hE⟩))
  go_loopw [6] (fun o wr => SoRel S (rowN ak ck ki :: pt b2 (.cells #[.slice ao L.length c] 37) :: l) o wr) (fun o _ => S.length - outLen o)
  case atStart => exact ⟨0, none, 0, Nat.zero_le _, rfl, hE.nil _ _⟩
  case round =>
    clear hE
    obtain ⟨k, ar, cr, hkn, rfl, hE⟩ := hrel
    have htl : (S.take k).length = k := by rw [List.length_take]; omega
    simp only [rowEn, htl] at hE ⊢
    clear htl
    by_cases hlt : k < S.length
    · have hki : k < ki.length := by rw [← HSn.out]; exact hlt
      have hkI : (k : Int) < (ki.length : Int) := by omega
      obtain ⟨gk, rfl, _, _⟩ := hE.rowIs 1 rfl (by omega)
      have nk := SL.hid (fun (j : Nat) (hj : j < ki.length) (L' : List HProp) (w : World) (h : Ent (rowN (some ⟨gk, 0, none⟩) ck ki :: L') w) => show (Instr.loadAt 3 (.pointer (some ⟨gk, j, none⟩))).run Tryd.prog w = .ok (.int .i64 (ki[j] : Int)) w from
        atCell (cells_of (reads_row h 0 rfl) j (intv ki[j]) (by rw [List.getElem?_map, List.getElem?_eq_getElem hj]; rfl)) (by simp [go_sem]))
      have hki0 : 0 < ki.length := by omega
      have hL0 : 0 < L.length := by omega
      obtain ⟨b, off, rfl, hz⟩ := en_at (hk _ hE.tail.tail.tail) hL0
      clear hz
      have ld := SL.hid (fun (j : Nat) (hj : j < ki.length) (w : World) (h : Ent l w) => show (Instr.loadAt 69 (.pointer (some ⟨b, off + ki[j] * 3, none⟩))).run Tryd.prog w = .ok (.agg #[.string ⟨(D[j]'(by rw [HDn.out]; exact hj)).path.toArray⟩, .bool (D[j]'(by rw [HDn.out]; exact hj)).dir, .string ⟨(D[j]'(by rw [HDn.out]; exact hj)).data.toArray⟩]) w ∧ (Instr.loadAt 9 (.pointer (some ⟨b, off + ki[j] * 3, none⟩))).run Tryd.prog w = .ok (.string ⟨(D[j]'(by rw [HDn.out]; exact hj)).path.toArray⟩) w from by
        obtain ⟨h1, h2, h3⟩ := HKD.out j hj
        have := load_en (hk w h) h1
        rw [h3] at this
        exact ⟨this.1, this.2.1⟩)
      have kb := SL.hid (fun (j : Nat) (hj : j < ki.length) => show ki[j] < L.length from (HKD.out j hj).1)
      have hrowk := SL.hid (show ∀ (hk0 : 0 < k) (L' : List HProp) (w : World) (gr : Nat), Ent (row 69 3 (.slice (some ⟨gr, 0, none⟩) k cr) k ((S.take k).flatMap enC) :: L') w → (Instr.loadAt 9 (.pointer (some ⟨gr, (k - 1) * 3, none⟩))).run Tryd.prog w = .ok (.string ⟨(S[k - 1]'(by omega)).path.toArray⟩) w from fun hk0 L' w gr h => by
        have htl : (S.take k).length = k := by rw [List.length_take]; omega
        have h1 := reads_row h 0 rfl
        have h2 : reads (.slice (some ⟨gr, 0, none⟩) (S.take k).length cr) (S.take k).length ((S.take k).flatMap enC) w := by rw [htl]; exact h1
        have h3 := (load_en h2 (k := k - 1) (by rw [htl]; omega)).2.1
        rw [Nat.zero_add, List.getElem_take] at h3
        exact h3)
      have Hfl := SL.hid (show (S.take (k + 1)).flatMap enC = (S.take k).flatMap enC ++ enC S[k] from by rw [List.take_succ_eq_append_getElem hlt, List.flatMap_append, List.flatMap_singleton])
      have Hcan := SL.hid (fun (x : En) (hk0 : k = 0) => show Cand S k x from fun h => absurd h.1 (by omega))
      have Hca1 := SL.hid (fun (x : En) (hk0 : 0 < k) (h : Op.bytesLess (S[k - 1]'(by omega)).path x.path = true) => show Cand S k x from fun _ => h)
      have Hca2 := SL.hid (fun (x : En) (hk0 : 0 < k) (h : Op.bytesLess (S[k - 1]'(by omega)).path x.path = false) => show ¬ Cand S k x from fun h2 => by rw [h2 ⟨hk0, by omega⟩] at h; cases h)
      generalize (S.take k).flatMap enC = fl at *
      clear hk
      go_wp2
      go_loopw [7, 8] (fun v i wr => SiRel S D k (row 69 3 (.slice ar k cr) k fl :: rowN (some ⟨gk, 0, none⟩) ck ki :: pt b2 (.cells #[.slice (some ⟨b, off, none⟩) L.length c] 37) :: l) v i wr) (fun _ i _ => D.length - (intOf i).toNat)
      case atStart => exact ⟨0, Nat.zero_le _, rfl, .inl ⟨rfl, fun m _ h => absurd h (Nat.not_lt_zero m)⟩, hE⟩
      case round =>
        clear hE
        obtain ⟨j, hjn, rfl, hbest, hE⟩ := hrel
        by_cases hj : j < D.length
        · have hjk : j < ki.length := by rw [← HDn.out]; exact hj
          have hjI : (j : Int) < (ki.length : Int) := by omega
          obtain ⟨kj, hkj⟩ : ∃ x, ki[j] = x := ⟨_, rfl⟩
          have hkb := kb.out j hjk
          have nj := nk.out j hjk
          have lj := ld.out j hjk
          rw [hkj] at hkb nj lj
          have hkbI : (kj : Int) < (L.length : Int) := by omega
          have Nj := SL.hid nj
          have Lj := SL.hid lj
          have HC0 := SL.hid (Hcan.out D[j])
          have HC1 := SL.hid (Hca1.out D[j])
          have HC2 := SL.hid (Hca2.out D[j])
          obtain ⟨xp, hxp⟩ : ∃ x, D[j].path = x := ⟨_, rfl⟩
          have Hxp := SL.hid hxp
          rw [hxp] at Lj HC1 HC2
          obtain ⟨xd, hxd⟩ : ∃ x, D[j].dir = x := ⟨_, rfl⟩
          obtain ⟨xb, hxb⟩ : ∃ x, D[j].data = x := ⟨_, rfl⟩
          rw [hxd, hxb] at Lj
          clear nj lj hkj hxp hxd hxb
          go_wp2
          refine wp_region_held_drew (S := (fun w' => ((Instr.loadAt 27 (.pointer (some ⟨b2, 0, none⟩))).run Tryd.prog w' = .ok (.slice (some ⟨b, off, none⟩) L.length c) w') ∧ ((Instr.loadAt 3 (.pointer (some ⟨gk, j, none⟩))).run Tryd.prog w' = .ok (.int .i64 (kj : Int)) w') ∧ ((Instr.loadAt 69 (.pointer (some ⟨b, off + kj * 3, none⟩))).run Tryd.prog w' = .ok (.agg #[.string ⟨xp.toArray⟩, .bool xd, .string ⟨xb.toArray⟩]) w'))) (by kernel_rfl) ⟨(atVq hE.drew), (Nj.out _ _ (hE.drew.suf (by repeat (first | exact List.suffix_refl _ | refine List.IsSuffix.trans ?_ (List.suffix_cons _ _) | refine List.IsSuffix.trans ?_ (List.suffix_append _ _))))), ((Lj.out _ (hE.drew.suf (by repeat (first | exact List.suffix_refl _ | refine List.IsSuffix.trans ?_ (List.suffix_cons _ _) | refine List.IsSuffix.trans ?_ (List.suffix_append _ _))))).1)⟩ (fun hS => ?_)
          refine tV 0 hS ?_; refine tL 1 hS ?_; refine tV 2 hS ?_; refine tV 3 hS ?_; refine tV 4 hS ?_; refine tL 5 hS ?_; refine tV 6 hS ?_; refine tL 7 hS ?_
          refine tO 8 (fun K hK => ?_)
          (go_simp; have hAl := hE.drew.alloc (.cells #[.string ⟨#[]⟩, .bool false, .string ⟨#[]⟩] 69))
          refine tK hK ⟨(atVq hAl), (Nj.out _ _ (hAl.suf (by repeat (first | exact List.suffix_refl _ | refine List.IsSuffix.trans ?_ (List.suffix_cons _ _) | refine List.IsSuffix.trans ?_ (List.suffix_append _ _))))), ((Lj.out _ (hAl.suf (by repeat (first | exact List.suffix_refl _ | refine List.IsSuffix.trans ?_ (List.suffix_cons _ _) | refine List.IsSuffix.trans ?_ (List.suffix_append _ _))))).1)⟩ (fun hS => ?_); clear hK K
          refine tO 9 (fun K hK => ?_)
          (refine step_storeW hAl 0 rfl (by rfl) (by rfl) (by rfl) (xs := [.string ⟨xp.toArray⟩, .bool xd, .string ⟨xb.toArray⟩]) (by rfl) Tryd.sizeOf69 rfl (by simp [Value.oneCell']) rfl ?_; intro w7 hEs; simp only [List.set_cons_zero, List.set_cons_succ] at hEs)
          refine tK hK ⟨(atVq hEs), (Nj.out _ _ (hEs.suf (by repeat (first | exact List.suffix_refl _ | refine List.IsSuffix.trans ?_ (List.suffix_cons _ _) | refine List.IsSuffix.trans ?_ (List.suffix_append _ _))))), ((Lj.out _ (hEs.suf (by repeat (first | exact List.suffix_refl _ | refine List.IsSuffix.trans ?_ (List.suffix_cons _ _) | refine List.IsSuffix.trans ?_ (List.suffix_append _ _))))).1)⟩ (fun hS => ?_); clear hK K
          refine wpAnyH_done (by kernel_rfl) ?_ _
          replace hE : Ent (pt wr.heap.size (.cells #[.string ⟨xp.toArray⟩, .bool xd, .string ⟨xb.toArray⟩] 69) :: row 69 3 (.slice ar k cr) k fl :: rowN (some ⟨gk, 0, none⟩) ck ki :: pt b2 (.cells #[.slice (some ⟨b, off, none⟩) L.length c] 37) :: l) w7 := hEs
          generalize wr.heap.size = b9 at *
          clear hEs hS hAl
          by_cases hk0 : k = 0
          · have HCand := SL.hid (HC0.out hk0)
            have hkz : ((k : Int) == 0) = true := by simp [hk0]
            clear HC0 HC1 HC2 hk0
            rcases hbest with ⟨rfl, hno⟩ | ⟨bb, hbb, hbj, rfl, hcb, hmin⟩
            · have HB := SL.hid (Best.first hno hj HCand.out)
              clear hno
              go_wp2
              refine wp_region_held_drew (S := (fun w' => ((Instr.loadAt 9 (.pointer (some ⟨b9, 0, none⟩))).run Tryd.prog w' = .ok (.string ⟨xp.toArray⟩) w'))) (by kernel_rfl) (atVq hE.drew) (fun hS => ?_)
              refine tV 0 hS ?_; refine tV 1 hS ?_; refine tV 2 hS ?_; refine tV 3 hS ?_; refine tU 4 hS ?_; refine tU 5 hS ?_; refine tU 6 hS ?_; refine tU 7 hS ?_; refine tU 8 hS ?_; refine tU 9 hS ?_; refine tU 10 hS ?_; refine tU 11 hS ?_; refine tU 12 hS ?_; refine tU 13 hS ?_; refine tV 14 hS ?_; refine tV 15 hS ?_; refine tV 16 hS ?_; refine tV 17 hS ?_; refine tV 18 hS ?_; refine tU 19 hS ?_
              refine tU 20 hS ?_; refine tU 21 hS ?_; refine tU 22 hS ?_; refine tU 23 hS ?_; refine tU 24 hS ?_; refine tU 25 hS ?_; refine tU 26 hS ?_; refine tU 27 hS ?_; refine tU 28 hS ?_; refine tU 29 hS ?_; refine tU 30 hS ?_; refine tV 31 hS ?_; refine tV 32 hS ?_
              refine wpAnyH_done (by kernel_rfl) ?_ _
              clear hS
              go_wp2
              go_roundw
              case rel => exact ⟨j + 1, by omega, by first | rfl | simp, HB.out, hE.drew.tail⟩
              case measure => simp [intOf] <;> omega
            · have hbk : bb < ki.length := by rw [← HDn.out]; exact hbb
              obtain ⟨kb2, hkb2⟩ : ∃ x, ki[bb] = x := ⟨_, rfl⟩
              have hbb3 := kb.out bb hbk
              have nb := nk.out bb hbk
              have lb := ld.out bb hbk
              rw [hkb2] at hbb3 nb lb
              have hkb3 : (kb2 : Int) < (L.length : Int) := by omega
              have hkb4 : (bb : Int) < (ki.length : Int) := by omega
              have hb0 : ¬ ((bb : Int) < 0) := by omega
              have HBl := SL.hid (fun h => Best.less hbb hmin hj HCand.out h)
              have HBk := SL.hid (fun h => Best.keep hbb hbj hcb hmin hj h)
              rw [Hxp.out] at HBl HBk
              obtain ⟨yp, hyp⟩ : ∃ x, (D[bb]'hbb).path = x := ⟨_, rfl⟩
              rw [hyp] at lb HBl HBk
              have Nb := SL.hid nb
              have Lb := SL.hid lb
              clear nb lb hkb2 hyp hmin hcb hbb3
              cases hlt2 : Op.bytesLess xp yp with
              | true =>
                have HB := SL.hid (HBl.out hlt2)
                clear HBl HBk
                go_wp2
                refine wp_region_held_drew (S := (fun w' => ((Instr.loadAt 9 (.pointer (some ⟨b9, 0, none⟩))).run Tryd.prog w' = .ok (.string ⟨xp.toArray⟩) w') ∧ ((Instr.loadAt 27 (.pointer (some ⟨b2, 0, none⟩))).run Tryd.prog w' = .ok (.slice (some ⟨b, off, none⟩) L.length c) w') ∧ ((Instr.loadAt 3 (.pointer (some ⟨gk, bb, none⟩))).run Tryd.prog w' = .ok (.int .i64 (kb2 : Int)) w') ∧ ((Instr.loadAt 9 (.pointer (some ⟨b, off + kb2 * 3, none⟩))).run Tryd.prog w' = .ok (.string ⟨yp.toArray⟩) w'))) (by kernel_rfl) ⟨(atVq hE.drew), (atVq hE.drew), (Nb.out _ _ hE.drew.tail.tail), ((Lb.out _ (hE.drew.suf (by repeat (first | exact List.suffix_refl _ | refine List.IsSuffix.trans ?_ (List.suffix_cons _ _) | refine List.IsSuffix.trans ?_ (List.suffix_append _ _))))).2)⟩ (fun hS => ?_)
                refine tV 0 hS ?_; refine tV 1 hS ?_; refine tV 2 hS ?_; refine tV 3 hS ?_; refine tU 4 hS ?_; refine tU 5 hS ?_; refine tU 6 hS ?_; refine tU 7 hS ?_; refine tU 8 hS ?_; refine tU 9 hS ?_; refine tU 10 hS ?_; refine tU 11 hS ?_; refine tU 12 hS ?_; refine tU 13 hS ?_; refine tV 14 hS ?_; refine tV 15 hS ?_; refine tV 16 hS ?_; refine tV 17 hS ?_; refine tV 18 hS ?_; refine tV 19 hS ?_
                refine tL 20 hS ?_; refine tV 21 hS ?_; refine tL 22 hS ?_; refine tV 23 hS ?_; refine tV 24 hS ?_; refine tV 25 hS ?_; refine tL 26 hS ?_; refine tV 27 hS ?_; refine tV 28 hS ?_; refine tL 29 hS ?_; refine tV 30 hS ?_; refine tV 31 hS ?_; refine tV 32 hS ?_
                refine wpAnyH_done (by kernel_rfl) ?_ _
                clear hS
                go_wp2
                go_roundw
                case rel => exact ⟨j + 1, by omega, by first | rfl | simp, HB.out, hE.drew.tail⟩
                case measure => simp [intOf] <;> omega
              | false =>
                have HB := SL.hid (HBk.out hlt2)
                clear HBl HBk
                go_wp2
                refine wp_region_held_drew (S := (fun w' => ((Instr.loadAt 9 (.pointer (some ⟨b9, 0, none⟩))).run Tryd.prog w' = .ok (.string ⟨xp.toArray⟩) w') ∧ ((Instr.loadAt 27 (.pointer (some ⟨b2, 0, none⟩))).run Tryd.prog w' = .ok (.slice (some ⟨b, off, none⟩) L.length c) w') ∧ ((Instr.loadAt 3 (.pointer (some ⟨gk, bb, none⟩))).run Tryd.prog w' = .ok (.int .i64 (kb2 : Int)) w') ∧ ((Instr.loadAt 9 (.pointer (some ⟨b, off + kb2 * 3, none⟩))).run Tryd.prog w' = .ok (.string ⟨yp.toArray⟩) w'))) (by kernel_rfl) ⟨(atVq hE.drew), (atVq hE.drew), (Nb.out _ _ hE.drew.tail.tail), ((Lb.out _ (hE.drew.suf (by repeat (first | exact List.suffix_refl _ | refine List.IsSuffix.trans ?_ (List.suffix_cons _ _) | refine List.IsSuffix.trans ?_ (List.suffix_append _ _))))).2)⟩ (fun hS => ?_)
                refine tV 0 hS ?_; refine tV 1 hS ?_; refine tV 2 hS ?_; refine tV 3 hS ?_; refine tU 4 hS ?_; refine tU 5 hS ?_; refine tU 6 hS ?_; refine tU 7 hS ?_; refine tU 8 hS ?_; refine tU 9 hS ?_; refine tU 10 hS ?_; refine tU 11 hS ?_; refine tU 12 hS ?_; refine tU 13 hS ?_; refine tV 14 hS ?_; refine tV 15 hS ?_; refine tV 16 hS ?_; refine tV 17 hS ?_; refine tV 18 hS ?_; refine tV 19 hS ?_
                refine tL 20 hS ?_; refine tV 21 hS ?_; refine tL 22 hS ?_; refine tV 23 hS ?_; refine tV 24 hS ?_; refine tV 25 hS ?_; refine tL 26 hS ?_; refine tV 27 hS ?_; refine tV 28 hS ?_; refine tL 29 hS ?_; refine tV 30 hS ?_; refine tV 31 hS ?_; refine tV 32 hS ?_
                refine wpAnyH_done (by kernel_rfl) ?_ _
                clear hS
                go_wp2
                go_roundw
                case rel => exact ⟨j + 1, by omega, by first | rfl | simp, HB.out, hE.drew.tail⟩
                case measure => simp [intOf] <;> omega
          · have hkp : 0 < k := by omega
            obtain ⟨gr, rfl, _, _⟩ := hE.rowIs 1 rfl (by omega)
            have HR := SL.hid (hrowk.out hkp)
            have HD1 := SL.hid (HC1.out hkp)
            have HD2 := SL.hid (HC2.out hkp)
            obtain ⟨lp, hlp⟩ : ∃ x, (S[k - 1]'(by omega)).path = x := ⟨_, rfl⟩
            simp only [hlp] at HR HD1 HD2
            clear hlp hrowk HC0 HC1 HC2
            obtain ⟨i, hi⟩ : ∃ i, k - 1 = i := ⟨_, rfl⟩
            have hwk1 : wrap64 ((k : Int) - 1) = (i : Int) := by unfold wrap64; omega
            have hwk2 : IntKind.i64.wrap ((k : Int) - 1) = (i : Int) := by
              simp only [IntKind.wrap, IntKind.bits, IntKind.signed]
              simp
              omega
            have hik : (i : Int) < (k : Int) := by omega
            have hkz : ((k : Int) == 0) = false := by simp; omega
            rw [hi] at HR
            clear hi
            cases hx1 : Op.bytesLess xp lp with
            | true =>
              have HB := SL.hid (hbest.skip hj (HD2.out (bl_asymm hx1)))
              clear hbest HD1 HD2
              go_wp2
              refine wp_region_held_drew (S := (fun w' => ((Instr.loadAt 9 (.pointer (some ⟨b9, 0, none⟩))).run Tryd.prog w' = .ok (.string ⟨xp.toArray⟩) w') ∧ ((Instr.loadAt 9 (.pointer (some ⟨gr, i * 3, none⟩))).run Tryd.prog w' = .ok (.string ⟨lp.toArray⟩) w'))) (by kernel_rfl) ⟨(atVq hE.drew), (HR.out _ _ _ hE.drew.tail)⟩ (fun hS => ?_)
              refine tV 0 hS ?_; refine tV 1 hS ?_; refine tV 2 hS ?_; refine tV 3 hS ?_; refine tV 4 hS ?_; refine tL 5 hS ?_; refine tV 6 hS ?_; refine tV 7 hS ?_; refine tV 8 hS ?_; refine tV 9 hS ?_; refine tV 10 hS ?_; refine tV 11 hS ?_; refine tL 12 hS ?_; refine tV 13 hS ?_; refine tV 14 hS ?_; refine tV 15 hS ?_; refine tU 16 hS ?_; refine tU 17 hS ?_; refine tU 18 hS ?_; refine tU 19 hS ?_
              refine tU 20 hS ?_; refine tU 21 hS ?_; refine tU 22 hS ?_; refine tU 23 hS ?_; refine tU 24 hS ?_; refine tU 25 hS ?_; refine tU 26 hS ?_; refine tU 27 hS ?_; refine tU 28 hS ?_; refine tU 29 hS ?_; refine tU 30 hS ?_; refine tU 31 hS ?_; refine tV 32 hS ?_
              refine wpAnyH_done (by kernel_rfl) ?_ _
              clear hS
              go_wp2
              go_roundw
              case rel => exact ⟨j + 1, by omega, by first | rfl | simp, HB.out, hE.drew.tail⟩
              case measure => simp [intOf] <;> omega
            | false =>
              cases hx2 : (xp == lp) with
              | true =>
                have HB := SL.hid (hbest.skip hj (HD2.out (by rw [eq_of_beq hx2]; exact bl_irrefl _)))
                clear hbest HD1 HD2
                go_wp2
                refine wp_region_held_drew (S := (fun w' => ((Instr.loadAt 9 (.pointer (some ⟨b9, 0, none⟩))).run Tryd.prog w' = .ok (.string ⟨xp.toArray⟩) w') ∧ ((Instr.loadAt 9 (.pointer (some ⟨gr, i * 3, none⟩))).run Tryd.prog w' = .ok (.string ⟨lp.toArray⟩) w'))) (by kernel_rfl) ⟨(atVq hE.drew), (HR.out _ _ _ hE.drew.tail)⟩ (fun hS => ?_)
                refine tV 0 hS ?_; refine tV 1 hS ?_; refine tV 2 hS ?_; refine tV 3 hS ?_; refine tV 4 hS ?_; refine tL 5 hS ?_; refine tV 6 hS ?_; refine tV 7 hS ?_; refine tV 8 hS ?_; refine tV 9 hS ?_; refine tV 10 hS ?_; refine tV 11 hS ?_; refine tL 12 hS ?_; refine tV 13 hS ?_; refine tV 14 hS ?_; refine tV 15 hS ?_; refine tU 16 hS ?_; refine tU 17 hS ?_; refine tU 18 hS ?_; refine tU 19 hS ?_
                refine tU 20 hS ?_; refine tU 21 hS ?_; refine tU 22 hS ?_; refine tU 23 hS ?_; refine tU 24 hS ?_; refine tU 25 hS ?_; refine tU 26 hS ?_; refine tU 27 hS ?_; refine tU 28 hS ?_; refine tU 29 hS ?_; refine tU 30 hS ?_; refine tU 31 hS ?_; refine tV 32 hS ?_
                refine wpAnyH_done (by kernel_rfl) ?_ _
                clear hS
                go_wp2
                go_roundw
                case rel => exact ⟨j + 1, by omega, by first | rfl | simp, HB.out, hE.drew.tail⟩
                case measure => simp [intOf] <;> omega
              | false =>
                have HCand := SL.hid (HD1.out (bl_total (by simpa using hx2) hx1))
                clear HD1 HD2
                rcases hbest with ⟨rfl, hno⟩ | ⟨bb, hbb, hbj, rfl, hcb, hmin⟩
                · have HB := SL.hid (Best.first hno hj HCand.out)
                  clear hno
                  go_wp2
                  refine wp_region_held_drew (S := (fun w' => ((Instr.loadAt 9 (.pointer (some ⟨b9, 0, none⟩))).run Tryd.prog w' = .ok (.string ⟨xp.toArray⟩) w') ∧ ((Instr.loadAt 9 (.pointer (some ⟨gr, i * 3, none⟩))).run Tryd.prog w' = .ok (.string ⟨lp.toArray⟩) w'))) (by kernel_rfl) ⟨(atVq hE.drew), (HR.out _ _ _ hE.drew.tail)⟩ (fun hS => ?_)
                  refine tV 0 hS ?_; refine tV 1 hS ?_; refine tV 2 hS ?_; refine tV 3 hS ?_; refine tV 4 hS ?_; refine tL 5 hS ?_; refine tV 6 hS ?_; refine tV 7 hS ?_; refine tV 8 hS ?_; refine tV 9 hS ?_; refine tV 10 hS ?_; refine tV 11 hS ?_; refine tL 12 hS ?_; refine tV 13 hS ?_; refine tV 14 hS ?_; refine tV 15 hS ?_; refine tV 16 hS ?_; refine tV 17 hS ?_; refine tV 18 hS ?_; refine tU 19 hS ?_
                  refine tU 20 hS ?_; refine tU 21 hS ?_; refine tU 22 hS ?_; refine tU 23 hS ?_; refine tU 24 hS ?_; refine tU 25 hS ?_; refine tU 26 hS ?_; refine tU 27 hS ?_; refine tU 28 hS ?_; refine tU 29 hS ?_; refine tU 30 hS ?_; refine tV 31 hS ?_; refine tV 32 hS ?_
                  refine wpAnyH_done (by kernel_rfl) ?_ _
                  clear hS
                  go_wp2
                  go_roundw
                  case rel => exact ⟨j + 1, by omega, by first | rfl | simp, HB.out, hE.drew.tail⟩
                  case measure => simp [intOf] <;> omega
                · have hbk : bb < ki.length := by rw [← HDn.out]; exact hbb
                  obtain ⟨kb2, hkb2⟩ : ∃ x, ki[bb] = x := ⟨_, rfl⟩
                  have hbb3 := kb.out bb hbk
                  have nb := nk.out bb hbk
                  have lb := ld.out bb hbk
                  rw [hkb2] at hbb3 nb lb
                  have hkb3 : (kb2 : Int) < (L.length : Int) := by omega
                  have hkb4 : (bb : Int) < (ki.length : Int) := by omega
                  have hb0 : ¬ ((bb : Int) < 0) := by omega
                  have HBl := SL.hid (fun h => Best.less hbb hmin hj HCand.out h)
                  have HBk := SL.hid (fun h => Best.keep hbb hbj hcb hmin hj h)
                  rw [Hxp.out] at HBl HBk
                  obtain ⟨yp, hyp⟩ : ∃ x, (D[bb]'hbb).path = x := ⟨_, rfl⟩
                  rw [hyp] at lb HBl HBk
                  have Nb := SL.hid nb
                  have Lb := SL.hid lb
                  clear nb lb hkb2 hyp hmin hcb hbb3
                  cases hlt2 : Op.bytesLess xp yp with
                  | true =>
                    have HB := SL.hid (HBl.out hlt2)
                    clear HBl HBk
                    go_wp2
                    refine wp_region_held_drew (S := (fun w' => ((Instr.loadAt 9 (.pointer (some ⟨b9, 0, none⟩))).run Tryd.prog w' = .ok (.string ⟨xp.toArray⟩) w') ∧ ((Instr.loadAt 9 (.pointer (some ⟨gr, i * 3, none⟩))).run Tryd.prog w' = .ok (.string ⟨lp.toArray⟩) w') ∧ ((Instr.loadAt 27 (.pointer (some ⟨b2, 0, none⟩))).run Tryd.prog w' = .ok (.slice (some ⟨b, off, none⟩) L.length c) w') ∧ ((Instr.loadAt 3 (.pointer (some ⟨gk, bb, none⟩))).run Tryd.prog w' = .ok (.int .i64 (kb2 : Int)) w') ∧ ((Instr.loadAt 9 (.pointer (some ⟨b, off + kb2 * 3, none⟩))).run Tryd.prog w' = .ok (.string ⟨yp.toArray⟩) w'))) (by kernel_rfl) ⟨(atVq hE.drew), (HR.out _ _ _ hE.drew.tail), (atVq hE.drew), (Nb.out _ _ hE.drew.tail.tail), ((Lb.out _ (hE.drew.suf (by repeat (first | exact List.suffix_refl _ | refine List.IsSuffix.trans ?_ (List.suffix_cons _ _) | refine List.IsSuffix.trans ?_ (List.suffix_append _ _))))).2)⟩ (fun hS => ?_)
                    refine tV 0 hS ?_; refine tV 1 hS ?_; refine tV 2 hS ?_; refine tV 3 hS ?_; refine tV 4 hS ?_; refine tL 5 hS ?_; refine tV 6 hS ?_; refine tV 7 hS ?_; refine tV 8 hS ?_; refine tV 9 hS ?_; refine tV 10 hS ?_; refine tV 11 hS ?_; refine tL 12 hS ?_; refine tV 13 hS ?_; refine tV 14 hS ?_; refine tV 15 hS ?_; refine tV 16 hS ?_; refine tV 17 hS ?_; refine tV 18 hS ?_; refine tV 19 hS ?_
                    refine tL 20 hS ?_; refine tV 21 hS ?_; refine tL 22 hS ?_; refine tV 23 hS ?_; refine tV 24 hS ?_; refine tV 25 hS ?_; refine tL 26 hS ?_; refine tV 27 hS ?_; refine tV 28 hS ?_; refine tL 29 hS ?_; refine tV 30 hS ?_; refine tV 31 hS ?_; refine tV 32 hS ?_
                    refine wpAnyH_done (by kernel_rfl) ?_ _
                    clear hS
                    go_wp2
                    go_roundw
                    case rel => exact ⟨j + 1, by omega, by first | rfl | simp, HB.out, hE.drew.tail⟩
                    case measure => simp [intOf] <;> omega
                  | false =>
                    have HB := SL.hid (HBk.out hlt2)
                    clear HBl HBk
                    go_wp2
                    refine wp_region_held_drew (S := (fun w' => ((Instr.loadAt 9 (.pointer (some ⟨b9, 0, none⟩))).run Tryd.prog w' = .ok (.string ⟨xp.toArray⟩) w') ∧ ((Instr.loadAt 9 (.pointer (some ⟨gr, i * 3, none⟩))).run Tryd.prog w' = .ok (.string ⟨lp.toArray⟩) w') ∧ ((Instr.loadAt 27 (.pointer (some ⟨b2, 0, none⟩))).run Tryd.prog w' = .ok (.slice (some ⟨b, off, none⟩) L.length c) w') ∧ ((Instr.loadAt 3 (.pointer (some ⟨gk, bb, none⟩))).run Tryd.prog w' = .ok (.int .i64 (kb2 : Int)) w') ∧ ((Instr.loadAt 9 (.pointer (some ⟨b, off + kb2 * 3, none⟩))).run Tryd.prog w' = .ok (.string ⟨yp.toArray⟩) w'))) (by kernel_rfl) ⟨(atVq hE.drew), (HR.out _ _ _ hE.drew.tail), (atVq hE.drew), (Nb.out _ _ hE.drew.tail.tail), ((Lb.out _ (hE.drew.suf (by repeat (first | exact List.suffix_refl _ | refine List.IsSuffix.trans ?_ (List.suffix_cons _ _) | refine List.IsSuffix.trans ?_ (List.suffix_append _ _))))).2)⟩ (fun hS => ?_)
                    refine tV 0 hS ?_; refine tV 1 hS ?_; refine tV 2 hS ?_; refine tV 3 hS ?_; refine tV 4 hS ?_; refine tL 5 hS ?_; refine tV 6 hS ?_; refine tV 7 hS ?_; refine tV 8 hS ?_; refine tV 9 hS ?_; refine tV 10 hS ?_; refine tV 11 hS ?_; refine tL 12 hS ?_; refine tV 13 hS ?_; refine tV 14 hS ?_; refine tV 15 hS ?_; refine tV 16 hS ?_; refine tV 17 hS ?_; refine tV 18 hS ?_; refine tV 19 hS ?_
                    refine tL 20 hS ?_; refine tV 21 hS ?_; refine tL 22 hS ?_; refine tV 23 hS ?_; refine tV 24 hS ?_; refine tV 25 hS ?_; refine tL 26 hS ?_; refine tV 27 hS ?_; refine tV 28 hS ?_; refine tL 29 hS ?_; refine tV 30 hS ?_; refine tV 31 hS ?_; refine tV 32 hS ?_
                    refine wpAnyH_done (by kernel_rfl) ?_ _
                    clear hS
                    go_wp2
                    go_roundw
                    case rel => exact ⟨j + 1, by omega, by first | rfl | simp, HB.out, hE.drew.tail⟩
                    case measure => simp [intOf] <;> omega
        · obtain rfl : j = D.length := by omega
          have hnI : ¬ ((D.length : Int) < (ki.length : Int)) := by rw [← HDn.out]; omega
          rcases hbest with ⟨rfl, hno⟩ | ⟨bb, hbb, _, rfl, hcb, hmin⟩
          · obtain ⟨jj, hjj, hc⟩ := some_cand HS.out Hr.out hlt
            exact absurd hc (hno jj hjj hjj)
          · have hres := best_at HS.out Hr.out hlt hbb hcb (fun m h hc => hmin m h h hc)
            have hbk : bb < ki.length := by rw [← HDn.out]; exact hbb
            obtain ⟨kb2, hkb2⟩ : ∃ x, ki[bb] = x := ⟨_, rfl⟩
            have hbb3 := kb.out bb hbk
            have nb := nk.out bb hbk
            have lb := ld.out bb hbk
            rw [hkb2] at hbb3 nb lb
            rw [hres] at lb
            have hkb3 : (kb2 : Int) < (L.length : Int) := by omega
            have hkb4 : (bb : Int) < (ki.length : Int) := by omega
            have hk1000 : k ≤ 1000 := by have := HSn.out; omega
            have Nb := SL.hid nb
            have Lb := SL.hid lb
            clear nb lb hkb2 hmin hcb hbb3 hres
            generalize S[k] = x at *
            obtain ⟨xp, xd, xb⟩ := x
            simp only at Lb
            go_wp2
            refine wp_region_held_drew (S := (fun w' => ((Instr.loadAt 27 (.pointer (some ⟨b2, 0, none⟩))).run Tryd.prog w' = .ok (.slice (some ⟨b, off, none⟩) L.length c) w') ∧ ((Instr.loadAt 3 (.pointer (some ⟨gk, bb, none⟩))).run Tryd.prog w' = .ok (.int .i64 (kb2 : Int)) w') ∧ ((Instr.loadAt 69 (.pointer (some ⟨b, off + kb2 * 3, none⟩))).run Tryd.prog w' = .ok (.agg #[.string ⟨xp.toArray⟩, .bool xd, .string ⟨xb.toArray⟩]) w'))) (by kernel_rfl) ⟨(atVq hE.drew), (Nb.out _ _ hE.drew.tail), ((Lb.out _ (hE.drew.suf (by repeat (first | exact List.suffix_refl _ | refine List.IsSuffix.trans ?_ (List.suffix_cons _ _) | refine List.IsSuffix.trans ?_ (List.suffix_append _ _))))).1)⟩ (fun hS => ?_)
            refine tV 0 hS ?_; refine tV 1 hS ?_; refine tL 2 hS ?_; refine tV 3 hS ?_; refine tV 4 hS ?_; refine tV 5 hS ?_; refine tL 6 hS ?_; refine tV 7 hS ?_; refine tL 8 hS ?_
            refine tO 9 (fun K hK => ?_)
            (refine step_build1 hE.drew rfl (by rfl) (xs := enC ⟨xp, xd, xb⟩) (by rfl) Tryd.underlying27 zs_en Tryd.sizeOf69 (by decide) (by decide) rfl ?_; intro g9 w7 hB)
            refine tK hK ⟨(atVq hB.tail), (Nb.out _ _ hB.tail.tail), ((Lb.out _ (hB.tail.suf (by repeat (first | exact List.suffix_refl _ | refine List.IsSuffix.trans ?_ (List.suffix_cons _ _) | refine List.IsSuffix.trans ?_ (List.suffix_append _ _))))).1)⟩ (fun hS => ?_); clear hK K
            refine tO 10 (fun K hK => ?_)
            (refine step_appendG hB 1 rfl rfl (by rfl) (by rfl) (by rfl) Tryd.underlying27 info_en (by decide) (m := 1) (news := enC ⟨xp, xd, xb⟩) (reads_pt hB 0 rfl (off := 0) (fun j u hu => by rw [Nat.zero_add, List.getElem?_toArray]; exact hu)) rfl (enC_one _) (by omega) (by omega) ?_; intro a2 c2 w8 hC; simp only [List.set_cons_zero, List.set_cons_succ] at hC)
            refine tK hK ⟨(atVq hC.tail), (Nb.out _ _ hC.tail.tail), ((Lb.out _ (hC.tail.suf (by repeat (first | exact List.suffix_refl _ | refine List.IsSuffix.trans ?_ (List.suffix_cons _ _) | refine List.IsSuffix.trans ?_ (List.suffix_append _ _))))).1)⟩ (fun hS => ?_); clear hK K
            refine tV 11 hS ?_
            refine wpAnyH_done (by kernel_rfl) ?_ _
            clear hS hB
            go_wp2
            go_roundw
            case rel =>
              have e1 : (S.take (k + 1)).length = k + 1 := by rw [List.length_take]; omega
              refine ⟨k + 1, a2, c2, hlt, by rw [e1], ?_⟩
              simp only [rowEn, e1, Hfl.out]
              exact hC.tail
            case measure => simp [outLen] <;> omega
    · obtain rfl : k = S.length := by omega
      have hnI : ¬ ((S.length : Int) < (ki.length : Int)) := by rw [← HSn.out]; omega
      go_wp2
      refine bodyPost_ret (results_tmp rfl _ _ _) rfl ?_
      rw [List.take_length] at hE
      exact ⟨_, rfl, (⟨ar, cr, [rowN ak ck ki, pt b2 (.cells #[.slice ao L.length c] 37)], rfl, hE⟩ : SoPost S l _ _)⟩
end Go.Proofs.YtehfbokkcamliaaDoor
