/-
  Nodes as values: which shapes and nodes may be, how much goes in, a node's page, and the node of a page; what was put is taken as itself. Plain law, no program.
-/
import Derived.Test.YtohdljcpaogokaaSt1
namespace Go.Proofs.Ytohdljcpaogokaa
open Go.RowKit Go.SL

structure Nd where
  leaf : Bool
  keys : List (List UInt8)
  vals : List (List UInt8)
  kids : List Int

def rightN (kw vw : Int) : Bool := decide (1 ≤ kw) && (decide (kw ≤ 64) && (decide (0 ≤ vw) && decide (vw ≤ 64)))
theorem rightN_iff {kw vw : Int} : rightN kw vw = true ↔ 1 ≤ kw ∧ kw ≤ 64 ∧ 0 ≤ vw ∧ vw ≤ 64 := by simp [rightN]
def capN (kw vw : Int) : Int := if rightN kw vw then 508 / (kw + vw) else 0
def fanN (kw vw : Int) : Int := if rightN kw vw then (508 + kw) / (kw + 2) else 0

/-- do so many keys rise? -/
def riseOk (ks : List (List UInt8)) (i : Nat) : Bool := decide (i = 0) || Op.bytesLess (ks.getD (i - 1) []) (ks.getD i [])
def rises (ks : List (List UInt8)) (n : Nat) : Bool := (List.range n).all (riseOk ks)
def wideL (ks : List (List UInt8)) (n : Int) : Bool := ks.all fun s => ((s.length : Int) == n)
def kidOk (k : Int) : Bool := decide (1 ≤ k) && decide (k < 1024)
def mayL (kw vw : Int) (n : Nd) : Bool := ((n.kids.length : Int) == 0) && (((n.keys.length : Int) == (n.vals.length : Int)) && (wideL n.vals vw && decide ((n.keys.length : Int) ≤ capN kw vw)))
def mayI (kw vw : Int) (n : Nd) : Bool := n.kids.all kidOk && (((n.vals.length : Int) == 0) && (((n.kids.length : Int) == (n.keys.length : Int) + 1) && (decide (1 ≤ (n.keys.length : Int)) && decide ((n.kids.length : Int) ≤ fanN kw vw))))
def mayB (kw vw : Int) (n : Nd) : Bool := rises n.keys n.keys.length && (wideL n.keys kw && (if n.leaf then mayL kw vw n else mayI kw vw n))
def mayN (kw vw : Int) (n : Nd) : Bool := rightN kw vw && mayB kw vw n

/-- the bytes of so many children, of so many entries -/
def kidU (ks : List Int) : Nat → List UInt8
  | 0 => []
  | i + 1 => kidU ks i ++ be 2 (ks.getD i 0).toNat
def entU (leaf : Bool) (ks vs : List (List UInt8)) : Nat → List UInt8
  | 0 => []
  | i + 1 => entU leaf ks vs i ++ (ks.getD i [] ++ if leaf then vs.getD i [] else [])
def headU (n : Nd) : List UInt8 := (if n.leaf then 1 else 2) :: 0 :: be 2 n.keys.length
def bodyU (n : Nd) : List UInt8 := headU n ++ (kidU n.kids n.kids.length ++ entU n.leaf n.keys n.vals n.keys.length)
def pageU (n : Nd) : List UInt8 := bodyU n ++ List.replicate (512 - (bodyU n).length) 0

theorem kidU_len (ks : List Int) : ∀ i, (kidU ks i).length = 2 * i
  | 0 => rfl
  | i + 1 => by rw [kidU, List.length_append, kidU_len ks i, be_length]; omega
theorem wideL_at {ks : List (List UInt8)} {n : Int} (h : wideL ks n = true) {i : Nat} (hi : i < ks.length) : ((ks.getD i []).length : Int) = n := by
  have := List.all_eq_true.1 h _ (List.getElem_mem hi)
  rw [List.getD_eq_getElem?_getD, List.getElem?_eq_getElem hi]
  simpa using this
theorem entU_leaf_len {ks vs : List (List UInt8)} {kw vw : Int} (hk : wideL ks kw = true) (hv : wideL vs vw = true) : ∀ i, i ≤ ks.length → i ≤ vs.length → ((entU true ks vs i).length : Int) = i * (kw + vw)
  | 0, _, _ => by simp [entU]
  | i + 1, h1, h2 => by
    have ih := entU_leaf_len hk hv i (by omega) (by omega)
    have a := wideL_at hk (i := i) (by omega)
    have b := wideL_at hv (i := i) (by omega)
    simp only [entU, if_true, List.length_append]
    push_cast
    rw [ih, a, b, Int.add_mul, Int.one_mul]
theorem entU_inner_len {ks vs : List (List UInt8)} {kw : Int} (hk : wideL ks kw = true) : ∀ i, i ≤ ks.length → ((entU false ks vs i).length : Int) = i * kw
  | 0, _ => by simp [entU]
  | i + 1, h1 => by
    have ih := entU_inner_len (vs := vs) hk i (by omega)
    have a := wideL_at hk (i := i) (by omega)
    simp only [entU, Bool.false_eq_true, if_false, List.append_nil, List.length_append]
    push_cast
    rw [ih, a, Int.add_mul, Int.one_mul]
theorem headU_len (n : Nd) : (headU n).length = 4 := by simp [headU, be_length]

theorem body_len {kw vw : Int} {n : Nd} (h : mayN kw vw n = true) : (bodyU n).length ≤ 512 := by
  simp only [mayN, Bool.and_eq_true] at h
  obtain ⟨hr, h⟩ := h
  have hr' := rightN_iff.1 hr
  simp only [mayB, Bool.and_eq_true] at h
  obtain ⟨_, hw, h⟩ := h
  have e : (bodyU n).length = 4 + (2 * n.kids.length + (entU n.leaf n.keys n.vals n.keys.length).length) := by
    rw [bodyU, List.length_append, List.length_append, headU_len, kidU_len]
  cases hl : n.leaf with
  | true =>
    rw [hl] at h e
    simp only [if_true, mayL, Bool.and_eq_true, beq_iff_eq, decide_eq_true_eq, capN, hr] at h
    obtain ⟨h1, h2, h3, h4⟩ := h
    have h5 := entU_leaf_len hw h3 n.keys.length (Nat.le_refl _) (by omega)
    have h6 : (n.keys.length : Int) * (kw + vw) ≤ 508 := by
      have := Int.mul_le_mul_of_nonneg_right h4 (show (0 : Int) ≤ kw + vw by omega)
      have h7 := Int.ediv_mul_le 508 (show kw + vw ≠ 0 by omega)
      omega
    omega
  | false =>
    rw [hl] at h e
    simp only [Bool.false_eq_true, if_false, mayI, Bool.and_eq_true, beq_iff_eq, decide_eq_true_eq, fanN, hr, if_true] at h
    obtain ⟨h1, h2, h3, h4, h5⟩ := h
    have h6 := entU_inner_len (vs := n.vals) hw n.keys.length (Nat.le_refl _)
    have h7 := Int.mul_le_mul_of_nonneg_right h5 (show (0 : Int) ≤ kw + 2 by omega)
    have h8 := Int.ediv_mul_le (508 + kw) (show kw + 2 ≠ 0 by omega)
    rw [h3] at h7
    have h9 : ((n.keys.length : Int) + 1) * (kw + 2) = (n.keys.length : Int) * kw + kw + 2 * (n.keys.length : Int) + 2 := by
      rw [Int.add_mul, Int.mul_add, Int.one_mul]
      omega
    omega
theorem page_len {kw vw : Int} {n : Nd} (h : mayN kw vw n = true) : (pageU n).length = 512 := by
  have := body_len h
  rw [pageU, List.length_append, List.length_replicate]
  omega

/-- the readers: children, entries, a whole page -/
def rdK : Nat → List Int × St → List Int × St
  | 0, x => x
  | n + 1, x => if x.2.err = 0 then rdK n (x.1 ++ [(tkV 2 x.2 : Int)], tk 2 x.2) else x
structure Es where
  ks : List (List UInt8)
  vs : List (List UInt8)
  s : St
def rdStep (leaf : Bool) (kw vw : Int) (x : Es) : Es :=
  if leaf then ⟨x.ks ++ [txV kw x.s], x.vs ++ [txV vw (tx kw x.s)], tx vw (tx kw x.s)⟩ else ⟨x.ks ++ [txV kw x.s], x.vs, tx kw x.s⟩
def rdE (leaf : Bool) (kw vw : Int) : Nat → Es → Es
  | 0, x => x
  | n + 1, x => if x.s.err = 0 then rdE leaf kw vw n (rdStep leaf kw vw x) else x
def leafR (b : List UInt8) : Bool := ((tkV 1 ⟨b, 0⟩ : Int) == 1)
def st3 (b : List UInt8) : St := tk 2 (tk 1 (tk 1 ⟨b, 0⟩))
def keysR (b : List UInt8) : Nat := tkV 2 (tk 1 (tk 1 ⟨b, 0⟩))
def kidsR (b : List UInt8) : List Int × St := if leafR b then ([], st3 b) else rdK (keysR b + 1) ([], st3 b)
def entsR (kw vw : Int) (b : List UInt8) : Es := rdE (leafR b) kw vw (keysR b) ⟨[], [], (kidsR b).2⟩
def nodeR (kw vw : Int) (b : List UInt8) : Nd := ⟨leafR b, (entsR kw vw b).ks, (entsR kw vw b).vs, (kidsR b).1⟩
def okR (kw vw : Int) (b : List UInt8) : Bool := ((entsR kw vw b).s.err == 0) && (mayB kw vw (nodeR kw vw b) && (pageU (nodeR kw vw b) == b))
def nodeZ : Nd := ⟨false, [], [], []⟩
def resN (kw vw : Int) (b : List UInt8) : Nd := if rightN kw vw then (if okR kw vw b then nodeR kw vw b else nodeZ) else nodeZ
def errN (kw vw : Int) (b : List UInt8) : Int := if rightN kw vw then (if okR kw vw b then 0 else 3) else 2

theorem be2_small (n : Nat) (h : n < 65536) (r : List UInt8) : tk 2 ⟨be 2 n ++ r, 0⟩ = ⟨r, 0⟩ ∧ tkV 2 ⟨be 2 n ++ r, 0⟩ = n := tk2_app n r h
theorem tx_int {ys : List UInt8} {n : Int} (h : (ys.length : Int) = n) (r : List UInt8) : tx n ⟨ys ++ r, 0⟩ = ⟨r, 0⟩ ∧ txV n ⟨ys ++ r, 0⟩ = ys := by
  subst h
  exact tx_app ys r

/-- the bytes of the children from one on -/
def kidD (ks : List Int) : List UInt8 := ks.flatMap fun k => be 2 k.toNat
def entD (leaf : Bool) : List (List UInt8) → List (List UInt8) → List UInt8
  | [], _ => []
  | k :: ks, [] => k ++ entD leaf ks []
  | k :: ks, v :: vs => k ++ ((if leaf then v else []) ++ entD leaf ks vs)
theorem kidU_D (ks : List Int) : kidU ks ks.length = kidD ks := by
  have main : ∀ i, i ≤ ks.length → kidU ks i = kidD (ks.take i) := by
    intro i
    induction i with
    | zero => intro _; simp [kidU, kidD]
    | succ i ih =>
      intro h
      rw [kidU, ih (by omega), List.take_succ_eq_append_getElem (by omega), List.getD_eq_getElem?_getD, List.getElem?_eq_getElem (by omega)]
      simp only [kidD, List.flatMap_append, List.flatMap_cons, List.flatMap_nil, List.append_nil, Option.getD_some]
  have := main ks.length (Nat.le_refl _)
  rwa [List.take_length] at this
theorem rdK_D : ∀ (ks acc : List Int) (r : List UInt8), (∀ k ∈ ks, kidOk k = true) → rdK ks.length (acc, ⟨kidD ks ++ r, 0⟩) = (acc ++ ks, ⟨r, 0⟩)
  | [], acc, r, _ => by simp [rdK, kidD]
  | k :: ks, acc, r, h => by
    have hk := h k (by simp)
    simp only [kidOk, Bool.and_eq_true, decide_eq_true_eq] at hk
    have e : kidD (k :: ks) ++ r = be 2 k.toNat ++ (kidD ks ++ r) := by simp [kidD]
    have h2 := be2_small k.toNat (by omega) (kidD ks ++ r)
    rw [e, List.length_cons, rdK]
    simp only [if_true, h2.1, h2.2]
    rw [Int.toNat_of_nonneg (by omega), rdK_D ks _ r (fun x hx => h x (by simp [hx]))]
    simp
theorem entU_D (leaf : Bool) (ks vs : List (List UInt8)) : ∀ i, i ≤ ks.length → entU leaf ks vs i = entD leaf (ks.take i) vs := by
  have snoc : ∀ (us vs : List (List UInt8)) (k : List UInt8), entD leaf (us ++ [k]) vs = entD leaf us vs ++ (k ++ if leaf then vs.getD us.length [] else []) := by
    intro us
    induction us with
    | nil =>
      intro vs k
      cases vs <;> simp [entD]
    | cons a us ih =>
      intro vs k
      cases vs with
      | nil =>
        rw [List.cons_append, entD, entD, ih]
        simp
      | cons v vs =>
        rw [List.cons_append, entD, entD, ih]
        simp
  intro i
  induction i with
  | zero => intro _; simp [entU, entD]
  | succ i ih =>
    intro h
    rw [entU, ih (by omega), List.take_succ_eq_append_getElem (by omega), snoc, List.length_take, Nat.min_eq_left (by omega)]
    congr 2
    rw [List.getD_eq_getElem?_getD, List.getElem?_eq_getElem (by omega)]
    rfl
theorem rdE_leaf {kw vw : Int} : ∀ (ks vs a b : List (List UInt8)) (r : List UInt8), ks.length = vs.length → wideL ks kw = true → wideL vs vw = true → rdE true kw vw ks.length ⟨a, b, ⟨entD true ks vs ++ r, 0⟩⟩ = ⟨a ++ ks, b ++ vs, ⟨r, 0⟩⟩
  | [], [], a, b, r, _, _, _ => by simp [rdE, entD]
  | [], v :: vs, a, b, r, h, _, _ => by simp at h
  | k :: ks, [], a, b, r, h, _, _ => by simp at h
  | k :: ks, v :: vs, a, b, r, h, hk, hv => by
    simp only [wideL, List.all_cons, Bool.and_eq_true, beq_iff_eq] at hk hv
    have e : entD true (k :: ks) (v :: vs) ++ r = k ++ (v ++ (entD true ks vs ++ r)) := by simp [entD]
    have h1 := tx_int hk.1 (v ++ (entD true ks vs ++ r))
    have h2 := tx_int hv.1 (entD true ks vs ++ r)
    rw [e, List.length_cons, rdE]
    simp only [if_true, rdStep, h1.1, h1.2, h2.1, h2.2]
    rw [rdE_leaf ks vs _ _ r (by simpa using h) hk.2 hv.2]
    simp
theorem rdE_inner {kw vw : Int} : ∀ (ks a : List (List UInt8)) (r : List UInt8), wideL ks kw = true → rdE false kw vw ks.length ⟨a, [], ⟨entD false ks [] ++ r, 0⟩⟩ = ⟨a ++ ks, [], ⟨r, 0⟩⟩
  | [], a, r, _ => by simp [rdE, entD]
  | k :: ks, a, r, hk => by
    simp only [wideL, List.all_cons, Bool.and_eq_true, beq_iff_eq] at hk
    have e : entD false (k :: ks) [] ++ r = k ++ (entD false ks [] ++ r) := by simp [entD]
    have h1 := tx_int hk.1 (entD false ks [] ++ r)
    rw [e, List.length_cons, rdE]
    simp only [if_true, rdStep, h1.1, h1.2, Bool.false_eq_true, if_false]
    rw [rdE_inner ks _ r hk.2]
    simp

/-- what was put is taken as itself -/
theorem put_take {kw vw : Int} {n : Nd} (h : mayN kw vw n = true) : resN kw vw (pageU n) = n ∧ errN kw vw (pageU n) = 0 := by
  have hb := body_len h
  have h' := h
  simp only [mayN, Bool.and_eq_true] at h
  obtain ⟨hr, hm⟩ := h
  have hm' := hm
  have hr' := rightN_iff.1 hr
  simp only [mayB, Bool.and_eq_true] at hm
  obtain ⟨_, hw, hm⟩ := hm
  obtain ⟨leaf, keys, vals, kids⟩ := n
  simp only at hw hm
  have hkl : keys.length < 65536 := by
    have e : (bodyU ⟨leaf, keys, vals, kids⟩).length = 4 + (2 * kids.length + (entU leaf keys vals keys.length).length) := by
      rw [bodyU, List.length_append, List.length_append, headU_len, kidU_len]
    cases leaf with
    | true =>
      simp only [if_true, mayL, Bool.and_eq_true, beq_iff_eq, decide_eq_true_eq, capN, hr] at hm
      have := Int.ediv_le_self (kw + vw) (show (0 : Int) ≤ 508 by omega)
      omega
    | false =>
      simp only [Bool.false_eq_true, if_false, mayI, Bool.and_eq_true, beq_iff_eq] at hm
      omega
  generalize hz : List.replicate (512 - (bodyU ⟨leaf, keys, vals, kids⟩).length) (0 : UInt8) = zs
  have hp : pageU ⟨leaf, keys, vals, kids⟩ = (if leaf then 1 else 2) :: 0 :: (be 2 keys.length ++ (kidD kids ++ (entD leaf keys vals ++ zs))) := by
    rw [pageU, hz, bodyU, headU, kidU_D, entU_D leaf keys vals keys.length (Nat.le_refl _), List.take_length]
    simp
  have s1 := tk1_app (if leaf then 1 else 2) (0 :: (be 2 keys.length ++ (kidD kids ++ (entD leaf keys vals ++ zs)))) (by split <;> omega)
  have e1 : be 1 (if leaf then 1 else 2) = [if leaf then 1 else 2] := by cases leaf <;> rfl
  rw [e1] at s1
  have s2 := tk1_app 0 (be 2 keys.length ++ (kidD kids ++ (entD leaf keys vals ++ zs))) (by omega)
  rw [show be 1 0 = [0] from rfl] at s2
  have s3 := be2_small keys.length hkl (kidD kids ++ (entD leaf keys vals ++ zs))
  simp only [List.cons_append, List.nil_append] at s1 s2
  have r1 : leafR (pageU ⟨leaf, keys, vals, kids⟩) = leaf := by rw [leafR, hp, s1.2]; cases leaf <;> rfl
  have r2 : keysR (pageU ⟨leaf, keys, vals, kids⟩) = keys.length := by rw [keysR, hp, s1.1, s2.1, s3.2]
  have r3 : st3 (pageU ⟨leaf, keys, vals, kids⟩) = ⟨kidD kids ++ (entD leaf keys vals ++ zs), 0⟩ := by rw [st3, hp, s1.1, s2.1, s3.1]
  have r4 : kidsR (pageU ⟨leaf, keys, vals, kids⟩) = (kids, ⟨entD leaf keys vals ++ zs, 0⟩) := by
    rw [kidsR, r1, r2, r3]
    cases leaf with
    | true =>
      simp only [if_true, mayL, Bool.and_eq_true, beq_iff_eq] at hm
      have : kids = [] := List.eq_nil_of_length_eq_zero (by omega)
      subst this
      simp [kidD]
    | false =>
      simp only [Bool.false_eq_true, if_false, mayI, Bool.and_eq_true, beq_iff_eq] at hm
      have hk : keys.length + 1 = kids.length := by omega
      rw [hk]
      simp only [Bool.false_eq_true, if_false]
      rw [rdK_D kids [] _ (List.all_eq_true.1 hm.1)]
      simp
  have r5 : entsR kw vw (pageU ⟨leaf, keys, vals, kids⟩) = ⟨keys, vals, ⟨zs, 0⟩⟩ := by
    rw [entsR, r1, r2, r4]
    cases leaf with
    | true =>
      simp only [if_true, mayL, Bool.and_eq_true, beq_iff_eq] at hm
      rw [rdE_leaf keys vals [] [] zs (by omega) hw hm.2.2.1]
      simp
    | false =>
      simp only [Bool.false_eq_true, if_false, mayI, Bool.and_eq_true, beq_iff_eq] at hm
      have : vals = [] := List.eq_nil_of_length_eq_zero (by omega)
      subst this
      rw [rdE_inner keys [] zs hw]
      simp
  have r6 : nodeR kw vw (pageU ⟨leaf, keys, vals, kids⟩) = ⟨leaf, keys, vals, kids⟩ := by rw [nodeR, r1, r4, r5]
  have r7 : okR kw vw (pageU ⟨leaf, keys, vals, kids⟩) = true := by
    rw [okR, r6, r5, hm']
    simp
  refine ⟨?_, ?_⟩
  · rw [resN, hr, r7, r6]; rfl
  · rw [errN, hr, r7]; rfl
theorem take_ok {kw vw : Int} {b : List UInt8} (h : errN kw vw b = 0) : mayN kw vw (resN kw vw b) = true ∧ pageU (resN kw vw b) = b := by
  unfold errN at h
  unfold resN
  split at h
  · rename_i hr
    split at h
    · rename_i ho
      rw [if_pos hr, if_pos ho]
      simp only [okR, Bool.and_eq_true, beq_iff_eq] at ho
      refine ⟨?_, ho.2.2⟩
      rw [mayN, hr, ho.2.1]; rfl
    · simp at h
  · simp at h
theorem take_not {kw vw : Int} {b : List UInt8} (h : errN kw vw b ≠ 0) : resN kw vw b = nodeZ ∧ (errN kw vw b == 2) = !rightN kw vw := by
  unfold errN at h ⊢
  unfold resN
  cases hr : rightN kw vw with
  | false => exact ⟨rfl, rfl⟩
  | true =>
    rw [hr] at h
    simp only [if_true] at h ⊢
    cases ho : okR kw vw b with
    | true => rw [ho] at h; simp at h
    | false => exact ⟨rfl, rfl⟩
end Go.Proofs.Ytohdljcpaogokaa
