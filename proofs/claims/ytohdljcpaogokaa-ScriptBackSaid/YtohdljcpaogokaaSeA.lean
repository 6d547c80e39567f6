/-
  Calls as values: their bytes, whether they may be, and the call of bytes; what was put is taken as itself. Plain law, no program.
-/
import Derived.Test.YtohdljcpaogokaaSt1
import Derived.Test.YtohdljcpaogokaaSlo
import Derived.Test.YtohdljcpaogokaaNu
import Derived.Test.YtohdljcpaogokaaSli
import Derived.Deep.RegionHeld3
import Derived.Test.YtohdljcpaogokaaFr
namespace Go.Proofs.Ytohdljcpaogokaa
open Go.RowKit Go.SL

/-- an entry of a tree -/
structure TE where
  path : List UInt8
  dir : Bool
  data : List UInt8
deriving DecidableEq
/-- a call -/
structure SE where
  do_ : UInt8
  name : List UInt8
  path : List UInt8
  tree : List TE
  acts : Nat
  keep : List UInt8
deriving DecidableEq

def SE.good (x : SE) : Prop := x.acts < 65536

def nmB (s : List UInt8) : List UInt8 := UInt8.ofNat s.length :: s
def teB (y : TE) : List UInt8 := nmB y.path ++ ((if y.dir then 1 else 0) :: (be 2 y.data.length ++ y.data))
def treeB (t : List TE) : List UInt8 := UInt8.ofNat t.length :: t.flatMap teB
def teOk (y : TE) : Bool := decide (y.path.length ≤ 255) && decide (y.data.length ≤ 65535)

/-- what of a call is put: which of its parts -/
def hasName (d : UInt8) : Bool := d == 0 || d == 1 || d == 2 || d == 3
def hasPath (d : UInt8) : Bool := d == 2 || d == 3
def hasTree (d : UInt8) : Bool := d == 0
def hasActs (d : UInt8) : Bool := d == 7
def hasKeep (d : UInt8) : Bool := d == 7 || d == 8

def bodyE (x : SE) : List UInt8 :=
  (if hasName x.do_ then nmB x.name else []) ++ ((if hasPath x.do_ then nmB x.path else []) ++ ((if hasTree x.do_ then treeB x.tree else []) ++ ((if hasActs x.do_ then be 2 x.acts else []) ++ (if hasKeep x.do_ then nmB x.keep else []))))
def entB (x : SE) : List UInt8 := x.do_ :: bodyE x
/-- the call with its other parts empty -/
def normE (x : SE) : SE := ⟨x.do_, if hasName x.do_ then x.name else [], if hasPath x.do_ then x.path else [], if hasTree x.do_ then x.tree else [], if hasActs x.do_ then x.acts else 0, if hasKeep x.do_ then x.keep else []⟩
/-- do its parts go in? -/
def fitsE (x : SE) : Bool :=
  (!hasName x.do_ || decide (x.name.length ≤ 255)) && ((!hasPath x.do_ || decide (x.path.length ≤ 255)) && ((!hasTree x.do_ || (decide (x.tree.length ≤ 255) && x.tree.all teOk)) && (!hasKeep x.do_ || decide (x.keep.length ≤ 255))))
/-- may it be? -/
def mayE (x : SE) : Bool :=
  decide (x.do_.toNat ≤ 10) && (fitsE x && ((hasName x.do_ || x.name.isEmpty) && ((hasPath x.do_ || x.path.isEmpty) && ((hasTree x.do_ || x.tree.isEmpty) && ((hasActs x.do_ || x.acts == 0) && (hasKeep x.do_ || x.keep.isEmpty))))))

def pte (s : St) : TE × St :=
  let s1 := nm s
  let s2 := tk 1 s1
  let s3 := tk 2 s2
  (⟨nmV s, tkV 1 s1 == 1, txV (tkV 2 s2) s3⟩, tx (tkV 2 s2) s3)
def ptes : Nat → St → List TE × St
  | 0, s => ([], s)
  | n + 1, s => ((ptes n s).1 ++ [(pte (ptes n s).2).1], (pte (ptes n s).2).2)
def pent (s : St) : SE × St :=
  let d := UInt8.ofNat (tkV 1 s)
  let s1 := tk 1 s
  let s2 := if hasName d then nm s1 else s1
  let s3 := if hasPath d then nm s2 else s2
  let s4 := if hasTree d then (ptes (tkV 1 s3) (tk 1 s3)).2 else s3
  let s5 := if hasActs d then tk 2 s4 else s4
  (⟨d, if hasName d then nmV s1 else [], if hasPath d then nmV s2 else [], if hasTree d then (ptes (tkV 1 s3) (tk 1 s3)).1 else [], if hasActs d then tkV 2 s4 % 65536 else 0, if hasKeep d then nmV s5 else []⟩, if hasKeep d then nm s5 else s5)

theorem pte_len (s : St) : (pte s).2.bs.length ≤ s.bs.length := by
  unfold pte
  exact Nat.le_trans (tx_len _ _) (Nat.le_trans (tk_len _ _) (Nat.le_trans (tk_len _ _) (nm_len _)))
theorem ptes_len (s : St) : ∀ n, (ptes n s).2.bs.length ≤ s.bs.length
  | 0 => Nat.le_refl _
  | n + 1 => Nat.le_trans (pte_len _) (ptes_len s n)
theorem ptes_count (s : St) : ∀ n, (ptes n s).1.length = n
  | 0 => rfl
  | n + 1 => by simp [ptes, ptes_count s n]
theorem pent_len (s : St) : (pent s).2.bs.length ≤ (tk 1 s).bs.length := by
  unfold pent
  simp only
  have h : ∀ (b : Bool) (a c m : St), a.bs.length ≤ m.bs.length → c.bs.length ≤ m.bs.length → (if b then a else c).bs.length ≤ m.bs.length := fun b a c m h1 h2 => by cases b <;> simpa
  have h2 := h (hasName (UInt8.ofNat (tkV 1 s))) _ _ _ (nm_len (tk 1 s)) (Nat.le_refl _)
  generalize (if hasName (UInt8.ofNat (tkV 1 s)) = true then nm (tk 1 s) else tk 1 s) = s2 at *
  have h3 := h (hasPath (UInt8.ofNat (tkV 1 s))) (nm s2) s2 _ (Nat.le_trans (nm_len _) h2) h2
  generalize (if hasPath (UInt8.ofNat (tkV 1 s)) = true then nm s2 else s2) = s3 at *
  have h4 := h (hasTree (UInt8.ofNat (tkV 1 s))) (ptes (tkV 1 s3) (tk 1 s3)).2 s3 _ (Nat.le_trans (ptes_len _ _) (Nat.le_trans (tk_len _ _) h3)) h3
  generalize (if hasTree (UInt8.ofNat (tkV 1 s)) = true then (ptes (tkV 1 s3) (tk 1 s3)).2 else s3) = s4 at *
  have h5 := h (hasActs (UInt8.ofNat (tkV 1 s))) (tk 2 s4) s4 _ (Nat.le_trans (tk_len _ _) h4) h4
  generalize (if hasActs (UInt8.ofNat (tkV 1 s)) = true then tk 2 s4 else s4) = s5 at *
  exact h _ _ _ _ (Nat.le_trans (nm_len _) h5) h5
theorem pent_good (s : St) : (pent s).1.good := by
  unfold pent SE.good
  simp only
  split
  · exact Nat.mod_lt _ (by omega)
  · omega

theorem nmB_app {ys : List UInt8} (r : List UInt8) (hl : ys.length ≤ 255) : nm ⟨nmB ys ++ r, 0⟩ = ⟨r, 0⟩ ∧ nmV ⟨nmB ys ++ r, 0⟩ = ys := nm_app ys r (by omega)
theorem pte_put {y : TE} (h : teOk y = true) (r : List UInt8) : pte ⟨teB y ++ r, 0⟩ = (y, ⟨r, 0⟩) := by
  obtain ⟨path, dir, data⟩ := y
  simp only [teOk, Bool.and_eq_true, decide_eq_true_eq] at h
  have h1 := nmB_app ((if dir then 1 else 0) :: (be 2 data.length ++ data) ++ r) h.1
  have h2 := tk1_app (if dir then 1 else 0) (be 2 data.length ++ (data ++ r)) (by split <;> omega)
  have e : be 1 (if dir then 1 else 0) = [if dir then 1 else 0] := by cases dir <;> rfl
  rw [e] at h2
  have h3 := tk2_app data.length (data ++ r) (by omega)
  have h4 := tx_app data r
  simp only [List.append_assoc, List.cons_append, List.nil_append] at h1 h2 h3 h4
  simp only [pte, teB, List.append_assoc, List.cons_append, List.nil_append, h1.1, h1.2, h2.1, h2.2, h3.1, h3.2, h4.1, h4.2]
  cases dir <;> simp
theorem ptes_put {t : List TE} (h : t.all teOk = true) (r : List UInt8) : ptes t.length ⟨t.flatMap teB ++ r, 0⟩ = (t, ⟨r, 0⟩) := by
  have main : ∀ n, n ≤ t.length → ptes n ⟨t.flatMap teB ++ r, 0⟩ = (t.take n, ⟨(t.drop n).flatMap teB ++ r, 0⟩) := by
    intro n
    induction n with
    | zero => intro _; simp [ptes]
    | succ n ih =>
      intro hn
      rw [ptes, ih (by omega)]
      have hlt : n < t.length := hn
      have hg : teOk t[n] = true := List.all_eq_true.1 h _ (List.getElem_mem hlt)
      have e : (t.drop n).flatMap teB ++ r = teB t[n] ++ ((t.drop (n + 1)).flatMap teB ++ r) := by
        conv => lhs; rw [List.drop_eq_getElem_cons hlt, List.flatMap_cons]
        rw [List.append_assoc]
      simp only [e, pte_put hg]
      rw [List.take_succ_eq_append_getElem hlt]
  have h := main t.length (Nat.le_refl _)
  rw [List.take_length, List.drop_length] at h
  exact h

/-- what was put is taken as itself, but for parts that a call does not have -/
theorem pent_put {x : SE} (hg : x.good) (h : fitsE x = true) (r : List UInt8) : pent ⟨entB x ++ r, 0⟩ = (normE x, ⟨r, 0⟩) := by
  obtain ⟨d, name, path, tree, acts, keep⟩ := x
  simp only [fitsE, Bool.and_eq_true, Bool.or_eq_true, Bool.not_eq_true', decide_eq_true_eq] at h
  obtain ⟨f1, f2, f3, f4⟩ := h
  have hd : ∀ q, tk 1 ⟨d :: q, 0⟩ = ⟨q, 0⟩ ∧ tkV 1 ⟨d :: q, 0⟩ = d.toNat := fun q => by
    have := tk1_app d.toNat q d.toNat_lt
    rwa [be_one'] at this
  have e0 : UInt8.ofNat d.toNat = d := by simp
  have n1 : hasName d = true → ∀ q, nm ⟨nmB name ++ q, 0⟩ = ⟨q, 0⟩ ∧ nmV ⟨nmB name ++ q, 0⟩ = name := fun h q => nmB_app q (f1.resolve_left (by simp [h]))
  have n2 : hasPath d = true → ∀ q, nm ⟨nmB path ++ q, 0⟩ = ⟨q, 0⟩ ∧ nmV ⟨nmB path ++ q, 0⟩ = path := fun h q => nmB_app q (f2.resolve_left (by simp [h]))
  have n3 : hasTree d = true → ∀ q, (tk 1 ⟨treeB tree ++ q, 0⟩ = ⟨tree.flatMap teB ++ q, 0⟩ ∧ tkV 1 ⟨treeB tree ++ q, 0⟩ = tree.length) ∧ ptes tree.length ⟨tree.flatMap teB ++ q, 0⟩ = (tree, ⟨q, 0⟩) := fun h q => by
    obtain ⟨g1, g2⟩ := f3.resolve_left (by simp [h])
    have := tk1_app tree.length (tree.flatMap teB ++ q) (by omega)
    rw [be_one] at this
    exact ⟨this, ptes_put g2 q⟩
  have n4 : ∀ q, tk 2 ⟨be 2 acts ++ q, 0⟩ = ⟨q, 0⟩ ∧ tkV 2 ⟨be 2 acts ++ q, 0⟩ = acts := fun q => tk2_app acts q hg
  have n5 : hasKeep d = true → ∀ q, nm ⟨nmB keep ++ q, 0⟩ = ⟨q, 0⟩ ∧ nmV ⟨nmB keep ++ q, 0⟩ = keep := fun h q => nmB_app q (f4.resolve_left (by simp [h]))
  have ha : acts % 65536 = acts := Nat.mod_eq_of_lt hg
  simp only [pent, entB, bodyE, normE, List.cons_append, hd, e0, List.append_assoc]
  cases c1 : hasName d with
  | true =>
    simp only [if_true, n1 c1]
    cases c2 : hasPath d with
    | true =>
      simp only [if_true, n2 c2]
      have c3 : hasTree d = false := by
        simp only [hasPath, hasTree, Bool.or_eq_true, beq_iff_eq, beq_eq_false_iff_ne] at c2 ⊢
        rcases c2 with rfl | rfl <;> decide
      have c4 : hasActs d = false := by
        simp only [hasPath, hasActs, Bool.or_eq_true, beq_iff_eq, beq_eq_false_iff_ne] at c2 ⊢
        rcases c2 with rfl | rfl <;> decide
      have c5 : hasKeep d = false := by
        simp only [hasPath, Bool.or_eq_true, beq_iff_eq] at c2
        rcases c2 with rfl | rfl <;> rfl
      simp [c3, c4, c5]
    | false =>
      simp only [Bool.false_eq_true, if_false, List.nil_append]
      cases c3 : hasTree d with
      | true =>
        have c4 : hasActs d = false := by
          simp only [hasTree, beq_iff_eq] at c3
          subst c3; rfl
        have c5 : hasKeep d = false := by
          simp only [hasTree, beq_iff_eq] at c3
          subst c3; rfl
        simp only [if_true, n3 c3, c4, c5, Bool.false_eq_true, if_false, List.nil_append]
      | false =>
        have c4 : hasActs d = false := by
          simp only [hasName, Bool.or_eq_true, beq_iff_eq] at c1
          rcases c1 with ((rfl | rfl) | rfl) | rfl <;> rfl
        have c5 : hasKeep d = false := by
          simp only [hasName, Bool.or_eq_true, beq_iff_eq] at c1
          rcases c1 with ((rfl | rfl) | rfl) | rfl <;> rfl
        simp [c4, c5]
  | false =>
    have c2 : hasPath d = false := by
      simp only [hasName, hasPath, Bool.or_eq_false_iff] at c1 ⊢
      exact ⟨c1.1.2, c1.2⟩
    have c3 : hasTree d = false := by
      simp only [hasName, hasTree, Bool.or_eq_false_iff] at c1 ⊢
      exact c1.1.1.1
    simp only [c2, c3, Bool.false_eq_true, if_false, List.nil_append]
    cases c4 : hasActs d with
    | true =>
      have c5 : hasKeep d = true := by
        simp only [hasActs, beq_iff_eq] at c4
        subst c4; rfl
      simp only [if_true, n4, c5, n5 c5, ha]
    | false =>
      simp only [Bool.false_eq_true, if_false, List.nil_append]
      cases c5 : hasKeep d with
      | true => simp only [if_true, n5 c5]
      | false => simp

theorem mayE_norm {x : SE} (h : mayE x = true) : normE x = x := by
  obtain ⟨d, name, path, tree, acts, keep⟩ := x
  simp only [mayE, Bool.and_eq_true, Bool.or_eq_true, List.isEmpty_iff, beq_iff_eq] at h
  obtain ⟨_, _, h1, h2, h3, h4, h5⟩ := h
  simp only [normE, SE.mk.injEq, true_and]
  refine ⟨?_, ?_, ?_, ?_, ?_⟩
  · split
    · rfl
    · rename_i c; exact (h1.resolve_left c).symm
  · split
    · rfl
    · rename_i c; exact (h2.resolve_left c).symm
  · split
    · rfl
    · rename_i c; exact (h3.resolve_left c).symm
  · split
    · rfl
    · rename_i c; exact (h4.resolve_left c).symm
  · split
    · rfl
    · rename_i c; exact (h5.resolve_left c).symm
theorem norm_mayE {x : SE} (h10 : x.do_.toNat ≤ 10) (hf : fitsE x = true) (h : normE x = x) : mayE x = true := by
  obtain ⟨d, name, path, tree, acts, keep⟩ := x
  simp only [normE, SE.mk.injEq, true_and] at h
  obtain ⟨h1, h2, h3, h4, h5⟩ := h
  simp only [mayE, Bool.and_eq_true, Bool.or_eq_true, List.isEmpty_iff, beq_iff_eq, decide_eq_true_eq]
  refine ⟨h10, hf, ?_, ?_, ?_, ?_, ?_⟩
  · by_cases c : hasName d = true
    · exact .inl c
    · rw [if_neg c] at h1; exact .inr h1.symm
  · by_cases c : hasPath d = true
    · exact .inl c
    · rw [if_neg c] at h2; exact .inr h2.symm
  · by_cases c : hasTree d = true
    · exact .inl c
    · rw [if_neg c] at h3; exact .inr h3.symm
  · by_cases c : hasActs d = true
    · exact .inl c
    · rw [if_neg c] at h4; exact .inr h4.symm
  · by_cases c : hasKeep d = true
    · exact .inl c
    · rw [if_neg c] at h5; exact .inr h5.symm
theorem mayE_fits {x : SE} (h : mayE x = true) : fitsE x = true ∧ x.do_.toNat ≤ 10 := by
  simp only [mayE, Bool.and_eq_true, decide_eq_true_eq] at h
  exact ⟨h.2.1, h.1⟩

/-- all calls of bytes -/
def goesOn (s : St) : Bool := !s.bs.isEmpty && s.err == 0
theorem pent_less {s : St} (h : goesOn s = true) : (pent s).2.bs.length < s.bs.length := by
  obtain ⟨bs, err⟩ := s
  simp only [goesOn, Bool.and_eq_true, Bool.not_eq_true', beq_iff_eq] at h
  obtain ⟨h1, rfl⟩ := h
  rcases bs with _ | ⟨c, r⟩
  · simp at h1
  · have h2 := pent_len ⟨c :: r, 0⟩
    have h3 := tk1_app c.toNat r c.toNat_lt
    rw [be_one'] at h3
    simp only [List.cons_append, List.nil_append] at h3
    rw [h3.1] at h2
    simp only [List.length_cons] at h2 ⊢
    omega
def pall (s : St) : List SE × St :=
  if h : goesOn s = true then ((pent s).1 :: (pall (pent s).2).1, (pall (pent s).2).2) else ([], s)
termination_by s.bs.length
decreasing_by all_goals exact pent_less h

def allB (l : List SE) : List UInt8 := l.flatMap entB
def putS (l : List SE) : List UInt8 := if l.all mayE && decide ((allB l).length ≤ 4000) then allB l else []
def putSE (l : List SE) : Int := if l.all mayE then (if (allB l).length ≤ 4000 then 0 else 6) else 3

theorem pall_put {l : List SE} (hg : ∀ x ∈ l, x.good) (h : l.all mayE = true) : pall ⟨allB l, 0⟩ = (l, ⟨[], 0⟩) := by
  induction l with
  | nil => rw [pall]; rfl
  | cons x l ih =>
    simp only [List.all_cons, Bool.and_eq_true] at h
    have hx := mayE_fits h.1
    have hp := pent_put (hg x (by simp)) hx.1 (allB l)
    rw [mayE_norm h.1] at hp
    have e : allB (x :: l) = entB x ++ allB l := rfl
    have hgo : goesOn ⟨entB x ++ allB l, 0⟩ = true := by simp [goesOn, entB]
    rw [e, pall, dif_pos hgo, hp]
    simp only [ih (fun y hy => hg y (by simp [hy])) h.2]

/-- the script of bytes -/
def takeS (b : List UInt8) : Option (List SE) :=
  if (pall ⟨b, 0⟩).2.err == 0 && ((pall ⟨b, 0⟩).1.all mayE && (allB (pall ⟨b, 0⟩).1 == b)) then some (pall ⟨b, 0⟩).1 else none
theorem takeS_put {l : List SE} (hg : ∀ x ∈ l, x.good) (h : l.all mayE = true) : takeS (allB l) = some l := by
  unfold takeS
  rw [pall_put hg h]
  simp [h]
end Go.Proofs.Ytohdljcpaogokaa
namespace Go.Proofs.Ytohdljcpaogokaa
open Go.RowKit Go.SL

/-- a piece: how a part is put, and taken -/
def pcells (p : FuncId × FuncId) : List Value := [.func (Fn.func p.1) #[] #[], .func (Fn.func p.2) #[] #[]]
def pName : FuncId × FuncId := (77, 78)
def pPath : FuncId × FuncId := (79, 80)
def pKeep : FuncId × FuncId := (81, 82)
def pTree : FuncId × FuncId := (83, 84)
def pActs : FuncId × FuncId := (85, 86)
def piecesOf (d : UInt8) : List (FuncId × FuncId) :=
  (if hasActs d then [pActs] else []) ++ ((if hasName d then [pName] else []) ++ ((if hasPath d then [pPath] else []) ++ ((if hasTree d then [pTree] else []) ++ (if hasKeep d then [pKeep] else []))))

set_option maxRecDepth 100000 in
set_option maxHeartbeats 2000000 in
theorem pieces_run (d : UInt8) {l : List HProp} {w : World} (hE : Ent l w) :
    Calls Try.prog 43 #[.int .u8 d.toNat] w (Ret fun v w' => ∃ s0 s1 s2 s3 s7 s8 : Nat, v = lookI [(0, .slice (some ⟨s0, 0, none⟩) 2 2), (1, .slice (some ⟨s1, 0, none⟩) 1 1), (2, .slice (some ⟨s2, 0, none⟩) 2 2), (3, .slice (some ⟨s3, 0, none⟩) 2 2), (7, .slice (some ⟨s7, 0, none⟩) 2 2), (8, .slice (some ⟨s8, 0, none⟩) 1 1)] d.toNat (.slice none 0 0) ∧
      Ent (pt s8 (.cells (pcells pKeep).toArray 97) :: pt s7 (.cells (pcells pActs ++ pcells pKeep).toArray 97) :: pt s3 (.cells (pcells pName ++ pcells pPath).toArray 97) :: pt s2 (.cells (pcells pName ++ pcells pPath).toArray 97) :: pt s1 (.cells (pcells pName).toArray 97) :: pt s0 (.cells (pcells pName ++ pcells pTree).toArray 97) :: l) w') := by
  go_enter Try.func43, Try.ntmps43
  go_wp2_with (first
    | go_skip
    | ((with_reducible (show Go.wpList _ _ _ (Go.Oper.mk _ (.alloc _) _ _ _ _ :: _) _ _)); refine wpl_allocN hE rfl rfl (n := 2) (by kernel_rfl) ?_; clear hE; intro bn csq1 w1 q1 hE1; (try simp only [Act.put, List.setIfInBounds_toArray, List.set_cons_zero, List.set_cons_succ]))
    | ((with_reducible (show Go.wpList _ _ _ (Go.Oper.mk _ (.alloc _) _ _ _ _ :: _) _ _)); refine wpl_allocN hE1 rfl rfl (n := 2) (by kernel_rfl) ?_; clear hE1; intro bp csq2 w1 q2 hE2; (try simp only [Act.put, List.setIfInBounds_toArray, List.set_cons_zero, List.set_cons_succ]))
    | ((with_reducible (show Go.wpList _ _ _ (Go.Oper.mk _ (.store _ _ _) _ _ _ _ :: _) _ _)); refine wpl_storeN hE2 1 rfl rfl rfl (xs := pcells pName) rfl rfl Try.sizeOf97 rfl (by simp [pcells, Value.oneCell']) q1 ?_; clear hE2; intro w1 hE3; simp only [List.set_cons_zero, List.set_cons_succ] at hE3; (try simp only [Act.put, List.setIfInBounds_toArray, List.set_cons_zero, List.set_cons_succ]))
    | ((with_reducible (show Go.wpList _ _ _ (Go.Oper.mk _ (.store _ _ _) _ _ _ _ :: _) _ _)); refine wpl_storeN hE3 0 rfl rfl rfl (xs := pcells pPath) rfl rfl Try.sizeOf97 rfl (by simp [pcells, Value.oneCell']) q2 ?_; clear hE3; intro w1 hE4; simp only [List.set_cons_zero, List.set_cons_succ] at hE4; (try simp only [Act.put, List.setIfInBounds_toArray, List.set_cons_zero, List.set_cons_succ]))
    | ((with_reducible (show Go.wpList _ _ _ (Go.Oper.mk _ (.alloc _) _ _ _ _ :: _) _ _)); refine wpl_allocN hE4 rfl rfl (n := 2) (by kernel_rfl) ?_; clear hE4; intro bk csq3 w1 q3 hE5; (try simp only [Act.put, List.setIfInBounds_toArray, List.set_cons_zero, List.set_cons_succ]))
    | ((with_reducible (show Go.wpList _ _ _ (Go.Oper.mk _ (.store _ _ _) _ _ _ _ :: _) _ _)); refine wpl_storeN hE5 0 rfl rfl rfl (xs := pcells pKeep) rfl rfl Try.sizeOf97 rfl (by simp [pcells, Value.oneCell']) q3 ?_; clear hE5; intro w1 hE6; simp only [List.set_cons_zero, List.set_cons_succ] at hE6; (try simp only [Act.put, List.setIfInBounds_toArray, List.set_cons_zero, List.set_cons_succ]))
    | ((with_reducible (show Go.wpList _ _ _ (Go.Oper.mk _ (.makeMap _ _) _ _ _ _ :: _) _ _)); refine wpl_makeMapI hE6 .u8 rfl rfl ?_; clear hE6; intro r w1 hM0; (try simp only [Act.put, List.setIfInBounds_toArray, List.set_cons_zero, List.set_cons_succ]))
    | ((with_reducible (show Go.wpList _ _ _ (Go.Oper.mk _ (.load _ (.tmp 3)) _ _ _ _ :: _) _ _)); refine wpl_loadW hM0 3 rfl rfl rfl rfl Try.isAgg97 Try.sizeOf97 (xs := pcells pName) rfl ?_; (try simp only [Act.put, List.setIfInBounds_toArray, List.set_cons_zero, List.set_cons_succ]))
    | ((with_reducible (show Go.wpList _ _ _ (Go.Oper.mk _ (.buildSlice _ _ _) _ _ _ _ :: _) _ _)); refine wpl_build2 hM0 rfl rfl (xs := pcells pName) (ys := pcells pTree) rfl rfl Try.underlying92 (size := 2) (by kernel_rfl) Try.sizeOf97 (by decide) (by decide) rfl rfl ?_; clear hM0; intro s0 w1 hM1; (try simp only [Act.put, List.setIfInBounds_toArray, List.set_cons_zero, List.set_cons_succ]))
    | ((with_reducible (show Go.wpList _ _ _ (Go.Oper.mk _ (.insert _ _ _ _) _ _ _ _ :: _) _ _)); refine wpl_insertI hM1 1 (n := 0) (v := .slice (some ⟨s0, 0, none⟩) 2 2) rfl rfl rfl rfl rfl rfl Try.underlying134 Try.underlying5 (by rfl) ?_; clear hM1; intro w1 hM2; simp only [List.set_cons_zero, List.set_cons_succ, List.nil_append, List.cons_append] at hM2; (try simp only [Act.put, List.setIfInBounds_toArray, List.set_cons_zero, List.set_cons_succ]))
    | ((with_reducible (show Go.wpList _ _ _ (Go.Oper.mk _ (.load _ (.tmp 3)) _ _ _ _ :: _) _ _)); refine wpl_loadW hM2 4 rfl rfl rfl rfl Try.isAgg97 Try.sizeOf97 (xs := pcells pName) rfl ?_; (try simp only [Act.put, List.setIfInBounds_toArray, List.set_cons_zero, List.set_cons_succ]))
    | ((with_reducible (show Go.wpList _ _ _ (Go.Oper.mk _ (.buildSlice _ _ _) _ _ _ _ :: _) _ _)); refine wpl_build1 hM2 rfl rfl (xs := pcells pName) rfl Try.underlying92 (size := 2) (by kernel_rfl) Try.sizeOf97 (by decide) (by decide) rfl ?_; clear hM2; intro s1 w1 hM3; (try simp only [Act.put, List.setIfInBounds_toArray, List.set_cons_zero, List.set_cons_succ]))
    | ((with_reducible (show Go.wpList _ _ _ (Go.Oper.mk _ (.insert _ _ _ _) _ _ _ _ :: _) _ _)); refine wpl_insertI hM3 2 (n := 1) (v := .slice (some ⟨s1, 0, none⟩) 1 1) rfl rfl rfl rfl rfl rfl Try.underlying134 Try.underlying5 (by rfl) ?_; clear hM3; intro w1 hM4; simp only [List.set_cons_zero, List.set_cons_succ, List.nil_append, List.cons_append] at hM4; (try simp only [Act.put, List.setIfInBounds_toArray, List.set_cons_zero, List.set_cons_succ]))
    | ((with_reducible (show Go.wpList _ _ _ (Go.Oper.mk _ (.load _ (.tmp 3)) _ _ _ _ :: _) _ _)); refine wpl_loadW hM4 5 rfl rfl rfl rfl Try.isAgg97 Try.sizeOf97 (xs := pcells pName) rfl ?_; (try simp only [Act.put, List.setIfInBounds_toArray, List.set_cons_zero, List.set_cons_succ]))
    | ((with_reducible (show Go.wpList _ _ _ (Go.Oper.mk _ (.load _ (.tmp 4)) _ _ _ _ :: _) _ _)); refine wpl_loadW hM4 4 rfl rfl rfl rfl Try.isAgg97 Try.sizeOf97 (xs := pcells pPath) rfl ?_; (try simp only [Act.put, List.setIfInBounds_toArray, List.set_cons_zero, List.set_cons_succ]))
    | ((with_reducible (show Go.wpList _ _ _ (Go.Oper.mk _ (.buildSlice _ _ _) _ _ _ _ :: _) _ _)); refine wpl_build2 hM4 rfl rfl (xs := pcells pName) (ys := pcells pPath) rfl rfl Try.underlying92 (size := 2) (by kernel_rfl) Try.sizeOf97 (by decide) (by decide) rfl rfl ?_; clear hM4; intro s2 w1 hM5; (try simp only [Act.put, List.setIfInBounds_toArray, List.set_cons_zero, List.set_cons_succ]))
    | ((with_reducible (show Go.wpList _ _ _ (Go.Oper.mk _ (.insert _ _ _ _) _ _ _ _ :: _) _ _)); refine wpl_insertI hM5 3 (n := 2) (v := .slice (some ⟨s2, 0, none⟩) 2 2) rfl rfl rfl rfl rfl rfl Try.underlying134 Try.underlying5 (by rfl) ?_; clear hM5; intro w1 hM6; simp only [List.set_cons_zero, List.set_cons_succ, List.nil_append, List.cons_append] at hM6; (try simp only [Act.put, List.setIfInBounds_toArray, List.set_cons_zero, List.set_cons_succ]))
    | ((with_reducible (show Go.wpList _ _ _ (Go.Oper.mk _ (.load _ (.tmp 3)) _ _ _ _ :: _) _ _)); refine wpl_loadW hM6 6 rfl rfl rfl rfl Try.isAgg97 Try.sizeOf97 (xs := pcells pName) rfl ?_; (try simp only [Act.put, List.setIfInBounds_toArray, List.set_cons_zero, List.set_cons_succ]))
    | ((with_reducible (show Go.wpList _ _ _ (Go.Oper.mk _ (.load _ (.tmp 4)) _ _ _ _ :: _) _ _)); refine wpl_loadW hM6 5 rfl rfl rfl rfl Try.isAgg97 Try.sizeOf97 (xs := pcells pPath) rfl ?_; (try simp only [Act.put, List.setIfInBounds_toArray, List.set_cons_zero, List.set_cons_succ]))
    | ((with_reducible (show Go.wpList _ _ _ (Go.Oper.mk _ (.buildSlice _ _ _) _ _ _ _ :: _) _ _)); refine wpl_build2 hM6 rfl rfl (xs := pcells pName) (ys := pcells pPath) rfl rfl Try.underlying92 (size := 2) (by kernel_rfl) Try.sizeOf97 (by decide) (by decide) rfl rfl ?_; clear hM6; intro s3 w1 hM7; (try simp only [Act.put, List.setIfInBounds_toArray, List.set_cons_zero, List.set_cons_succ]))
    | ((with_reducible (show Go.wpList _ _ _ (Go.Oper.mk _ (.insert _ _ _ _) _ _ _ _ :: _) _ _)); refine wpl_insertI hM7 4 (n := 3) (v := .slice (some ⟨s3, 0, none⟩) 2 2) rfl rfl rfl rfl rfl rfl Try.underlying134 Try.underlying5 (by rfl) ?_; clear hM7; intro w1 hM8; simp only [List.set_cons_zero, List.set_cons_succ, List.nil_append, List.cons_append] at hM8; (try simp only [Act.put, List.setIfInBounds_toArray, List.set_cons_zero, List.set_cons_succ]))
    | ((with_reducible (show Go.wpList _ _ _ (Go.Oper.mk _ (.load _ (.tmp 5)) _ _ _ _ :: _) _ _)); refine wpl_loadW hM8 5 rfl rfl rfl rfl Try.isAgg97 Try.sizeOf97 (xs := pcells pKeep) rfl ?_; (try simp only [Act.put, List.setIfInBounds_toArray, List.set_cons_zero, List.set_cons_succ]))
    | ((with_reducible (show Go.wpList _ _ _ (Go.Oper.mk _ (.buildSlice _ _ _) _ _ _ _ :: _) _ _)); refine wpl_build2 hM8 rfl rfl (xs := pcells pActs) (ys := pcells pKeep) rfl rfl Try.underlying92 (size := 2) (by kernel_rfl) Try.sizeOf97 (by decide) (by decide) rfl rfl ?_; clear hM8; intro s7 w1 hM9; (try simp only [Act.put, List.setIfInBounds_toArray, List.set_cons_zero, List.set_cons_succ]))
    | ((with_reducible (show Go.wpList _ _ _ (Go.Oper.mk _ (.insert _ _ _ _) _ _ _ _ :: _) _ _)); refine wpl_insertI hM9 5 (n := 7) (v := .slice (some ⟨s7, 0, none⟩) 2 2) rfl rfl rfl rfl rfl rfl Try.underlying134 Try.underlying5 (by rfl) ?_; clear hM9; intro w1 hM10; simp only [List.set_cons_zero, List.set_cons_succ, List.nil_append, List.cons_append] at hM10; (try simp only [Act.put, List.setIfInBounds_toArray, List.set_cons_zero, List.set_cons_succ]))
    | ((with_reducible (show Go.wpList _ _ _ (Go.Oper.mk _ (.load _ (.tmp 5)) _ _ _ _ :: _) _ _)); refine wpl_loadW hM10 6 rfl rfl rfl rfl Try.isAgg97 Try.sizeOf97 (xs := pcells pKeep) rfl ?_; (try simp only [Act.put, List.setIfInBounds_toArray, List.set_cons_zero, List.set_cons_succ]))
    | ((with_reducible (show Go.wpList _ _ _ (Go.Oper.mk _ (.buildSlice _ _ _) _ _ _ _ :: _) _ _)); refine wpl_build1 hM10 rfl rfl (xs := pcells pKeep) rfl Try.underlying92 (size := 2) (by kernel_rfl) Try.sizeOf97 (by decide) (by decide) rfl ?_; clear hM10; intro s8 w1 hM11; (try simp only [Act.put, List.setIfInBounds_toArray, List.set_cons_zero, List.set_cons_succ]))
    | ((with_reducible (show Go.wpList _ _ _ (Go.Oper.mk _ (.insert _ _ _ _) _ _ _ _ :: _) _ _)); refine wpl_insertI hM11 6 (n := 8) (v := .slice (some ⟨s8, 0, none⟩) 1 1) rfl rfl rfl rfl rfl rfl Try.underlying134 Try.underlying5 (by rfl) ?_; clear hM11; intro w1 hM12; simp only [List.set_cons_zero, List.set_cons_succ, List.nil_append, List.cons_append] at hM12; (try simp only [Act.put, List.setIfInBounds_toArray, List.set_cons_zero, List.set_cons_succ]))
    | ((with_reducible (show Go.wpList _ _ _ (Go.Oper.mk _ (.lookup _ _ _ _) _ _ _ _ :: _) _ _)); refine wpl_lookupI hM12 6 (n := d.toNat) rfl rfl rfl rfl rfl Try.underlying134 Try.underlying5 (z := .slice none 0 0) (by first | (simp [go_sem]; done) | (simp [go_sem]; rfl)) ?_))
  go_ret
  exact ⟨_, rfl, s0, s1, s2, s3, s7, s8, rfl, (((hM12.erase 6).erase 6).erase 6).erase 6⟩
end Go.Proofs.Ytohdljcpaogokaa
namespace Go.Proofs.Ytohdljcpaogokaa
open Go.RowKit Go.SL

def pieceCells (ps : List (FuncId × FuncId)) : List Value := ps.flatMap pcells
theorem pieceCells_len (ps : List (FuncId × FuncId)) : (pieceCells ps).length = ps.length * 2 := by
  induction ps with
  | nil => rfl
  | cons p ps ih => simp only [pieceCells, List.flatMap_cons, List.length_append, List.length_cons] at ih ⊢; simp only [ih, pcells, List.length_cons, List.length_nil]; omega

theorem u8cases (d : UInt8) : d = 0 ∨ d = 1 ∨ d = 2 ∨ d = 3 ∨ d = 7 ∨ d = 8 ∨ (piecesOf d = [] ∧ (d.toNat : Int) ≠ 0 ∧ (d.toNat : Int) ≠ 1 ∧ (d.toNat : Int) ≠ 2 ∧ (d.toNat : Int) ≠ 3 ∧ (d.toNat : Int) ≠ 7 ∧ (d.toNat : Int) ≠ 8) := by
  have e : ∀ n : Nat, n < 256 → d ≠ UInt8.ofNat n → (d.toNat : Int) ≠ (n : Int) := fun n hn h h2 => h (by
    apply UInt8.toNat_inj.1
    simp
    omega)
  by_cases h0 : d = 0
  · exact .inl h0
  by_cases h1 : d = 1
  · exact .inr (.inl h1)
  by_cases h2 : d = 2
  · exact .inr (.inr (.inl h2))
  by_cases h3 : d = 3
  · exact .inr (.inr (.inr (.inl h3)))
  by_cases h7 : d = 7
  · exact .inr (.inr (.inr (.inr (.inl h7))))
  by_cases h8 : d = 8
  · exact .inr (.inr (.inr (.inr (.inr (.inl h8)))))
  refine .inr (.inr (.inr (.inr (.inr (.inr ⟨?_, e 0 (by omega) h0, e 1 (by omega) h1, e 2 (by omega) h2, e 3 (by omega) h3, e 7 (by omega) h7, e 8 (by omega) h8⟩)))))
  simp [piecesOf, hasName, hasPath, hasTree, hasActs, hasKeep, h0, h1, h2, h3, h7, h8]

theorem view_pt {l : List HProp} (i : Nat) {b n : Nat} {xs : List Value} {T : TypeId} (hi : l[i]? = some (pt b (.cells xs.toArray T))) :
    Knows l (reads (.slice (some ⟨b, 0, none⟩) n n) n xs) := fun W hW => reads_pt hW i hi (fun j u hu => by rw [Nat.zero_add, List.getElem?_toArray]; exact hu)

theorem Knows.left {m l : List HProp} {p : World → Prop} (h : Knows m p) : Knows (m ++ l) p := fun w hw => h w (hw.perm List.perm_append_comm).drop
theorem pieces_any (d : UInt8) {l : List HProp} {w : World} (hE : Ent l w) :
    Calls Try.prog 43 #[.int .u8 d.toNat] w (Ret fun v w' => ∃ ao c m, v = .slice ao (piecesOf d).length c ∧ Ent (m ++ l) w' ∧ Knows m (reads (.slice ao (piecesOf d).length c) (piecesOf d).length (pieceCells (piecesOf d)))) := by
  refine (pieces_run d hE).mono ?_
  rintro e w' ⟨v, rfl, s0, s1, s2, s3, s7, s8, rfl, hE'⟩
  rcases u8cases d with rfl | rfl | rfl | rfl | rfl | rfl | ⟨hp, h0, h1, h2, h3, h7, h8⟩
  · exact ⟨_, rfl, some ⟨s0, 0, none⟩, 2, [_, _, _, _, _, _], rfl, hE', view_pt (n := 2) 5 rfl⟩
  · exact ⟨_, rfl, some ⟨s1, 0, none⟩, 1, [_, _, _, _, _, _], rfl, hE', view_pt (n := 1) 4 rfl⟩
  · exact ⟨_, rfl, some ⟨s2, 0, none⟩, 2, [_, _, _, _, _, _], rfl, hE', view_pt (n := 2) 3 rfl⟩
  · exact ⟨_, rfl, some ⟨s3, 0, none⟩, 2, [_, _, _, _, _, _], rfl, hE', view_pt (n := 2) 2 rfl⟩
  · exact ⟨_, rfl, some ⟨s7, 0, none⟩, 2, [_, _, _, _, _, _], rfl, hE', view_pt (n := 2) 1 rfl⟩
  · exact ⟨_, rfl, some ⟨s8, 0, none⟩, 1, [_, _, _, _, _, _], rfl, hE', view_pt (n := 1) 0 rfl⟩
  · refine ⟨_, rfl, none, 0, [], ?_, hE'.tail.tail.tail.tail.tail.tail, ?_⟩
    · rw [hp]
      have f : ∀ n : Int, (d.toNat : Int) ≠ n → ((d.toNat : Int) == n) = false := fun n h => by simpa using h
      simp [lookI, List.find?_cons, f 0 h0, f 1 h1, f 2 h2, f 3 h3, f 7 h7, f 8 h8]
    · rw [hp]
      exact fun _ _ => reads_nil 0 0 rfl _

/-- a packer's state: its bytes, its error -/
abbrev PS := List UInt8 × Int
def pN (ys : List UInt8) (q : PS) : PS := if ys.length ≤ 255 then (q.1 ++ nmB ys, q.2) else (q.1, orLimit q.2)
def pW (w n : Nat) (q : PS) : PS := if numOk w n then (q.1 ++ be w n, q.2) else (q.1, orLimit q.2)
def pTE (y : TE) (q : PS) : PS := let r := pW 2 y.data.length (pW 1 (if y.dir then 1 else 0) (pN y.path q)); (r.1 ++ y.data, r.2)
def pTr (t : List TE) (q : PS) : PS := t.foldl (fun q y => pTE y q) (pW 1 t.length q)

theorem sPut {p width n : Nat} {q : PS} {l : List HProp} {w : World} (hE : Ent (packer p q.1 q.2 :: l) w) (hb : q.1.length ≤ 1099511627000) :
    Calls Try.prog 42 #[.pointer (some ⟨p, 0, none⟩), .int .i64 width, .int .u64 n] w (Ret fun v w' => v = .pointer (some ⟨p, 0, none⟩) ∧ Ent (packer p (pW width n q).1 (pW width n q).2 :: l) w') := by
  have h := Put_any p n width hE (by omega)
  unfold pW
  simp only [Int.toNat_natCast] at h
  cases hk : numOk (width : Int) n with
  | true => rw [hk] at h; exact h
  | false => rw [hk] at h; exact h
theorem sPut1 {p n : Nat} {q : PS} {l : List HProp} {w : World} (hE : Ent (packer p q.1 q.2 :: l) w) (hb : q.1.length ≤ 1099511627000) :
    Calls Try.prog 42 #[.pointer (some ⟨p, 0, none⟩), .int .i64 1, .int .u64 n] w (Ret fun v w' => v = .pointer (some ⟨p, 0, none⟩) ∧ Ent (packer p (pW 1 n q).1 (pW 1 n q).2 :: l) w') := sPut (width := 1) hE hb
theorem sPut2 {p n : Nat} {q : PS} {l : List HProp} {w : World} (hE : Ent (packer p q.1 q.2 :: l) w) (hb : q.1.length ≤ 1099511627000) :
    Calls Try.prog 42 #[.pointer (some ⟨p, 0, none⟩), .int .i64 2, .int .u64 n] w (Ret fun v w' => v = .pointer (some ⟨p, 0, none⟩) ∧ Ent (packer p (pW 2 n q).1 (pW 2 n q).2 :: l) w') := sPut (width := 2) hE hb
theorem sPName {p : Nat} {ys : List UInt8} {q : PS} {l : List HProp} {w : World} (hE : Ent (packer p q.1 q.2 :: l) w) (hb : q.1.length ≤ 1099511627000) :
    Calls Try.prog 67 #[.pointer (some ⟨p, 0, none⟩), .string ⟨ys.toArray⟩] w (Ret fun v w' => v = .pointer (some ⟨p, 0, none⟩) ∧ Ent (packer p (pN ys q).1 (pN ys q).2 :: l) w') := by
  unfold pN
  by_cases h : ys.length ≤ 255
  · rw [if_pos h]
    exact Name_ok p ys (by omega) hE (by omega)
  · rw [if_neg h]
    exact Name_bad (bs := q.1) (err := q.2) p ys (by omega) hE (by omega)
theorem sPText {p : Nat} {ys : List UInt8} {q : PS} {l : List HProp} {w : World} (hE : Ent (packer p q.1 q.2 :: l) w) (hb : q.1.length + ys.length ≤ 1099511627776) :
    Calls Try.prog 48 #[.pointer (some ⟨p, 0, none⟩), .string ⟨ys.toArray⟩] w (Ret fun v w' => v = .pointer (some ⟨p, 0, none⟩) ∧ Ent (packer p (q.1 ++ ys) q.2 :: l) w') := Text_any p ys hE hb

def xcells (x : SE) (ao : Option Addr) (c : Nat) : List Value := [.int .u8 x.do_.toNat, .string ⟨x.name.toArray⟩, .string ⟨x.path.toArray⟩, .slice ao x.tree.length c, .int .u16 x.acts, .string ⟨x.keep.toArray⟩]

set_option maxRecDepth 100000 in
theorem putName_any {x : SE} {ao : Option Addr} {c b p : Nat} {q : PS} {l : List HProp} {w : World} (hE : Ent (packer p q.1 q.2 :: pt b (.cells (xcells x ao c).toArray 87) :: l) w) (hb : q.1.length ≤ 1099511627000) :
    Calls Try.prog 77 #[.pointer (some ⟨b, 0, none⟩), .pointer (some ⟨p, 0, none⟩)] w (fun e w' => e = .returned (.tuple #[]) ∧ Ent (packer p (pN x.name q).1 (pN x.name q).2 :: pt b (.cells (xcells x ao c).toArray 87) :: l) w') := by
  go_enter Try.func77, Try.ntmps77
  go_wp2_with (first
    | ((with_reducible (show Go.wpList _ _ _ (Go.Oper.mk _ (.load _ _) _ _ _ _ :: _) _ _)); refine wpl_load1 hE 1 rfl rfl rfl rfl (by simp [go_sem]) rfl ?_)
    | (go_at_call 67; have H := sPName (ys := x.name) hE hb; refine H.mono ?_; clear H hE; rintro e w2 ⟨v, rfl, rfl, hE⟩))
  go_end0
  exact ⟨rfl, hE⟩
set_option maxRecDepth 100000 in
theorem putPath_any {x : SE} {ao : Option Addr} {c b p : Nat} {q : PS} {l : List HProp} {w : World} (hE : Ent (packer p q.1 q.2 :: pt b (.cells (xcells x ao c).toArray 87) :: l) w) (hb : q.1.length ≤ 1099511627000) :
    Calls Try.prog 79 #[.pointer (some ⟨b, 0, none⟩), .pointer (some ⟨p, 0, none⟩)] w (fun e w' => e = .returned (.tuple #[]) ∧ Ent (packer p (pN x.path q).1 (pN x.path q).2 :: pt b (.cells (xcells x ao c).toArray 87) :: l) w') := by
  go_enter Try.func79, Try.ntmps79
  go_wp2_with (first
    | ((with_reducible (show Go.wpList _ _ _ (Go.Oper.mk _ (.load _ _) _ _ _ _ :: _) _ _)); refine wpl_load1 hE 1 rfl rfl rfl rfl (by simp [go_sem]) rfl ?_)
    | (go_at_call 67; have H := sPName (ys := x.path) hE hb; refine H.mono ?_; clear H hE; rintro e w2 ⟨v, rfl, rfl, hE⟩))
  go_end0
  exact ⟨rfl, hE⟩
set_option maxRecDepth 100000 in
theorem putKeep_any {x : SE} {ao : Option Addr} {c b p : Nat} {q : PS} {l : List HProp} {w : World} (hE : Ent (packer p q.1 q.2 :: pt b (.cells (xcells x ao c).toArray 87) :: l) w) (hb : q.1.length ≤ 1099511627000) :
    Calls Try.prog 81 #[.pointer (some ⟨b, 0, none⟩), .pointer (some ⟨p, 0, none⟩)] w (fun e w' => e = .returned (.tuple #[]) ∧ Ent (packer p (pN x.keep q).1 (pN x.keep q).2 :: pt b (.cells (xcells x ao c).toArray 87) :: l) w') := by
  go_enter Try.func81, Try.ntmps81
  go_wp2_with (first
    | ((with_reducible (show Go.wpList _ _ _ (Go.Oper.mk _ (.load _ _) _ _ _ _ :: _) _ _)); refine wpl_load1 hE 1 rfl rfl rfl rfl (by simp [go_sem]) rfl ?_)
    | (go_at_call 67; have H := sPName (ys := x.keep) hE hb; refine H.mono ?_; clear H hE; rintro e w2 ⟨v, rfl, rfl, hE⟩))
  go_end0
  exact ⟨rfl, hE⟩
set_option maxRecDepth 100000 in
theorem putActs_any {x : SE} (hg : x.good) {ao : Option Addr} {c b p : Nat} {q : PS} {l : List HProp} {w : World} (hE : Ent (packer p q.1 q.2 :: pt b (.cells (xcells x ao c).toArray 87) :: l) w) (hb : q.1.length ≤ 1099511627000) :
    Calls Try.prog 85 #[.pointer (some ⟨b, 0, none⟩), .pointer (some ⟨p, 0, none⟩)] w (fun e w' => e = .returned (.tuple #[]) ∧ Ent (packer p (pW 2 x.acts q).1 (pW 2 x.acts q).2 :: pt b (.cells (xcells x ao c).toArray 87) :: l) w') := by
  have hw : IntKind.u64.wrap (x.acts : Int) = x.acts := wrapU_id (by have : x.acts < 65536 := hg; omega)
  unfold xcells at hE ⊢
  go_enter Try.func85, Try.ntmps85
  go_wp2_with (first
    | ((with_reducible (show Go.wpList _ _ _ (Go.Oper.mk _ (.load _ _) _ _ _ _ :: _) _ _)); refine wpl_load1 hE 1 rfl rfl rfl rfl (by simp [go_sem]) rfl ?_)
    | (go_at_call 42; have H := sPut2 (n := x.acts) hE hb; refine H.mono ?_; clear H hE; rintro e w2 ⟨v, rfl, rfl, hE⟩))
  go_end0
  exact ⟨rfl, hE⟩
end Go.Proofs.Ytohdljcpaogokaa
namespace Go.Proofs.Ytohdljcpaogokaa
open Go.RowKit Go.SL

def tcells (y : TE) : List Value := [.string ⟨y.path.toArray⟩, .bool y.dir, .string ⟨y.data.toArray⟩]
def treeCells (t : List TE) : List Value := t.flatMap tcells
theorem treeCells_len (t : List TE) : (treeCells t).length = t.length * 3 := flatMap_len tcells 3 (fun _ => rfl) t
theorem te_cells {w : World} {b off n c : Nat} {t : List TE} (hr : reads (.slice (some ⟨b, off, none⟩) n c) n (treeCells t) w) {i : Nat} (hi : i < t.length) :
    ∀ j v, (tcells t[i])[j]? = some v → w.cell? ((⟨b, off + i * 3, none⟩ : Addr).add j) = some v := by
  obtain ⟨ao, c', e, _, h2⟩ := hr
  cases e
  intro j v hv
  have := h2 _ rfl _ _ (flatMap_at tcells 3 (fun _ => rfl) t i j _ v (List.getElem?_eq_getElem hi) hv)
  rw [Addr.add_lit, ← Nat.add_assoc] at this
  rw [Addr.add_lit]
  exact this

theorem pW_len (w n : Nat) (q : PS) : (pW w n q).1.length ≤ q.1.length + w := by
  unfold pW
  split
  · simp only [List.length_append, be_length]; omega
  · simp only; omega
theorem pN_len (ys : List UInt8) (q : PS) : (pN ys q).1.length ≤ q.1.length + ys.length + 1 := by
  unfold pN
  split
  · simp only [List.length_append, nmB, List.length_cons]; omega
  · simp only; omega
theorem pTE_len (y : TE) (q : PS) : (pTE y q).1.length ≤ q.1.length + y.path.length + y.data.length + 4 := by
  unfold pTE
  simp only [List.length_append]
  have h1 := pN_len y.path q
  have h2 := pW_len 1 (if y.dir then 1 else 0) (pN y.path q)
  have h3 := pW_len 2 y.data.length (pW 1 (if y.dir then 1 else 0) (pN y.path q))
  omega
theorem fold_len (M : Nat) : ∀ (t : List TE) (q : PS), (∀ y ∈ t, y.path.length + y.data.length + 4 ≤ M) → (t.foldl (fun q y => pTE y q) q).1.length ≤ q.1.length + t.length * M
  | [], q, _ => by simp
  | y :: t, q, h => by
    have h1 := fold_len M t (pTE y q) (fun z hz => h z (by simp [hz]))
    have h2 := pTE_len y q
    have h3 := h y (by simp)
    simp only [List.foldl_cons, List.length_cons, Nat.succ_mul]
    omega

def PTrRel (t : List TE) (q0 : PS) (p : Nat) (l : List HProp) (i : Value) (wr : World) : Prop :=
  ∃ (k : Nat) (q : PS), k ≤ t.length ∧ i = .int .i64 k ∧ q = (t.take k).foldl (fun q y => pTE y q) q0 ∧ Ent (packer p q.1 q.2 :: l) wr

set_option maxRecDepth 100000 in
set_option maxHeartbeats 2000000 in
theorem putTree_any {x : SE} {ao : Option Addr} {c b p M : Nat} {q : PS} {l : List HProp} {w : World} (hE : Ent (packer p q.1 q.2 :: pt b (.cells (xcells x ao c).toArray 87) :: l) w)
    (hM : ∀ y ∈ x.tree, y.path.length + y.data.length + 4 ≤ M) (hb : q.1.length + x.tree.length * M ≤ 1099511000000) (hn : x.tree.length ≤ 1000000) (hk : Knows l (reads (.slice ao x.tree.length c) x.tree.length (treeCells x.tree))) :
    Calls Try.prog 83 #[.pointer (some ⟨b, 0, none⟩), .pointer (some ⟨p, 0, none⟩)] w (fun e w' => e = .returned (.tuple #[]) ∧ Ent (packer p (pTr x.tree q).1 (pTr x.tree q).2 :: pt b (.cells (xcells x ao c).toArray 87) :: l) w') := by
  have hM' := SL.hid hM
  clear hM
  have hw : IntKind.u64.wrap (x.tree.length : Int) = x.tree.length := wrapU_id (by omega)
  have hq0 := pW_len 1 x.tree.length q
  have hT : pTr x.tree q = x.tree.foldl (fun q y => pTE y q) (pW 1 x.tree.length q) := rfl
  rw [hT]
  clear hT
  unfold xcells at hE ⊢
  have hP : ∀ {l : List HProp} {w : World}, Ent (packer p q.1 q.2 :: l) w → Calls Try.prog 42 #[.pointer (some ⟨p, 0, none⟩), .int .i64 1, .int .u64 x.tree.length] w (Ret fun v w' => v = .pointer (some ⟨p, 0, none⟩) ∧ Ent (packer p (pW 1 x.tree.length q).1 (pW 1 x.tree.length q).2 :: l) w') := fun h => sPut1 h (by omega)
  generalize pW 1 x.tree.length q = q0 at *
  obtain ⟨d, name, path, tr, acts, keep⟩ := x
  simp only at *
  go_enter Try.func83, Try.ntmps83
  go_wp2_with (first
    | ((with_reducible (show Go.wpList _ _ _ (Go.Oper.mk _ (.load _ _) _ _ _ _ :: _) _ _)); refine wpl_load1 hE 1 rfl rfl rfl rfl (by simp [go_sem]) rfl ?_)
    | (go_at_call 42; have H := hP hE; refine H.mono ?_; clear H hE; rintro e w2 ⟨v, rfl, rfl, hE1⟩)
    | ((with_reducible (show Go.wpList _ _ _ (Go.Oper.mk _ (.load _ _) _ _ _ _ :: _) _ _)); refine wpl_load1 hE1 1 rfl rfl rfl rfl (by simp [go_sem]) rfl ?_))
  go_loopw [20] (fun i wr => PTrRel tr q0 p (pt b (.cells #[.int .u8 d.toNat, .string ⟨name.toArray⟩, .string ⟨path.toArray⟩, .slice ao tr.length c, .int .u16 acts, .string ⟨keep.toArray⟩] 87) :: l) i wr) (fun i _ => tr.length - (intOf i).toNat)
  case atStart => exact ⟨0, q0, Nat.zero_le _, rfl, rfl, hE1⟩
  case round =>
    clear hE1
    obtain ⟨k, q1, hkl, rfl, hq1, hE⟩ := hrel
    by_cases hlt : k < tr.length
    · obtain ⟨bt, off, rfl, _⟩ := reads_form (hk _ hE.tail.tail) (by omega) (by rw [treeCells_len]; omega)
      have hcx := te_cells (hk _ hE.tail.tail) hlt
      have hlen := fold_len M (tr.take k) q0 (fun y hy => hM'.out y (List.mem_of_mem_take hy))
      rw [← hq1, List.length_take] at hlen
      have hmul : min k tr.length * M + M ≤ tr.length * M := by
        rw [Nat.min_eq_left hkl, ← Nat.succ_mul]
        exact Nat.mul_le_mul_right _ hlt
      have Hs := SL.hid (show (tr.take (k + 1)).foldl (fun q y => pTE y q) q0 = pTE tr[k] q1 by rw [List.take_succ_eq_append_getElem hlt, List.foldl_append, ← hq1]; rfl)
      have hym := hM'.out _ (List.getElem_mem hlt)
      generalize tr[k] = y at *
      obtain ⟨yp, yd, ydat⟩ := y
      simp only at hym
      have Hcx := SL.hid (show ∀ j v, ([.string ⟨yp.toArray⟩, .bool yd, .string ⟨ydat.toArray⟩] : List Value)[j]? = some v → _ from hcx)
      clear hcx hq1
      have hb1 : q1.1.length + M ≤ 1099511000010 := by omega
      clear hlen hmul hb hq0
      have hwd : IntKind.u64.wrap (ydat.length : Int) = ydat.length := wrapU_id (by omega)
      obtain ⟨q2, e2⟩ : ∃ y, y = pN yp q1 := ⟨_, rfl⟩
      have l2 : q2.1.length ≤ q1.1.length + yp.length + 1 := by rw [e2]; exact pN_len _ _
      cases yd with
      | true =>
        obtain ⟨q3, e3⟩ : ∃ y, y = pW 1 1 q2 := ⟨_, rfl⟩
        have l3 : q3.1.length ≤ q2.1.length + 1 := by rw [e3]; exact pW_len _ _ _
        obtain ⟨q4, e4⟩ : ∃ y, y = pW 2 ydat.length q3 := ⟨_, rfl⟩
        have l4 : q4.1.length ≤ q3.1.length + 2 := by rw [e4]; exact pW_len _ _ _
        have hA : ∀ {l : List HProp} {w : World}, Ent (packer p q1.1 q1.2 :: l) w → Calls Try.prog 67 #[.pointer (some ⟨p, 0, none⟩), .string ⟨yp.toArray⟩] w (Ret fun v w' => v = .pointer (some ⟨p, 0, none⟩) ∧ Ent (packer p q2.1 q2.2 :: l) w') := fun h => by subst e2; exact sPName h (by omega)
        have hB : ∀ {l : List HProp} {w : World}, Ent (packer p q2.1 q2.2 :: l) w → Calls Try.prog 42 #[.pointer (some ⟨p, 0, none⟩), .int .i64 1, .int .u64 1] w (Ret fun v w' => v = .pointer (some ⟨p, 0, none⟩) ∧ Ent (packer p q3.1 q3.2 :: l) w') := fun h => by subst e3; exact sPut1 (n := 1) h (by omega)
        have hC : ∀ {l : List HProp} {w : World}, Ent (packer p q3.1 q3.2 :: l) w → Calls Try.prog 42 #[.pointer (some ⟨p, 0, none⟩), .int .i64 2, .int .u64 ydat.length] w (Ret fun v w' => v = .pointer (some ⟨p, 0, none⟩) ∧ Ent (packer p q4.1 q4.2 :: l) w') := fun h => by subst e4; exact sPut2 h (by omega)
        have hD : ∀ {l : List HProp} {w : World}, Ent (packer p q4.1 q4.2 :: l) w → Calls Try.prog 48 #[.pointer (some ⟨p, 0, none⟩), .string ⟨ydat.toArray⟩] w (Ret fun v w' => v = .pointer (some ⟨p, 0, none⟩) ∧ Ent (packer p (q4.1 ++ ydat) q4.2 :: l) w') := fun h => sPText h (by omega)
        have Hy := SL.hid (show pTE ⟨yp, true, ydat⟩ q1 = (q4.1 ++ ydat, q4.2) by rw [e4, e3, e2]; rfl)
        clear e2 e3 e4 l2 l3 l4
        go_wp2_with (first
          | ((with_reducible (show Go.wpList _ _ _ (Go.Oper.mk _ (.load 86 _) _ _ _ _ :: _) _ _)); refine wpl_loadC rfl rfl rfl Try.isAgg86 Try.sizeOf86 [.string ⟨yp.toArray⟩, .bool true, .string ⟨ydat.toArray⟩] rfl Hcx.out ?_)
          | ((with_reducible (show Go.wpList _ _ _ (Go.Oper.mk _ (.alloc _) _ _ _ _ :: _) _ _)); refine wpl_alloc hE rfl rfl (by simp [go_sem]; rfl) ?_; clear hE; intro b5 w hE2; simp only [Act.eval, Act.put, List.setIfInBounds_toArray, List.set_cons_zero, List.set_cons_succ, getD_lit, List.getD_cons_succ, List.getD_cons_zero, Value.cells] at hE2)
          | (refine wpl_storeW hE2 0 rfl rfl rfl (xs := [.string ⟨yp.toArray⟩, .bool true, .string ⟨ydat.toArray⟩]) rfl rfl Try.sizeOf86 rfl (by simp [Value.oneCell']) rfl ?_; clear hE2; intro w hE3; simp only [List.set_cons_zero, List.set_cons_succ] at hE3)
          | ((with_reducible (show Go.wpList _ _ _ (Go.Oper.mk _ (.load _ _) _ _ _ _ :: _) _ _)); refine wpl_load1 hE3 0 rfl rfl rfl rfl (by simp [go_sem]) rfl ?_))
        refine wp_region_held_drew (S := (fun w' => w'.cell? ⟨b5, 0, none⟩ = some (.string ⟨yp.toArray⟩) ∧ w'.cell? ⟨b5, 2, none⟩ = some (.string ⟨ydat.toArray⟩))) (by kernel_rfl) ⟨hE3.drew.cell 0 rfl 0, hE3.drew.cell 0 rfl 2⟩ (fun hS => ?_)
        refine wpAnyH_take (i := 0) (oi := { dst := some 26, op := Go.Op.move (Go.Operand.tmp 1), type := 88, pos := "script.go:56", after := #[], guard := none }) (v := ?_) rfl (by kernel_rfl) (by kernel_rfl) (by kernel_rfl) (fun _ _ _ h => h) (Or.inl ⟨by rfl, ?_⟩) hS ?_
        rotate_left
        · (intro w hSw; (try dsimp only at hSw); go_simp; (try with_reducible rfl))
        try simp only [Act.put, List.setIfInBounds_toArray, List.set_cons_zero, List.set_cons_succ]
        refine wpAnyH_take (i := 1) (oi := { dst := some 27, op := Go.Op.fieldAddr 86 (Go.Operand.tmp 5) 0, type := 0, pos := "script.go:56", after := #[], guard := none }) (v := ?_) rfl (by kernel_rfl) (by kernel_rfl) (by kernel_rfl) (fun _ _ _ h => h) (Or.inl ⟨by rfl, ?_⟩) hS ?_
        rotate_left
        · (intro w hSw; (try dsimp only at hSw); go_simp; (try with_reducible rfl))
        try simp only [Act.put, List.setIfInBounds_toArray, List.set_cons_zero, List.set_cons_succ]
        refine wpAnyH_take (i := 2) (oi := { dst := some 28, op := Go.Op.load 9 (Go.Operand.tmp 27), type := 9, pos := "script.go:56", after := #[{ on := 1, ground := Go.Ground.data }], guard := none }) (v := ?_) rfl (by kernel_rfl) (by kernel_rfl) (by kernel_rfl) (fun _ _ _ h => h) (Or.inl ⟨by rfl, ?_⟩) hS ?_
        rotate_left
        · (intro w hSw; (try dsimp only at hSw); go_simp; (try with_reducible rfl))
        try simp only [Act.put, List.setIfInBounds_toArray, List.set_cons_zero, List.set_cons_succ]
        refine wpAnyH_take (i := 4) (oi := { dst := some 30, op := Go.Op.move (Go.Operand.tmp 6), type := 91, pos := "script.go:56", after := #[], guard := none }) (v := ?_) rfl (by kernel_rfl) (by kernel_rfl) (by kernel_rfl) (fun _ _ _ h => h) (Or.inl ⟨by rfl, ?_⟩) hS ?_
        rotate_left
        · (intro w hSw; (try dsimp only at hSw); go_simp; (try with_reducible rfl))
        try simp only [Act.put, List.setIfInBounds_toArray, List.set_cons_zero, List.set_cons_succ]
        refine wpAnyH_take (i := 6) (oi := { dst := some 32, op := Go.Op.fieldAddr 86 (Go.Operand.tmp 5) 2, type := 0, pos := "script.go:56", after := #[], guard := none }) (v := ?_) rfl (by kernel_rfl) (by kernel_rfl) (by kernel_rfl) (fun _ _ _ h => h) (Or.inl ⟨by rfl, ?_⟩) hS ?_
        rotate_left
        · (intro w hSw; (try dsimp only at hSw); go_simp; (try with_reducible rfl))
        try simp only [Act.put, List.setIfInBounds_toArray, List.set_cons_zero, List.set_cons_succ]
        refine wpAnyH_take (i := 7) (oi := { dst := some 33, op := Go.Op.load 9 (Go.Operand.tmp 32), type := 9, pos := "script.go:56", after := #[{ on := 6, ground := Go.Ground.data }], guard := none }) (v := ?_) rfl (by kernel_rfl) (by kernel_rfl) (by kernel_rfl) (fun _ _ _ h => h) (Or.inl ⟨by rfl, ?_⟩) hS ?_
        rotate_left
        · (intro w hSw; (try dsimp only at hSw); go_simp; (try with_reducible rfl))
        try simp only [Act.put, List.setIfInBounds_toArray, List.set_cons_zero, List.set_cons_succ]
        refine wpAnyH_take (i := 8) (oi := { dst := some 34, op := Go.Op.call { callee := Go.Callee.builtin Go.Builtin.len, args := #[Go.Operand.tmp 33], argTypes := #[9] }, type := 3, pos := "script.go:56", after := #[{ on := 7, ground := Go.Ground.data }], guard := none }) (v := ?_) rfl (by kernel_rfl) (by kernel_rfl) (by kernel_rfl) (fun _ _ _ h => h) (Or.inl ⟨by rfl, ?_⟩) hS ?_
        rotate_left
        · (intro w hSw; (try dsimp only at hSw); go_simp; (try with_reducible rfl))
        try simp only [Act.put, List.setIfInBounds_toArray, List.set_cons_zero, List.set_cons_succ]
        refine wpAnyH_take (i := 9) (oi := { dst := some 35, op := Go.Op.convert 3 91 (Go.Operand.tmp 34), type := 91, pos := "script.go:56", after := #[{ on := 8, ground := Go.Ground.data }], guard := none }) (v := ?_) rfl (by kernel_rfl) (by kernel_rfl) (by kernel_rfl) (fun _ _ _ h => h) (Or.inl ⟨by rfl, ?_⟩) hS ?_
        rotate_left
        · (intro w hSw; (try dsimp only at hSw); go_simp; (try with_reducible rfl))
        try simp only [Act.put, List.setIfInBounds_toArray, List.set_cons_zero, List.set_cons_succ]
        refine wpAnyH_take (i := 11) (oi := { dst := some 37, op := Go.Op.fieldAddr 86 (Go.Operand.tmp 5) 2, type := 0, pos := "script.go:56", after := #[], guard := none }) (v := ?_) rfl (by kernel_rfl) (by kernel_rfl) (by kernel_rfl) (fun _ _ _ h => h) (Or.inl ⟨by rfl, ?_⟩) hS ?_
        rotate_left
        · (intro w hSw; (try dsimp only at hSw); go_simp; (try with_reducible rfl))
        try simp only [Act.put, List.setIfInBounds_toArray, List.set_cons_zero, List.set_cons_succ]
        refine wpAnyH_take (i := 12) (oi := { dst := some 38, op := Go.Op.load 9 (Go.Operand.tmp 37), type := 9, pos := "script.go:56", after := #[{ on := 11, ground := Go.Ground.data }], guard := none }) (v := ?_) rfl (by kernel_rfl) (by kernel_rfl) (by kernel_rfl) (fun _ _ _ h => h) (Or.inl ⟨by rfl, ?_⟩) hS ?_
        rotate_left
        · (intro w hSw; (try dsimp only at hSw); go_simp; (try with_reducible rfl))
        try simp only [Act.put, List.setIfInBounds_toArray, List.set_cons_zero, List.set_cons_succ]
        refine wpAnyH_ready (rs := [3]) (by kernel_rfl) (by simp) ?_
        refine (AllReadyH.cons (o := { dst := some 29, op := Go.Op.call { callee := Go.Callee.value (Go.Operand.func 67), args := #[Go.Operand.tmp 26, Go.Operand.tmp 28], argTypes := #[88, 9] }, type := 88, pos := "script.go:56", after := #[{ on := 0, ground := Go.Ground.data }, { on := 2, ground := Go.Ground.data }], guard := none }) rfl (fun K hK => ?_) AllReadyH.nil)
        (go_simp; refine (hA (hE3.drew.front 1 rfl)).mono ?_; rintro e w4 ⟨v, rfl, rfl, hE4⟩)
        refine hK.out _ _ ⟨hE4.cell 1 rfl 0, hE4.cell 1 rfl 2⟩ (fun hS => ?_)
        clear hK K
        try simp only [Act.put, List.setIfInBounds_toArray, List.set_cons_zero, List.set_cons_succ]
        refine wpAnyH_ready (rs := [5]) (by kernel_rfl) (by simp) ?_
        refine (AllReadyH.cons (o := { dst := some 31, op := Go.Op.call { callee := Go.Callee.value (Go.Operand.func 42), args := #[Go.Operand.tmp 29, Go.Operand.const (Go.Value.int Go.IntKind.i64 1), Go.Operand.tmp 30], argTypes := #[88, 3, 91] }, type := 88, pos := "script.go:56", after := #[{ on := 3, ground := Go.Ground.data }, { on := 4, ground := Go.Ground.data }, { on := 3, ground := Go.Ground.chain }], guard := none }) rfl (fun K hK => ?_) AllReadyH.nil)
        (go_simp; refine (hB hE4).mono ?_; rintro e w5 ⟨v, rfl, rfl, hE5⟩)
        refine hK.out _ _ ⟨hE5.cell 1 rfl 0, hE5.cell 1 rfl 2⟩ (fun hS => ?_)
        clear hK K
        try simp only [Act.put, List.setIfInBounds_toArray, List.set_cons_zero, List.set_cons_succ]
        refine wpAnyH_ready (rs := [10]) (by kernel_rfl) (by simp) ?_
        refine (AllReadyH.cons (o := { dst := some 36, op := Go.Op.call { callee := Go.Callee.value (Go.Operand.func 42), args := #[Go.Operand.tmp 31, Go.Operand.const (Go.Value.int Go.IntKind.i64 2), Go.Operand.tmp 35], argTypes := #[88, 3, 91] }, type := 88, pos := "script.go:56", after := #[{ on := 5, ground := Go.Ground.data }, { on := 9, ground := Go.Ground.data }, { on := 5, ground := Go.Ground.chain }], guard := none }) rfl (fun K hK => ?_) AllReadyH.nil)
        (go_simp; refine (hC hE5).mono ?_; rintro e w6 ⟨v, rfl, rfl, hE6⟩)
        refine hK.out _ _ ⟨hE6.cell 1 rfl 0, hE6.cell 1 rfl 2⟩ (fun hS => ?_)
        clear hK K
        try simp only [Act.put, List.setIfInBounds_toArray, List.set_cons_zero, List.set_cons_succ]
        refine wpAnyH_ready (rs := [13]) (by kernel_rfl) (by simp) ?_
        refine (AllReadyH.cons (o := { dst := some 39, op := Go.Op.call { callee := Go.Callee.value (Go.Operand.func 48), args := #[Go.Operand.tmp 36, Go.Operand.tmp 38], argTypes := #[88, 9] }, type := 88, pos := "script.go:56", after := #[{ on := 10, ground := Go.Ground.data }, { on := 12, ground := Go.Ground.data }, { on := 10, ground := Go.Ground.chain }], guard := none }) rfl (fun K hK => ?_) AllReadyH.nil)
        (go_simp; refine (hD hE6).mono ?_; rintro e w7 ⟨v, rfl, rfl, hE7⟩)
        refine hK.out _ _ ⟨hE7.cell 1 rfl 0, hE7.cell 1 rfl 2⟩ (fun hS => ?_)
        clear hK K
        try simp only [Act.put, List.setIfInBounds_toArray, List.set_cons_zero, List.set_cons_succ]
        refine wpAnyH_done (by kernel_rfl) ?_ _
        go_wp2
        go_roundw
        case rel => exact ⟨k + 1, (q4.1 ++ ydat, q4.2), hlt, by simp, by rw [Hs.out, Hy.out], hE7.erase 1⟩
        case measure => simp [intOf]; omega
      | false =>
        obtain ⟨q3, e3⟩ : ∃ y, y = pW 1 0 q2 := ⟨_, rfl⟩
        have l3 : q3.1.length ≤ q2.1.length + 1 := by rw [e3]; exact pW_len _ _ _
        obtain ⟨q4, e4⟩ : ∃ y, y = pW 2 ydat.length q3 := ⟨_, rfl⟩
        have l4 : q4.1.length ≤ q3.1.length + 2 := by rw [e4]; exact pW_len _ _ _
        have hA : ∀ {l : List HProp} {w : World}, Ent (packer p q1.1 q1.2 :: l) w → Calls Try.prog 67 #[.pointer (some ⟨p, 0, none⟩), .string ⟨yp.toArray⟩] w (Ret fun v w' => v = .pointer (some ⟨p, 0, none⟩) ∧ Ent (packer p q2.1 q2.2 :: l) w') := fun h => by subst e2; exact sPName h (by omega)
        have hB : ∀ {l : List HProp} {w : World}, Ent (packer p q2.1 q2.2 :: l) w → Calls Try.prog 42 #[.pointer (some ⟨p, 0, none⟩), .int .i64 1, .int .u64 0] w (Ret fun v w' => v = .pointer (some ⟨p, 0, none⟩) ∧ Ent (packer p q3.1 q3.2 :: l) w') := fun h => by subst e3; exact sPut1 (n := 0) h (by omega)
        have hC : ∀ {l : List HProp} {w : World}, Ent (packer p q3.1 q3.2 :: l) w → Calls Try.prog 42 #[.pointer (some ⟨p, 0, none⟩), .int .i64 2, .int .u64 ydat.length] w (Ret fun v w' => v = .pointer (some ⟨p, 0, none⟩) ∧ Ent (packer p q4.1 q4.2 :: l) w') := fun h => by subst e4; exact sPut2 h (by omega)
        have hD : ∀ {l : List HProp} {w : World}, Ent (packer p q4.1 q4.2 :: l) w → Calls Try.prog 48 #[.pointer (some ⟨p, 0, none⟩), .string ⟨ydat.toArray⟩] w (Ret fun v w' => v = .pointer (some ⟨p, 0, none⟩) ∧ Ent (packer p (q4.1 ++ ydat) q4.2 :: l) w') := fun h => sPText h (by omega)
        have Hy := SL.hid (show pTE ⟨yp, false, ydat⟩ q1 = (q4.1 ++ ydat, q4.2) by rw [e4, e3, e2]; rfl)
        clear e2 e3 e4 l2 l3 l4
        go_wp2_with (first
          | ((with_reducible (show Go.wpList _ _ _ (Go.Oper.mk _ (.load 86 _) _ _ _ _ :: _) _ _)); refine wpl_loadC rfl rfl rfl Try.isAgg86 Try.sizeOf86 [.string ⟨yp.toArray⟩, .bool false, .string ⟨ydat.toArray⟩] rfl Hcx.out ?_)
          | ((with_reducible (show Go.wpList _ _ _ (Go.Oper.mk _ (.alloc _) _ _ _ _ :: _) _ _)); refine wpl_alloc hE rfl rfl (by simp [go_sem]; rfl) ?_; clear hE; intro b5 w hE2; simp only [Act.eval, Act.put, List.setIfInBounds_toArray, List.set_cons_zero, List.set_cons_succ, getD_lit, List.getD_cons_succ, List.getD_cons_zero, Value.cells] at hE2)
          | (refine wpl_storeW hE2 0 rfl rfl rfl (xs := [.string ⟨yp.toArray⟩, .bool false, .string ⟨ydat.toArray⟩]) rfl rfl Try.sizeOf86 rfl (by simp [Value.oneCell']) rfl ?_; clear hE2; intro w hE3; simp only [List.set_cons_zero, List.set_cons_succ] at hE3)
          | ((with_reducible (show Go.wpList _ _ _ (Go.Oper.mk _ (.load _ _) _ _ _ _ :: _) _ _)); refine wpl_load1 hE3 0 rfl rfl rfl rfl (by simp [go_sem]) rfl ?_))
        refine wp_region_held_drew (S := (fun w' => w'.cell? ⟨b5, 0, none⟩ = some (.string ⟨yp.toArray⟩) ∧ w'.cell? ⟨b5, 2, none⟩ = some (.string ⟨ydat.toArray⟩))) (by kernel_rfl) ⟨hE3.drew.cell 0 rfl 0, hE3.drew.cell 0 rfl 2⟩ (fun hS => ?_)
        refine wpAnyH_take (i := 0) (oi := { dst := some 26, op := Go.Op.move (Go.Operand.tmp 1), type := 88, pos := "script.go:56", after := #[], guard := none }) (v := ?_) rfl (by kernel_rfl) (by kernel_rfl) (by kernel_rfl) (fun _ _ _ h => h) (Or.inl ⟨by rfl, ?_⟩) hS ?_
        rotate_left
        · (intro w hSw; (try dsimp only at hSw); go_simp; (try with_reducible rfl))
        try simp only [Act.put, List.setIfInBounds_toArray, List.set_cons_zero, List.set_cons_succ]
        refine wpAnyH_take (i := 1) (oi := { dst := some 27, op := Go.Op.fieldAddr 86 (Go.Operand.tmp 5) 0, type := 0, pos := "script.go:56", after := #[], guard := none }) (v := ?_) rfl (by kernel_rfl) (by kernel_rfl) (by kernel_rfl) (fun _ _ _ h => h) (Or.inl ⟨by rfl, ?_⟩) hS ?_
        rotate_left
        · (intro w hSw; (try dsimp only at hSw); go_simp; (try with_reducible rfl))
        try simp only [Act.put, List.setIfInBounds_toArray, List.set_cons_zero, List.set_cons_succ]
        refine wpAnyH_take (i := 2) (oi := { dst := some 28, op := Go.Op.load 9 (Go.Operand.tmp 27), type := 9, pos := "script.go:56", after := #[{ on := 1, ground := Go.Ground.data }], guard := none }) (v := ?_) rfl (by kernel_rfl) (by kernel_rfl) (by kernel_rfl) (fun _ _ _ h => h) (Or.inl ⟨by rfl, ?_⟩) hS ?_
        rotate_left
        · (intro w hSw; (try dsimp only at hSw); go_simp; (try with_reducible rfl))
        try simp only [Act.put, List.setIfInBounds_toArray, List.set_cons_zero, List.set_cons_succ]
        refine wpAnyH_take (i := 4) (oi := { dst := some 30, op := Go.Op.move (Go.Operand.tmp 6), type := 91, pos := "script.go:56", after := #[], guard := none }) (v := ?_) rfl (by kernel_rfl) (by kernel_rfl) (by kernel_rfl) (fun _ _ _ h => h) (Or.inl ⟨by rfl, ?_⟩) hS ?_
        rotate_left
        · (intro w hSw; (try dsimp only at hSw); go_simp; (try with_reducible rfl))
        try simp only [Act.put, List.setIfInBounds_toArray, List.set_cons_zero, List.set_cons_succ]
        refine wpAnyH_take (i := 6) (oi := { dst := some 32, op := Go.Op.fieldAddr 86 (Go.Operand.tmp 5) 2, type := 0, pos := "script.go:56", after := #[], guard := none }) (v := ?_) rfl (by kernel_rfl) (by kernel_rfl) (by kernel_rfl) (fun _ _ _ h => h) (Or.inl ⟨by rfl, ?_⟩) hS ?_
        rotate_left
        · (intro w hSw; (try dsimp only at hSw); go_simp; (try with_reducible rfl))
        try simp only [Act.put, List.setIfInBounds_toArray, List.set_cons_zero, List.set_cons_succ]
        refine wpAnyH_take (i := 7) (oi := { dst := some 33, op := Go.Op.load 9 (Go.Operand.tmp 32), type := 9, pos := "script.go:56", after := #[{ on := 6, ground := Go.Ground.data }], guard := none }) (v := ?_) rfl (by kernel_rfl) (by kernel_rfl) (by kernel_rfl) (fun _ _ _ h => h) (Or.inl ⟨by rfl, ?_⟩) hS ?_
        rotate_left
        · (intro w hSw; (try dsimp only at hSw); go_simp; (try with_reducible rfl))
        try simp only [Act.put, List.setIfInBounds_toArray, List.set_cons_zero, List.set_cons_succ]
        refine wpAnyH_take (i := 8) (oi := { dst := some 34, op := Go.Op.call { callee := Go.Callee.builtin Go.Builtin.len, args := #[Go.Operand.tmp 33], argTypes := #[9] }, type := 3, pos := "script.go:56", after := #[{ on := 7, ground := Go.Ground.data }], guard := none }) (v := ?_) rfl (by kernel_rfl) (by kernel_rfl) (by kernel_rfl) (fun _ _ _ h => h) (Or.inl ⟨by rfl, ?_⟩) hS ?_
        rotate_left
        · (intro w hSw; (try dsimp only at hSw); go_simp; (try with_reducible rfl))
        try simp only [Act.put, List.setIfInBounds_toArray, List.set_cons_zero, List.set_cons_succ]
        refine wpAnyH_take (i := 9) (oi := { dst := some 35, op := Go.Op.convert 3 91 (Go.Operand.tmp 34), type := 91, pos := "script.go:56", after := #[{ on := 8, ground := Go.Ground.data }], guard := none }) (v := ?_) rfl (by kernel_rfl) (by kernel_rfl) (by kernel_rfl) (fun _ _ _ h => h) (Or.inl ⟨by rfl, ?_⟩) hS ?_
        rotate_left
        · (intro w hSw; (try dsimp only at hSw); go_simp; (try with_reducible rfl))
        try simp only [Act.put, List.setIfInBounds_toArray, List.set_cons_zero, List.set_cons_succ]
        refine wpAnyH_take (i := 11) (oi := { dst := some 37, op := Go.Op.fieldAddr 86 (Go.Operand.tmp 5) 2, type := 0, pos := "script.go:56", after := #[], guard := none }) (v := ?_) rfl (by kernel_rfl) (by kernel_rfl) (by kernel_rfl) (fun _ _ _ h => h) (Or.inl ⟨by rfl, ?_⟩) hS ?_
        rotate_left
        · (intro w hSw; (try dsimp only at hSw); go_simp; (try with_reducible rfl))
        try simp only [Act.put, List.setIfInBounds_toArray, List.set_cons_zero, List.set_cons_succ]
        refine wpAnyH_take (i := 12) (oi := { dst := some 38, op := Go.Op.load 9 (Go.Operand.tmp 37), type := 9, pos := "script.go:56", after := #[{ on := 11, ground := Go.Ground.data }], guard := none }) (v := ?_) rfl (by kernel_rfl) (by kernel_rfl) (by kernel_rfl) (fun _ _ _ h => h) (Or.inl ⟨by rfl, ?_⟩) hS ?_
        rotate_left
        · (intro w hSw; (try dsimp only at hSw); go_simp; (try with_reducible rfl))
        try simp only [Act.put, List.setIfInBounds_toArray, List.set_cons_zero, List.set_cons_succ]
        refine wpAnyH_ready (rs := [3]) (by kernel_rfl) (by simp) ?_
        refine (AllReadyH.cons (o := { dst := some 29, op := Go.Op.call { callee := Go.Callee.value (Go.Operand.func 67), args := #[Go.Operand.tmp 26, Go.Operand.tmp 28], argTypes := #[88, 9] }, type := 88, pos := "script.go:56", after := #[{ on := 0, ground := Go.Ground.data }, { on := 2, ground := Go.Ground.data }], guard := none }) rfl (fun K hK => ?_) AllReadyH.nil)
        (go_simp; refine (hA (hE3.drew.front 1 rfl)).mono ?_; rintro e w4 ⟨v, rfl, rfl, hE4⟩)
        refine hK.out _ _ ⟨hE4.cell 1 rfl 0, hE4.cell 1 rfl 2⟩ (fun hS => ?_)
        clear hK K
        try simp only [Act.put, List.setIfInBounds_toArray, List.set_cons_zero, List.set_cons_succ]
        refine wpAnyH_ready (rs := [5]) (by kernel_rfl) (by simp) ?_
        refine (AllReadyH.cons (o := { dst := some 31, op := Go.Op.call { callee := Go.Callee.value (Go.Operand.func 42), args := #[Go.Operand.tmp 29, Go.Operand.const (Go.Value.int Go.IntKind.i64 1), Go.Operand.tmp 30], argTypes := #[88, 3, 91] }, type := 88, pos := "script.go:56", after := #[{ on := 3, ground := Go.Ground.data }, { on := 4, ground := Go.Ground.data }, { on := 3, ground := Go.Ground.chain }], guard := none }) rfl (fun K hK => ?_) AllReadyH.nil)
        (go_simp; refine (hB hE4).mono ?_; rintro e w5 ⟨v, rfl, rfl, hE5⟩)
        refine hK.out _ _ ⟨hE5.cell 1 rfl 0, hE5.cell 1 rfl 2⟩ (fun hS => ?_)
        clear hK K
        try simp only [Act.put, List.setIfInBounds_toArray, List.set_cons_zero, List.set_cons_succ]
        refine wpAnyH_ready (rs := [10]) (by kernel_rfl) (by simp) ?_
        refine (AllReadyH.cons (o := { dst := some 36, op := Go.Op.call { callee := Go.Callee.value (Go.Operand.func 42), args := #[Go.Operand.tmp 31, Go.Operand.const (Go.Value.int Go.IntKind.i64 2), Go.Operand.tmp 35], argTypes := #[88, 3, 91] }, type := 88, pos := "script.go:56", after := #[{ on := 5, ground := Go.Ground.data }, { on := 9, ground := Go.Ground.data }, { on := 5, ground := Go.Ground.chain }], guard := none }) rfl (fun K hK => ?_) AllReadyH.nil)
        (go_simp; refine (hC hE5).mono ?_; rintro e w6 ⟨v, rfl, rfl, hE6⟩)
        refine hK.out _ _ ⟨hE6.cell 1 rfl 0, hE6.cell 1 rfl 2⟩ (fun hS => ?_)
        clear hK K
        try simp only [Act.put, List.setIfInBounds_toArray, List.set_cons_zero, List.set_cons_succ]
        refine wpAnyH_ready (rs := [13]) (by kernel_rfl) (by simp) ?_
        refine (AllReadyH.cons (o := { dst := some 39, op := Go.Op.call { callee := Go.Callee.value (Go.Operand.func 48), args := #[Go.Operand.tmp 36, Go.Operand.tmp 38], argTypes := #[88, 9] }, type := 88, pos := "script.go:56", after := #[{ on := 10, ground := Go.Ground.data }, { on := 12, ground := Go.Ground.data }, { on := 10, ground := Go.Ground.chain }], guard := none }) rfl (fun K hK => ?_) AllReadyH.nil)
        (go_simp; refine (hD hE6).mono ?_; rintro e w7 ⟨v, rfl, rfl, hE7⟩)
        refine hK.out _ _ ⟨hE7.cell 1 rfl 0, hE7.cell 1 rfl 2⟩ (fun hS => ?_)
        clear hK K
        try simp only [Act.put, List.setIfInBounds_toArray, List.set_cons_zero, List.set_cons_succ]
        refine wpAnyH_done (by kernel_rfl) ?_ _
        go_wp2
        go_roundw
        case rel => exact ⟨k + 1, (q4.1 ++ ydat, q4.2), hlt, by simp, by rw [Hs.out, Hy.out], hE7.erase 1⟩
        case measure => simp [intOf]; omega
    · have E2 : tr.take k = tr := by rw [show k = tr.length by omega, List.take_length]
      rw [E2] at hq1
      subst hq1
      clear E2
      go_wp2
      go_end0
      exact ⟨rfl, hE⟩
end Go.Proofs.Ytohdljcpaogokaa
namespace Go.Proofs.Ytohdljcpaogokaa
open Go.RowKit Go.SL

def trow (ao : Option Addr) (c : Nat) (t : List TE) : HProp := row 86 3 (.slice ao t.length c) t.length (treeCells t)
theorem tkV2_lt (s : St) : tkV 2 s < 65536 := by
  unfold tkV valT
  split
  · have h : ∀ l : List UInt8, l.length ≤ 2 → beVal l < 65536 := by
      intro l hl
      rcases l with _ | ⟨a, _ | ⟨b, _ | ⟨c, r⟩⟩⟩
      · simp [beVal]
      · rw [beVal_one]; have := a.toNat_lt; omega
      · simp only [beVal, List.foldl_cons, List.foldl_nil]
        have := a.toNat_lt
        have := b.toNat_lt
        omega
      · simp at hl
    exact h _ (by rw [List.length_take]; exact Nat.min_le_left _ _)
  · omega
theorem u16wrap {n : Nat} (h : n < 65536) : IntKind.u16.wrap (n : Int) = n := by
  simp [IntKind.wrap, IntKind.signed, IntKind.bits]
  omega
theorem i64wrap {n : Nat} (h : n < 65536) : IntKind.i64.wrap (n : Int) = n := by
  simp [IntKind.wrap, IntKind.signed, IntKind.bits]
  omega

set_option maxRecDepth 100000 in
theorem takeName_any {x : SE} {ao : Option Addr} {c b o : Nat} {s : St} {l : List HProp} {w : World} (hE : Ent (opener o s.bs s.err :: pt b (.cells (xcells x ao c).toArray 87) :: l) w) (hb : s.bs.length ≤ 1099511627776) :
    Calls Try.prog 78 #[.pointer (some ⟨b, 0, none⟩), .pointer (some ⟨o, 0, none⟩)] w (fun e w' => e = .returned (.tuple #[]) ∧ Ent (opener o (nm s).bs (nm s).err :: pt b (.cells (xcells { x with name := nmV s } ao c).toArray 87) :: l) w') := by
  have hN := sName hE hb
  unfold xcells at hE hN ⊢
  obtain ⟨d, name, path, tree, acts, keep⟩ := x
  simp only at *
  generalize nm s = s1 at *
  generalize nmV s = ys at *
  go_enter Try.func78, Try.ntmps78
  go_wp2_with (first
    | (go_at_call 57; refine hN.mono ?_; clear hN hE; rintro e w2 ⟨v, rfl, rfl, hE⟩)
    | ((with_reducible (show Go.wpList _ _ _ (Go.Oper.mk _ (.store _ _ _) _ _ _ _ :: _) _ _)); first | (refine wpl_store hE 0 rfl rfl rfl rfl rfl (by simp [go_sem]; rfl) (by rfl) (by simp [Value.cells, Value.oneCell', Act.eval]) (by simp) ?_; clear hE; intro w hE; simp only [Act.eval, getD_lit, List.getD_cons_succ, List.getD_cons_zero, Value.cells, List.set_cons_zero, List.set_cons_succ, List.take_succ_cons, List.take_zero, List.nil_append, List.cons_append, List.drop_succ_cons, List.drop_zero, List.length_cons, List.length_nil, Nat.reduceAdd, Nat.zero_add] at hE) | (refine wpl_store hE 1 rfl rfl rfl rfl rfl (by simp [go_sem]; rfl) (by rfl) (by simp [Value.cells, Value.oneCell', Act.eval]) (by simp) ?_; clear hE; intro w hE; simp only [Act.eval, getD_lit, List.getD_cons_succ, List.getD_cons_zero, Value.cells, List.set_cons_zero, List.set_cons_succ, List.take_succ_cons, List.take_zero, List.nil_append, List.cons_append, List.drop_succ_cons, List.drop_zero, List.length_cons, List.length_nil, Nat.reduceAdd, Nat.zero_add] at hE) | (refine wpl_store hE 2 rfl rfl rfl rfl rfl (by simp [go_sem]; rfl) (by rfl) (by simp [Value.cells, Value.oneCell', Act.eval]) (by simp) ?_; clear hE; intro w hE; simp only [Act.eval, getD_lit, List.getD_cons_succ, List.getD_cons_zero, Value.cells, List.set_cons_zero, List.set_cons_succ, List.take_succ_cons, List.take_zero, List.nil_append, List.cons_append, List.drop_succ_cons, List.drop_zero, List.length_cons, List.length_nil, Nat.reduceAdd, Nat.zero_add] at hE) | (refine wpl_store hE 3 rfl rfl rfl rfl rfl (by simp [go_sem]; rfl) (by rfl) (by simp [Value.cells, Value.oneCell', Act.eval]) (by simp) ?_; clear hE; intro w hE; simp only [Act.eval, getD_lit, List.getD_cons_succ, List.getD_cons_zero, Value.cells, List.set_cons_zero, List.set_cons_succ, List.take_succ_cons, List.take_zero, List.nil_append, List.cons_append, List.drop_succ_cons, List.drop_zero, List.length_cons, List.length_nil, Nat.reduceAdd, Nat.zero_add] at hE) | (refine wpl_store hE 4 rfl rfl rfl rfl rfl (by simp [go_sem]; rfl) (by rfl) (by simp [Value.cells, Value.oneCell', Act.eval]) (by simp) ?_; clear hE; intro w hE; simp only [Act.eval, getD_lit, List.getD_cons_succ, List.getD_cons_zero, Value.cells, List.set_cons_zero, List.set_cons_succ, List.take_succ_cons, List.take_zero, List.nil_append, List.cons_append, List.drop_succ_cons, List.drop_zero, List.length_cons, List.length_nil, Nat.reduceAdd, Nat.zero_add] at hE) | (refine wpl_store hE 5 rfl rfl rfl rfl rfl (by simp [go_sem]; rfl) (by rfl) (by simp [Value.cells, Value.oneCell', Act.eval]) (by simp) ?_; clear hE; intro w hE; simp only [Act.eval, getD_lit, List.getD_cons_succ, List.getD_cons_zero, Value.cells, List.set_cons_zero, List.set_cons_succ, List.take_succ_cons, List.take_zero, List.nil_append, List.cons_append, List.drop_succ_cons, List.drop_zero, List.length_cons, List.length_nil, Nat.reduceAdd, Nat.zero_add] at hE)))
  go_end0
  exact ⟨rfl, hE⟩
set_option maxRecDepth 100000 in
theorem takePath_any {x : SE} {ao : Option Addr} {c b o : Nat} {s : St} {l : List HProp} {w : World} (hE : Ent (opener o s.bs s.err :: pt b (.cells (xcells x ao c).toArray 87) :: l) w) (hb : s.bs.length ≤ 1099511627776) :
    Calls Try.prog 80 #[.pointer (some ⟨b, 0, none⟩), .pointer (some ⟨o, 0, none⟩)] w (fun e w' => e = .returned (.tuple #[]) ∧ Ent (opener o (nm s).bs (nm s).err :: pt b (.cells (xcells { x with path := nmV s } ao c).toArray 87) :: l) w') := by
  have hN := sName hE hb
  unfold xcells at hE hN ⊢
  obtain ⟨d, name, path, tree, acts, keep⟩ := x
  simp only at *
  generalize nm s = s1 at *
  generalize nmV s = ys at *
  go_enter Try.func80, Try.ntmps80
  go_wp2_with (first
    | (go_at_call 57; refine hN.mono ?_; clear hN hE; rintro e w2 ⟨v, rfl, rfl, hE⟩)
    | ((with_reducible (show Go.wpList _ _ _ (Go.Oper.mk _ (.store _ _ _) _ _ _ _ :: _) _ _)); first | (refine wpl_store hE 0 rfl rfl rfl rfl rfl (by simp [go_sem]; rfl) (by rfl) (by simp [Value.cells, Value.oneCell', Act.eval]) (by simp) ?_; clear hE; intro w hE; simp only [Act.eval, getD_lit, List.getD_cons_succ, List.getD_cons_zero, Value.cells, List.set_cons_zero, List.set_cons_succ, List.take_succ_cons, List.take_zero, List.nil_append, List.cons_append, List.drop_succ_cons, List.drop_zero, List.length_cons, List.length_nil, Nat.reduceAdd, Nat.zero_add] at hE) | (refine wpl_store hE 1 rfl rfl rfl rfl rfl (by simp [go_sem]; rfl) (by rfl) (by simp [Value.cells, Value.oneCell', Act.eval]) (by simp) ?_; clear hE; intro w hE; simp only [Act.eval, getD_lit, List.getD_cons_succ, List.getD_cons_zero, Value.cells, List.set_cons_zero, List.set_cons_succ, List.take_succ_cons, List.take_zero, List.nil_append, List.cons_append, List.drop_succ_cons, List.drop_zero, List.length_cons, List.length_nil, Nat.reduceAdd, Nat.zero_add] at hE) | (refine wpl_store hE 2 rfl rfl rfl rfl rfl (by simp [go_sem]; rfl) (by rfl) (by simp [Value.cells, Value.oneCell', Act.eval]) (by simp) ?_; clear hE; intro w hE; simp only [Act.eval, getD_lit, List.getD_cons_succ, List.getD_cons_zero, Value.cells, List.set_cons_zero, List.set_cons_succ, List.take_succ_cons, List.take_zero, List.nil_append, List.cons_append, List.drop_succ_cons, List.drop_zero, List.length_cons, List.length_nil, Nat.reduceAdd, Nat.zero_add] at hE) | (refine wpl_store hE 3 rfl rfl rfl rfl rfl (by simp [go_sem]; rfl) (by rfl) (by simp [Value.cells, Value.oneCell', Act.eval]) (by simp) ?_; clear hE; intro w hE; simp only [Act.eval, getD_lit, List.getD_cons_succ, List.getD_cons_zero, Value.cells, List.set_cons_zero, List.set_cons_succ, List.take_succ_cons, List.take_zero, List.nil_append, List.cons_append, List.drop_succ_cons, List.drop_zero, List.length_cons, List.length_nil, Nat.reduceAdd, Nat.zero_add] at hE) | (refine wpl_store hE 4 rfl rfl rfl rfl rfl (by simp [go_sem]; rfl) (by rfl) (by simp [Value.cells, Value.oneCell', Act.eval]) (by simp) ?_; clear hE; intro w hE; simp only [Act.eval, getD_lit, List.getD_cons_succ, List.getD_cons_zero, Value.cells, List.set_cons_zero, List.set_cons_succ, List.take_succ_cons, List.take_zero, List.nil_append, List.cons_append, List.drop_succ_cons, List.drop_zero, List.length_cons, List.length_nil, Nat.reduceAdd, Nat.zero_add] at hE) | (refine wpl_store hE 5 rfl rfl rfl rfl rfl (by simp [go_sem]; rfl) (by rfl) (by simp [Value.cells, Value.oneCell', Act.eval]) (by simp) ?_; clear hE; intro w hE; simp only [Act.eval, getD_lit, List.getD_cons_succ, List.getD_cons_zero, Value.cells, List.set_cons_zero, List.set_cons_succ, List.take_succ_cons, List.take_zero, List.nil_append, List.cons_append, List.drop_succ_cons, List.drop_zero, List.length_cons, List.length_nil, Nat.reduceAdd, Nat.zero_add] at hE)))
  go_end0
  exact ⟨rfl, hE⟩
set_option maxRecDepth 100000 in
theorem takeKeep_any {x : SE} {ao : Option Addr} {c b o : Nat} {s : St} {l : List HProp} {w : World} (hE : Ent (opener o s.bs s.err :: pt b (.cells (xcells x ao c).toArray 87) :: l) w) (hb : s.bs.length ≤ 1099511627776) :
    Calls Try.prog 82 #[.pointer (some ⟨b, 0, none⟩), .pointer (some ⟨o, 0, none⟩)] w (fun e w' => e = .returned (.tuple #[]) ∧ Ent (opener o (nm s).bs (nm s).err :: pt b (.cells (xcells { x with keep := nmV s } ao c).toArray 87) :: l) w') := by
  have hN := sName hE hb
  unfold xcells at hE hN ⊢
  obtain ⟨d, name, path, tree, acts, keep⟩ := x
  simp only at *
  generalize nm s = s1 at *
  generalize nmV s = ys at *
  go_enter Try.func82, Try.ntmps82
  go_wp2_with (first
    | (go_at_call 57; refine hN.mono ?_; clear hN hE; rintro e w2 ⟨v, rfl, rfl, hE⟩)
    | ((with_reducible (show Go.wpList _ _ _ (Go.Oper.mk _ (.store _ _ _) _ _ _ _ :: _) _ _)); first | (refine wpl_store hE 0 rfl rfl rfl rfl rfl (by simp [go_sem]; rfl) (by rfl) (by simp [Value.cells, Value.oneCell', Act.eval]) (by simp) ?_; clear hE; intro w hE; simp only [Act.eval, getD_lit, List.getD_cons_succ, List.getD_cons_zero, Value.cells, List.set_cons_zero, List.set_cons_succ, List.take_succ_cons, List.take_zero, List.nil_append, List.cons_append, List.drop_succ_cons, List.drop_zero, List.length_cons, List.length_nil, Nat.reduceAdd, Nat.zero_add] at hE) | (refine wpl_store hE 1 rfl rfl rfl rfl rfl (by simp [go_sem]; rfl) (by rfl) (by simp [Value.cells, Value.oneCell', Act.eval]) (by simp) ?_; clear hE; intro w hE; simp only [Act.eval, getD_lit, List.getD_cons_succ, List.getD_cons_zero, Value.cells, List.set_cons_zero, List.set_cons_succ, List.take_succ_cons, List.take_zero, List.nil_append, List.cons_append, List.drop_succ_cons, List.drop_zero, List.length_cons, List.length_nil, Nat.reduceAdd, Nat.zero_add] at hE) | (refine wpl_store hE 2 rfl rfl rfl rfl rfl (by simp [go_sem]; rfl) (by rfl) (by simp [Value.cells, Value.oneCell', Act.eval]) (by simp) ?_; clear hE; intro w hE; simp only [Act.eval, getD_lit, List.getD_cons_succ, List.getD_cons_zero, Value.cells, List.set_cons_zero, List.set_cons_succ, List.take_succ_cons, List.take_zero, List.nil_append, List.cons_append, List.drop_succ_cons, List.drop_zero, List.length_cons, List.length_nil, Nat.reduceAdd, Nat.zero_add] at hE) | (refine wpl_store hE 3 rfl rfl rfl rfl rfl (by simp [go_sem]; rfl) (by rfl) (by simp [Value.cells, Value.oneCell', Act.eval]) (by simp) ?_; clear hE; intro w hE; simp only [Act.eval, getD_lit, List.getD_cons_succ, List.getD_cons_zero, Value.cells, List.set_cons_zero, List.set_cons_succ, List.take_succ_cons, List.take_zero, List.nil_append, List.cons_append, List.drop_succ_cons, List.drop_zero, List.length_cons, List.length_nil, Nat.reduceAdd, Nat.zero_add] at hE) | (refine wpl_store hE 4 rfl rfl rfl rfl rfl (by simp [go_sem]; rfl) (by rfl) (by simp [Value.cells, Value.oneCell', Act.eval]) (by simp) ?_; clear hE; intro w hE; simp only [Act.eval, getD_lit, List.getD_cons_succ, List.getD_cons_zero, Value.cells, List.set_cons_zero, List.set_cons_succ, List.take_succ_cons, List.take_zero, List.nil_append, List.cons_append, List.drop_succ_cons, List.drop_zero, List.length_cons, List.length_nil, Nat.reduceAdd, Nat.zero_add] at hE) | (refine wpl_store hE 5 rfl rfl rfl rfl rfl (by simp [go_sem]; rfl) (by rfl) (by simp [Value.cells, Value.oneCell', Act.eval]) (by simp) ?_; clear hE; intro w hE; simp only [Act.eval, getD_lit, List.getD_cons_succ, List.getD_cons_zero, Value.cells, List.set_cons_zero, List.set_cons_succ, List.take_succ_cons, List.take_zero, List.nil_append, List.cons_append, List.drop_succ_cons, List.drop_zero, List.length_cons, List.length_nil, Nat.reduceAdd, Nat.zero_add] at hE)))
  go_end0
  exact ⟨rfl, hE⟩
set_option maxRecDepth 100000 in
theorem takeActs_any {x : SE} {ao : Option Addr} {c b o : Nat} {s : St} {l : List HProp} {w : World} (hE : Ent (opener o s.bs s.err :: pt b (.cells (xcells x ao c).toArray 87) :: l) w) (hb : s.bs.length ≤ 1099511627776) :
    Calls Try.prog 86 #[.pointer (some ⟨b, 0, none⟩), .pointer (some ⟨o, 0, none⟩)] w (fun e w' => e = .returned (.tuple #[]) ∧ Ent (opener o (tk 2 s).bs (tk 2 s).err :: pt b (.cells (xcells { x with acts := tkV 2 s % 65536 } ao c).toArray 87) :: l) w') := by
  have hN := sTake hE hb 2
  have hw := u16wrap (tkV2_lt s)
  rw [Nat.mod_eq_of_lt (tkV2_lt s)]
  unfold xcells at hE hN ⊢
  obtain ⟨d, name, path, tree, acts, keep⟩ := x
  simp only at *
  generalize tk 2 s = s1 at *
  generalize tkV 2 s = n at *
  go_enter Try.func86, Try.ntmps86
  go_wp2_with (first
    | (go_at_call 55; refine hN.mono ?_; clear hN hE; rintro e w2 ⟨v, rfl, rfl, hE⟩)
    | ((with_reducible (show Go.wpList _ _ _ (Go.Oper.mk _ (.store _ _ _) _ _ _ _ :: _) _ _)); first | (refine wpl_store hE 0 rfl rfl rfl rfl rfl (by simp [go_sem]; rfl) (by rfl) (by simp [Value.cells, Value.oneCell', Act.eval]) (by simp) ?_; clear hE; intro w hE; simp only [Act.eval, getD_lit, List.getD_cons_succ, List.getD_cons_zero, Value.cells, List.set_cons_zero, List.set_cons_succ, List.take_succ_cons, List.take_zero, List.nil_append, List.cons_append, List.drop_succ_cons, List.drop_zero, List.length_cons, List.length_nil, Nat.reduceAdd, Nat.zero_add] at hE) | (refine wpl_store hE 1 rfl rfl rfl rfl rfl (by simp [go_sem]; rfl) (by rfl) (by simp [Value.cells, Value.oneCell', Act.eval]) (by simp) ?_; clear hE; intro w hE; simp only [Act.eval, getD_lit, List.getD_cons_succ, List.getD_cons_zero, Value.cells, List.set_cons_zero, List.set_cons_succ, List.take_succ_cons, List.take_zero, List.nil_append, List.cons_append, List.drop_succ_cons, List.drop_zero, List.length_cons, List.length_nil, Nat.reduceAdd, Nat.zero_add] at hE) | (refine wpl_store hE 2 rfl rfl rfl rfl rfl (by simp [go_sem]; rfl) (by rfl) (by simp [Value.cells, Value.oneCell', Act.eval]) (by simp) ?_; clear hE; intro w hE; simp only [Act.eval, getD_lit, List.getD_cons_succ, List.getD_cons_zero, Value.cells, List.set_cons_zero, List.set_cons_succ, List.take_succ_cons, List.take_zero, List.nil_append, List.cons_append, List.drop_succ_cons, List.drop_zero, List.length_cons, List.length_nil, Nat.reduceAdd, Nat.zero_add] at hE) | (refine wpl_store hE 3 rfl rfl rfl rfl rfl (by simp [go_sem]; rfl) (by rfl) (by simp [Value.cells, Value.oneCell', Act.eval]) (by simp) ?_; clear hE; intro w hE; simp only [Act.eval, getD_lit, List.getD_cons_succ, List.getD_cons_zero, Value.cells, List.set_cons_zero, List.set_cons_succ, List.take_succ_cons, List.take_zero, List.nil_append, List.cons_append, List.drop_succ_cons, List.drop_zero, List.length_cons, List.length_nil, Nat.reduceAdd, Nat.zero_add] at hE) | (refine wpl_store hE 4 rfl rfl rfl rfl rfl (by simp [go_sem]; rfl) (by rfl) (by simp [Value.cells, Value.oneCell', Act.eval]) (by simp) ?_; clear hE; intro w hE; simp only [Act.eval, getD_lit, List.getD_cons_succ, List.getD_cons_zero, Value.cells, List.set_cons_zero, List.set_cons_succ, List.take_succ_cons, List.take_zero, List.nil_append, List.cons_append, List.drop_succ_cons, List.drop_zero, List.length_cons, List.length_nil, Nat.reduceAdd, Nat.zero_add] at hE) | (refine wpl_store hE 5 rfl rfl rfl rfl rfl (by simp [go_sem]; rfl) (by rfl) (by simp [Value.cells, Value.oneCell', Act.eval]) (by simp) ?_; clear hE; intro w hE; simp only [Act.eval, getD_lit, List.getD_cons_succ, List.getD_cons_zero, Value.cells, List.set_cons_zero, List.set_cons_succ, List.take_succ_cons, List.take_zero, List.nil_append, List.cons_append, List.drop_succ_cons, List.drop_zero, List.length_cons, List.length_nil, Nat.reduceAdd, Nat.zero_add] at hE)))
  go_end0
  exact ⟨rfl, hE⟩
end Go.Proofs.Ytohdljcpaogokaa
namespace Go.Proofs.Ytohdljcpaogokaa
open Go.RowKit Go.SL

theorem info_entry : elemInfo Try.prog 86 = some (some 3, 3, 40) := by kernel_rfl
theorem treeCells_app (t : List TE) (y : TE) : treeCells (t ++ [y]) = treeCells t ++ tcells y := by simp [treeCells]
def tbody (o b : Nat) (x : SE) (ao : Option Addr) (c : Nat) (t : List TE) (s : St) (l : List HProp) : List HProp :=
  opener o s.bs s.err :: pt b (.cells #[.int .u8 x.do_.toNat, .string ⟨x.name.toArray⟩, .string ⟨x.path.toArray⟩, .slice ao t.length c, .int .u16 x.acts, .string ⟨x.keep.toArray⟩] 87) :: trow ao c t :: l
def TTrRel (x : SE) (n : Nat) (s0 : St) (o b : Nat) (l : List HProp) (i : Value) (wr : World) : Prop :=
  ∃ (k : Nat) (t : List TE) (s : St) (ao : Option Addr) (c : Nat), k ≤ n ∧ i = .int .u64 k ∧ t = x.tree ++ (ptes k s0).1 ∧ s = (ptes k s0).2 ∧ Ent (tbody o b x ao c t s l) wr

attribute [-go_sem] Instr.loadAt in
set_option maxRecDepth 100000 in
set_option maxHeartbeats 2000000 in
theorem takeTree_any {x : SE} {ao : Option Addr} {c b o : Nat} {s : St} {l : List HProp} {w : World} (hE : Ent (opener o s.bs s.err :: pt b (.cells (xcells x ao c).toArray 87) :: trow ao c x.tree :: l) w) (hb : s.bs.length ≤ 1099511627776) (hx : x.tree.length ≤ 1000000) :
    Calls Try.prog 84 #[.pointer (some ⟨b, 0, none⟩), .pointer (some ⟨o, 0, none⟩)] w (fun e w' => e = .returned (.tuple #[]) ∧ ∃ ao' c',
      Ent (opener o (ptes (tkV 1 s) (tk 1 s)).2.bs (ptes (tkV 1 s) (tk 1 s)).2.err :: pt b (.cells (xcells { x with tree := x.tree ++ (ptes (tkV 1 s) (tk 1 s)).1 } ao' c').toArray 87) :: trow ao' c' (x.tree ++ (ptes (tkV 1 s) (tk 1 s)).1) :: l) w') := by
  have hN := sTake hE hb 1
  have h1 := tkV1_lt s
  have hl1 := Nat.le_trans (tk_len 1 s) hb
  generalize tk 1 s = s0 at *
  generalize tkV 1 s = n at *
  go_enter Try.func84, Try.ntmps84
  go_wp2_with (first
    | (go_at_call 55; refine hN.mono ?_; clear hN hE; rintro e w2 ⟨v, rfl, rfl, hE⟩))
  go_loopw [7] (fun i wr => TTrRel x n s0 o b l i wr) (fun i _ => n - (intOf i).toNat)
  case atStart => exact ⟨0, x.tree, s0, ao, c, Nat.zero_le _, rfl, by simp [ptes], rfl, hE⟩
  case round =>
    clear hE
    obtain ⟨k, t, s1, a1, c1, hkl, rfl, ht, hs1, hE⟩ := hrel
    by_cases hlt : k < n
    · have hlen : t.length = x.tree.length + k := by rw [ht, List.length_append, ptes_count]
      have hlb : t.length ≤ 1000300 := by omega
      clear hlen
      have hs1b : s1.bs.length ≤ 1099511627776 := by rw [hs1]; exact Nat.le_trans (ptes_len _ _) hl1
      have Hs := SL.hid (show pte s1 = pte (ptes k s0).2 by rw [hs1])
      have Ht := SL.hid ht
      clear ht hs1
      have Hp := SL.hid (show pte s1 = (⟨nmV s1, tkV 1 (nm s1) == 1, txV (tkV 2 (tk 1 (nm s1))) (tk 2 (tk 1 (nm s1)))⟩, tx (tkV 2 (tk 1 (nm s1))) (tk 2 (tk 1 (nm s1)))) from rfl)
      have hA : ∀ {l : List HProp} {w : World}, Ent (opener o s1.bs s1.err :: l) w → Calls Try.prog 57 #[.pointer (some ⟨o, 0, none⟩)] w (Ret fun v w' => v = .string ⟨(nmV s1).toArray⟩ ∧ Ent (opener o (nm s1).bs (nm s1).err :: l) w') := fun h => sName h hs1b
      have b2 := Nat.le_trans (nm_len s1) hs1b
      generalize nm s1 = s2 at *
      generalize nmV s1 = ys at *
      have hB : ∀ {l : List HProp} {w : World}, Ent (opener o s2.bs s2.err :: l) w → Calls Try.prog 55 #[.pointer (some ⟨o, 0, none⟩), .int .i64 1] w (Ret fun v w' => v = .int .u64 (tkV 1 s2) ∧ Ent (opener o (tk 1 s2).bs (tk 1 s2).err :: l) w') := fun h => sTake h b2 1
      have b3 := Nat.le_trans (tk_len 1 s2) b2
      generalize tk 1 s2 = s3 at *
      have hC : ∀ {l : List HProp} {w : World}, Ent (opener o s3.bs s3.err :: l) w → Calls Try.prog 55 #[.pointer (some ⟨o, 0, none⟩), .int .i64 2] w (Ret fun v w' => v = .int .u64 (tkV 2 s3) ∧ Ent (opener o (tk 2 s3).bs (tk 2 s3).err :: l) w') := fun h => sTake h b3 2
      have b4 := Nat.le_trans (tk_len 2 s3) b3
      have hwn := i64wrap (tkV2_lt s3)
      generalize tk 2 s3 = s4 at *
      generalize tkV 2 s3 = m at *
      have hD : ∀ {l : List HProp} {w : World}, Ent (opener o s4.bs s4.err :: l) w → Calls Try.prog 56 #[.pointer (some ⟨o, 0, none⟩), .int .i64 m] w (Ret fun v w' => v = .string ⟨(txV m s4).toArray⟩ ∧ Ent (opener o (tx m s4).bs (tx m s4).err :: l) w') := fun h => sText h b4 m
      generalize tx m s4 = s5 at *
      generalize txV m s4 = dat at *
      obtain ⟨dir, hdir⟩ : ∃ dir, dir = (tkV 1 s2 == 1) := ⟨_, rfl⟩
      have hdir2 : ((tkV 1 s2 : Int) == 1) = dir := by
        rw [hdir]
        by_cases h : tkV 1 s2 = 1
        · simp [h]
        · rw [beq_eq_false_iff_ne.2 h, beq_eq_false_iff_ne.2 (by omega)]
      have Hp2 := SL.hid (Hs.out ▸ hdir ▸ Hp.out)
      clear Hs Hp hdir
      generalize tkV 1 s2 = n1 at *
      go_wp2_with (first
        | (go_at_call 57; refine (hA hE).mono ?_; clear hE; rintro e w3 ⟨v, rfl, rfl, hE2⟩)
        | (go_at_call 55; refine (hB hE2).mono ?_; clear hE2; rintro e w4 ⟨v, rfl, rfl, hE3⟩)
        | ((with_reducible (show Go.wpList _ _ _ (Go.Oper.mk _ (.alloc _) _ _ _ _ :: _) _ _)); refine wpl_alloc hE3 rfl rfl (by simp [go_sem]; rfl) ?_; clear hE3; intro b5 w hE4)
        | ((with_reducible (show Go.wpList _ _ _ (Go.Oper.mk _ (.store _ _ _) _ _ _ _ :: _) _ _)); refine wpl_storeW hE4 0 rfl rfl rfl (xs := [.string ⟨ys.toArray⟩, .bool dir, .string ⟨#[]⟩]) rfl rfl Try.sizeOf86 rfl (by simp [Value.oneCell']) rfl ?_; clear hE4; intro w hE5; simp only [List.set_cons_zero, List.set_cons_succ] at hE5)
        | (go_at_call 55; refine (hC (hE5.front 1 rfl)).mono ?_; clear hE5; rintro e w6 ⟨v, rfl, rfl, hE6⟩; simp only [List.eraseIdx_cons_zero, List.eraseIdx_cons_succ] at hE6)
        | (go_at_call 56; refine (hD hE6).mono ?_; clear hE6; rintro e w7 ⟨v, rfl, rfl, hE7⟩)
        | ((with_reducible (show Go.wpList _ _ _ (Go.Oper.mk _ (.store _ _ _) _ _ _ _ :: _) _ _)); refine wpl_store hE7 1 rfl rfl rfl rfl rfl (by simp [go_sem]; rfl) (by rfl) (by simp [Value.cells, Value.oneCell', Act.eval]) (by simp) ?_; clear hE7; intro w8 hE8; simp only [Act.eval, getD_lit, List.getD_cons_succ, List.getD_cons_zero, Value.cells, List.set_cons_zero, List.set_cons_succ, List.take_succ_cons, List.take_zero, List.nil_append, List.cons_append, List.drop_succ_cons, List.drop_zero, List.length_cons, List.length_nil, Nat.reduceAdd, Nat.zero_add] at hE8))
      have hED := hE8.drew
      have hL1 : (Instr.loadAt 81 (.pointer (some ⟨b, 3, none⟩))).run Try.prog w8.drew = .ok (.slice a1 t.length c1) w8.drew := run_load1 (P := Try.prog) hED 2 rfl (t := 81) (by simp [go_sem]) (off := 3) rfl
      have hL3 : ∀ o, (Instr.loadAt 81 (.pointer (some ⟨b, 3, none⟩))).run Try.prog (w8.alloc o).drew = .ok (.slice a1 t.length c1) (w8.alloc o).drew := fun o => run_load1 (P := Try.prog) ((hE8.alloc o).drew) 3 rfl (t := 81) (by simp [go_sem]) (off := 3) rfl
      have hL2 := run_loadA (P := Try.prog) hED 1 rfl (t := 86) Try.isAgg86 Try.sizeOf86 (off := 0) (vs := [.string ⟨ys.toArray⟩, .bool dir, .string ⟨dat.toArray⟩]) rfl (fun j _ => by simp)
      have hbs := fun w => run_buildSlice1 (P := Try.prog) (w := w) Try.underlying81 (size := 3) (by kernel_rfl) Try.sizeOf86 (by decide) (by decide) [.string ⟨ys.toArray⟩, .bool dir, .string ⟨dat.toArray⟩] rfl
      go_region_law ((refine step_appendG ((hE8.alloc _).drew) 4 rfl (by rfl) (by rfl) (by rfl) (by rfl) Try.underlying81 info_entry (by decide) (m := 1) (news := tcells ⟨ys, dir, dat⟩) (reads_pt ((hE8.alloc _).drew) 0 rfl (off := 0) (fun j u hu => by simpa [tcells] using hu)) rfl (by simp [tcells, Value.oneCell']) (by omega) (by omega) ?_); (intro ao' c' w9 hE9; have d0 : w9.cell? ⟨b, 3, none⟩ = some (.slice a1 t.length c1) := hE9.cell 3 rfl 3; have d1 : w9.frozen? ⟨b, 3, none⟩ = false := hE9.frozen 3 rfl 3))
      all_goals
        go_wp2
        go_roundw
        case rel =>
          have hE4 := ((hE9.setCell 3 rfl 3 (.slice ao' (t.length + 1) c')).tail).erase 1
          simp only [List.set_cons_succ, List.set_cons_zero, List.setIfInBounds_toArray, List.eraseIdx_cons_zero, List.eraseIdx_cons_succ] at hE4
          rw [← treeCells_app] at hE4
          rw [show t.length + 1 = (t ++ [(⟨ys, dir, dat⟩ : TE)]).length by simp] at hE4 ⊢
          exact ⟨k + 1, t ++ [⟨ys, dir, dat⟩], s5, ao', c', hlt, by simp, by rw [ptes, Ht.out, Hp2.out, List.append_assoc], by rw [ptes, Hp2.out], by rw [tbody, trow]; exact hE4⟩
        case measure => simp [intOf]; omega
    · have e : k = n := by omega
      subst e
      go_wp2
      go_end0
      subst ht hs1
      exact ⟨rfl, a1, c1, hE⟩
end Go.Proofs.Ytohdljcpaogokaa
namespace Go.Proofs.Ytohdljcpaogokaa
open Go.RowKit Go.SL

def fTake (p : FuncId × FuncId) (q : SE × St) : SE × St :=
  if p = pName then ({ q.1 with name := nmV q.2 }, nm q.2)
  else if p = pPath then ({ q.1 with path := nmV q.2 }, nm q.2)
  else if p = pKeep then ({ q.1 with keep := nmV q.2 }, nm q.2)
  else if p = pActs then ({ q.1 with acts := tkV 2 q.2 % 65536 }, tk 2 q.2)
  else ({ q.1 with tree := q.1.tree ++ (ptes (tkV 1 q.2) (tk 1 q.2)).1 }, (ptes (tkV 1 q.2) (tk 1 q.2)).2)
def fPut (p : FuncId × FuncId) (x : SE) (q : PS) : PS :=
  if p = pName then pN x.name q else if p = pPath then pN x.path q else if p = pKeep then pN x.keep q else if p = pActs then pW 2 x.acts q else pTr x.tree q
theorem pieces_mem {d : UInt8} {p : FuncId × FuncId} (h : p ∈ piecesOf d) : p = pName ∨ p = pPath ∨ p = pKeep ∨ p = pActs ∨ p = pTree := by
  simp only [piecesOf, List.mem_append] at h
  rcases h with h | h | h | h | h <;> split at h <;> simp at h
  · simp [h]
  · simp [h]
  · simp [h]
  · simp [h]
  · simp [h]
theorem pieces_none {d : UInt8} (h : piecesOf d = []) : hasName d = false ∧ hasPath d = false ∧ hasTree d = false ∧ hasActs d = false ∧ hasKeep d = false := by
  simp only [piecesOf, List.append_eq_nil_iff, ite_eq_right_iff, List.cons_ne_nil, imp_false, Bool.not_eq_true] at h
  exact ⟨h.2.1, h.2.2.1, h.2.2.2.1, h.1, h.2.2.2.2⟩
theorem pieces_two (d : UInt8) : (piecesOf d).length ≤ 2 := by
  rcases u8cases d with rfl | rfl | rfl | rfl | rfl | rfl | ⟨hp, _⟩
  · decide
  · decide
  · decide
  · decide
  · decide
  · decide
  · simp [hp]
theorem pent_pieces (s : St) : (piecesOf (UInt8.ofNat (tkV 1 s))).foldl (fun q p => fTake p q) (⟨UInt8.ofNat (tkV 1 s), [], [], [], 0, []⟩, tk 1 s) = pent s := by
  unfold pent
  simp only
  generalize UInt8.ofNat (tkV 1 s) = d
  generalize tk 1 s = s1
  rcases u8cases d with rfl | rfl | rfl | rfl | rfl | rfl | ⟨hp, _⟩
  · simp [piecesOf, hasName, hasPath, hasTree, hasActs, hasKeep, fTake, pName, pPath, pKeep, pActs, pTree]
  · simp [piecesOf, hasName, hasPath, hasTree, hasActs, hasKeep, fTake, pName, pPath, pKeep, pActs, pTree]
  · simp [piecesOf, hasName, hasPath, hasTree, hasActs, hasKeep, fTake, pName, pPath, pKeep, pActs, pTree]
  · simp [piecesOf, hasName, hasPath, hasTree, hasActs, hasKeep, fTake, pName, pPath, pKeep, pActs, pTree]
  · simp [piecesOf, hasName, hasPath, hasTree, hasActs, hasKeep, fTake, pName, pPath, pKeep, pActs, pTree]
  · simp [piecesOf, hasName, hasPath, hasTree, hasActs, hasKeep, fTake, pName, pPath, pKeep, pActs, pTree]
  · obtain ⟨h1, h2, h3, h4, h5⟩ := pieces_none hp
    simp [hp, h1, h2, h3, h4, h5]
theorem fTake_len (p : FuncId × FuncId) (q : SE × St) : (fTake p q).2.bs.length ≤ q.2.bs.length ∧ (fTake p q).1.tree.length ≤ q.1.tree.length + 255 := by
  unfold fTake
  split
  · exact ⟨nm_len _, by simp⟩
  split
  · exact ⟨nm_len _, by simp⟩
  split
  · exact ⟨nm_len _, by simp⟩
  split
  · exact ⟨tk_len _ _, by simp⟩
  · refine ⟨Nat.le_trans (ptes_len _ _) (tk_len _ _), ?_⟩
    simp only [List.length_append, ptes_count]
    have := tkV1_lt q.2
    omega
theorem fTakes_len : ∀ (ps : List (FuncId × FuncId)) (q : SE × St), (ps.foldl (fun q p => fTake p q) q).2.bs.length ≤ q.2.bs.length ∧ (ps.foldl (fun q p => fTake p q) q).1.tree.length ≤ q.1.tree.length + ps.length * 255
  | [], q => by simp
  | p :: ps, q => by
    have h1 := fTakes_len ps (fTake p q)
    have h2 := fTake_len p q
    simp only [List.foldl_cons, List.length_cons]
    omega

/-- what a piece's second function does -/
theorem piece_takes {d : UInt8} {p : FuncId × FuncId} (hp : p ∈ piecesOf d) {x : SE} {ao : Option Addr} {c b o : Nat} {s : St} {l : List HProp} {w : World} (hE : Ent (opener o s.bs s.err :: pt b (.cells (xcells x ao c).toArray 87) :: trow ao c x.tree :: l) w) (hb : s.bs.length ≤ 1099511627776) (hx : x.tree.length ≤ 1000000) :
    Calls Try.prog p.2 #[.pointer (some ⟨b, 0, none⟩), .pointer (some ⟨o, 0, none⟩)] w (fun e w' => e = .returned (.tuple #[]) ∧ ∃ ao' c',
      Ent (opener o (fTake p (x, s)).2.bs (fTake p (x, s)).2.err :: pt b (.cells (xcells (fTake p (x, s)).1 ao' c').toArray 87) :: trow ao' c' (fTake p (x, s)).1.tree :: l) w') := by
  rcases pieces_mem hp with rfl | rfl | rfl | rfl | rfl
  · refine (takeName_any hE hb).mono ?_
    rintro e w2 ⟨rfl, h⟩
    exact ⟨rfl, ao, c, h⟩
  · refine (takePath_any hE hb).mono ?_
    rintro e w2 ⟨rfl, h⟩
    exact ⟨rfl, ao, c, h⟩
  · refine (takeKeep_any hE hb).mono ?_
    rintro e w2 ⟨rfl, h⟩
    exact ⟨rfl, ao, c, h⟩
  · refine (takeActs_any hE hb).mono ?_
    rintro e w2 ⟨rfl, h⟩
    exact ⟨rfl, ao, c, h⟩
  · refine (takeTree_any hE hb hx).mono ?_
    rintro e w2 ⟨rfl, ao', c', h⟩
    exact ⟨rfl, ao', c', h⟩
theorem piece_call {d : UInt8} {p : FuncId × FuncId} (hp : p ∈ piecesOf d) : (∀ (args : Array Value) (w : World), (callFunc p.1 args).run Try.prog w = .ok (.enter p.1 args) w) ∧ ∀ (args : Array Value) (w : World), (callFunc p.2 args).run Try.prog w = .ok (.enter p.2 args) w := by
  rcases pieces_mem hp with rfl | rfl | rfl | rfl | rfl
  · exact ⟨Try.call77, Try.call78⟩
  · exact ⟨Try.call79, Try.call80⟩
  · exact ⟨Try.call81, Try.call82⟩
  · exact ⟨Try.call85, Try.call86⟩
  · exact ⟨Try.call83, Try.call84⟩
theorem piece_cells {w : World} {b off n c : Nat} {ps : List (FuncId × FuncId)} (hr : reads (.slice (some ⟨b, off, none⟩) n c) n (pieceCells ps) w) {i : Nat} (hi : i < ps.length) :
    ∀ j v, (pcells ps[i])[j]? = some v → w.cell? ((⟨b, off + i * 2, none⟩ : Addr).add j) = some v := by
  obtain ⟨ao, c', e, _, h2⟩ := hr
  cases e
  intro j v hv
  have := h2 _ rfl _ _ (flatMap_at pcells 2 (fun _ => rfl) ps i j _ v (List.getElem?_eq_getElem hi) hv)
  rw [Addr.add_lit, ← Nat.add_assoc] at this
  rw [Addr.add_lit]
  exact this

def TkRel (ps : List (FuncId × FuncId)) (q0 : SE × St) (o b : Nat) (l : List HProp) (i : Value) (wr : World) : Prop :=
  ∃ (k : Nat) (q : SE × St) (ao : Option Addr) (c : Nat), k ≤ ps.length ∧ i = .int .i64 k ∧ q = (ps.take k).foldl (fun q p => fTake p q) q0 ∧ Ent (opener o q.2.bs q.2.err :: pt b (.cells (xcells q.1 ao c).toArray 87) :: trow ao c q.1.tree :: l) wr
theorem perm_over {m l : List HProp} {A B C D : HProp} : (D :: (m ++ A :: B :: C :: l)).Perm (A :: B :: D :: C :: (m ++ l)) := by
  have h1 : (m ++ A :: B :: C :: l).Perm (A :: B :: C :: (m ++ l)) := (List.perm_append_comm (l₁ := m) (l₂ := [A, B, C] ++ l)).trans (by simpa using List.Perm.append_left [A, B, C] (List.perm_append_comm (l₁ := l) (l₂ := m)))
  refine (h1.cons D).trans ?_
  exact (List.Perm.swap A D _).trans (((List.Perm.swap B D _)).cons A)

theorem perm_rot3 {l : List HProp} {A B C D : HProp} : (A :: B :: C :: D :: l).Perm (B :: C :: D :: A :: l) :=
  (List.Perm.swap B A _).trans ((List.Perm.cons B ((List.Perm.swap C A _).trans (List.Perm.cons C (List.Perm.swap D A _)))))
theorem perm_last {m l : List HProp} {A B C D : HProp} : (A :: B :: C :: D :: (m ++ l)).Perm (B :: D :: (m ++ A :: C :: l)) := by
  have h1 : (m ++ A :: C :: l).Perm (A :: C :: (m ++ l)) := (List.perm_append_comm (l₁ := m) (l₂ := [A, C] ++ l)).trans (by simpa using List.Perm.append_left [A, C] (List.perm_append_comm (l₁ := l) (l₂ := m)))
  have h2 : (A :: B :: C :: D :: (m ++ l)).Perm (B :: D :: A :: C :: (m ++ l)) := (List.Perm.swap B A _).trans (List.Perm.cons B (((List.Perm.swap C A _).trans (((List.Perm.swap D A _).cons C).trans (List.Perm.swap D C _))).trans ((List.Perm.swap A C _).cons D)))
  exact h2.trans ((h1.symm.cons D).cons B)

set_option maxRecDepth 100000 in
set_option maxHeartbeats 2000000 in
theorem take_any {o : Nat} {s : St} {l : List HProp} {w : World} (hE : Ent (opener o s.bs s.err :: l) w) (hb : s.bs.length ≤ 1099511627776) :
    Calls Try.prog 46 #[.pointer (some ⟨o, 0, none⟩)] w (Ret fun v w' => ∃ ao c, v = .agg (xcells (pent s).1 ao c).toArray ∧ Ent (opener o (pent s).2.bs (pent s).2.err :: trow ao c (pent s).1.tree :: l) w') := by
  have Hp := SL.hid (pent_pieces s)
  have h1 := tkV1_lt s
  have hl1 := Nat.le_trans (tk_len 1 s) hb
  have hw : IntKind.u8.wrap (tkV 1 s : Int) = (UInt8.ofNat (tkV 1 s)).toNat := by
    simp [IntKind.wrap, IntKind.signed, IntKind.bits]
  have hA : ∀ {l : List HProp} {w : World}, Ent (opener o s.bs s.err :: l) w → Calls Try.prog 55 #[.pointer (some ⟨o, 0, none⟩), .int .i64 1] w (Ret fun v w' => v = .int .u64 (tkV 1 s) ∧ Ent (opener o (tk 1 s).bs (tk 1 s).err :: l) w') := fun h => sTake h hb 1
  generalize UInt8.ofNat (tkV 1 s) = d at *
  generalize tk 1 s = s1 at *
  generalize tkV 1 s = n at *
  generalize pent s = r at *
  go_enter Try.func46, Try.ntmps46
  go_wp2_with (first
    | ((with_reducible (show Go.wpList _ _ _ (Go.Oper.mk _ (.alloc _) _ _ _ _ :: _) _ _)); refine wpl_alloc hE rfl rfl (by simp [go_sem]; rfl) ?_; clear hE; intro b2 w1 hE1)
    | (go_at_call 55; refine (hA (hE1.front 1 rfl)).mono ?_; clear hE1; rintro e w3 ⟨v, rfl, rfl, hE2⟩; simp only [List.eraseIdx_cons_zero, List.eraseIdx_cons_succ] at hE2)
    | ((with_reducible (show Go.wpList _ _ _ (Go.Oper.mk _ (.alloc _) _ _ _ _ :: _) _ _)); refine wpl_alloc hE2 rfl rfl (by simp [go_sem]; rfl) ?_; clear hE2; intro b3 w4 hE3)
    | ((with_reducible (show Go.wpList _ _ _ (Go.Oper.mk _ (.store _ _ _) _ _ _ _ :: _) _ _)); refine wpl_storeW hE3 0 rfl rfl rfl (xs := xcells ⟨d, [], [], [], 0, []⟩ none 0) rfl rfl Try.sizeOf87 rfl (by simp [xcells, Value.oneCell']) rfl ?_; clear hE3; intro w5 hE4; simp only [List.set_cons_zero, List.set_cons_succ] at hE4)
    | ((with_reducible (show Go.wpList _ _ _ (Go.Oper.mk _ (.load _ _) _ _ _ _ :: _) _ _)); refine wpl_load1 hE4 0 rfl rfl rfl rfl (by simp [go_sem]) rfl ?_)
    | (go_at_call 43; refine (pieces_any d (hE4.front 1 rfl)).mono ?_; clear hE4; rintro e w6 ⟨v, rfl, aop, cp, m, rfl, hE5, hkp⟩; simp only [List.eraseIdx_cons_zero, List.eraseIdx_cons_succ] at hE5))
  have hE6 := (hE5.nil 86 3).perm perm_over
  clear hE5
  have hk : Knows (m ++ l) (reads (.slice aop (piecesOf d).length cp) (piecesOf d).length (pieceCells (piecesOf d))) := Knows.left hkp
  clear hkp
  have hmem : ∀ p ∈ piecesOf d, p ∈ piecesOf d := fun _ h => h
  have htwo := pieces_two d
  generalize hps : piecesOf d = ps at *
  go_loopw [14] (fun i wr => TkRel ps (⟨d, [], [], [], 0, []⟩, s1) o b3 (pt b2 (.cells #[.int .u8 0, .string ⟨#[]⟩, .string ⟨#[]⟩, .slice none 0 0, .int .u16 0, .string ⟨#[]⟩] 87) :: (m ++ l)) i wr) (fun i _ => ps.length - (intOf i).toNat)
  case atStart => exact ⟨0, _, none, 0, Nat.zero_le _, rfl, rfl, hE6⟩
  case round =>
    clear hE6
    obtain ⟨k, q, ao, c, hkl, rfl, hq, hE⟩ := hrel
    by_cases hlt : k < ps.length
    · obtain ⟨bt, off, rfl, _⟩ := reads_form (hk _ hE.tail.tail.tail.tail) (by omega) (by rw [pieceCells_len]; omega)
      have Hcx := SL.hid (piece_cells (hk _ hE.tail.tail.tail.tail) hlt)
      have hlen := fTakes_len (ps.take k) (⟨d, [], [], [], 0, []⟩, s1)
      rw [← hq] at hlen
      have hl2 : (ps.take k).length ≤ 2 := by rw [List.length_take]; omega
      simp only [List.length_nil] at hlen
      have hqb : q.2.bs.length ≤ 1099511627776 := by omega
      have hqt : q.1.tree.length ≤ 1000000 := by omega
      clear hlen hl2
      have Hs := SL.hid (show (ps.take (k + 1)).foldl (fun q p => fTake p q) (⟨d, [], [], [], 0, []⟩, s1) = fTake ps[k] q by rw [List.take_succ_eq_append_getElem hlt, List.foldl_append, ← hq]; rfl)
      have hpm : ps[k] ∈ piecesOf d := by rw [hps]; exact List.getElem_mem hlt
      clear hq
      generalize ps[k] = p at *
      have hcall := (piece_call hpm).2
      have hT : ∀ {l : List HProp} {w : World}, Ent (opener o q.2.bs q.2.err :: pt b3 (.cells (xcells q.1 ao c).toArray 87) :: trow ao c q.1.tree :: l) w → Calls Try.prog p.2 #[.pointer (some ⟨b3, 0, none⟩), .pointer (some ⟨o, 0, none⟩)] w (fun e w' => e = .returned (.tuple #[]) ∧ ∃ ao' c',
          Ent (opener o (fTake p q).2.bs (fTake p q).2.err :: pt b3 (.cells (xcells (fTake p q).1 ao' c').toArray 87) :: trow ao' c' (fTake p q).1.tree :: l) w') := fun h => piece_takes hpm h hqb hqt
      clear hpm
      have Hpc := SL.hid (show pcells p = [.func (Fn.func p.1) #[] #[], .func (Fn.func p.2) #[] #[]] from rfl)
      generalize fTake p q = q2 at *
      go_wp2_with (first
        | ((with_reducible (show Go.wpList _ _ _ (Go.Oper.mk _ (.load 97 _) _ _ _ _ :: _) _ _)); refine wpl_loadC rfl rfl rfl Try.isAgg97 Try.sizeOf97 [.func (Fn.func p.1) #[] #[], .func (Fn.func p.2) #[] #[]] rfl Hcx.out ?_)
        | ((with_reducible (show Go.wpList _ _ _ (Go.Oper.mk _ (.alloc _) _ _ _ _ :: _) _ _)); refine wpl_alloc hE rfl rfl (by simp [go_sem]; rfl) ?_; clear hE; intro b5 w1 hE1)
        | ((with_reducible (show Go.wpList _ _ _ (Go.Oper.mk _ (.store _ _ _) _ _ _ _ :: _) _ _)); refine wpl_storeW hE1 0 rfl rfl rfl (xs := [.func (Fn.func p.1) #[] #[], .func (Fn.func p.2) #[] #[]]) rfl rfl Try.sizeOf97 rfl (by simp [Value.oneCell']) rfl ?_; clear hE1; intro w2 hE2; simp only [List.set_cons_zero, List.set_cons_succ] at hE2)
        | ((with_reducible (show Go.wpList _ _ _ (Go.Oper.mk _ (.load _ _) _ _ _ _ :: _) _ _)); refine wpl_load1 hE2 0 rfl rfl rfl rfl (by simp [go_sem]) rfl ?_))
      refine (hT (hE2.perm perm_rot3)).mono ?_
      rintro e w3 ⟨rfl, ao', c', hE3⟩
      go_wp2
      go_roundw
      case rel => exact ⟨k + 1, q2, ao', c', hlt, by simp, Hs.out.symm, hE3.erase 3⟩
      case measure => simp [intOf]; omega
    · have e : k = ps.length := by omega
      rw [e, List.take_length, Hp.out] at hq
      subst hq
      clear e
      go_wp2_with (first
        | ((with_reducible (show Go.wpList _ _ _ (Go.Oper.mk _ (.load _ _) _ _ _ _ :: _) _ _)); refine wpl_loadW hE 1 rfl rfl rfl rfl Try.isAgg87 Try.sizeOf87 (xs := xcells q.1 ao c) rfl ?_)
        | ((with_reducible (show Go.wpList _ _ _ (Go.Oper.mk _ (.store _ _ _) _ _ _ _ :: _) _ _)); refine wpl_storeW hE 3 rfl rfl rfl (xs := xcells q.1 ao c) rfl rfl Try.sizeOf87 rfl (by simp [xcells, Value.oneCell']) rfl ?_; clear hE; intro w2 hE2; simp only [List.set_cons_zero, List.set_cons_succ] at hE2))
      refine bodyPost_ret (results_cellA rfl hE2 3 rfl rfl Try.isAgg87 Try.sizeOf87 (xs := xcells q.1 ao c) rfl) rfl ?_
      exact ⟨_, rfl, ao, c, rfl, (hE2.perm perm_last).tail.tail.drop⟩
end Go.Proofs.Ytohdljcpaogokaa
