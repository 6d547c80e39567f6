/-
  Chunks in memory: a child's cells; the height of a chunk, the program's and the document's.
-/
import Derived.Test.YtohdljcpaogokaaCk1
import Derived.Test.YtohdljcpaogokaaSli
import Derived.Test.YtohdljcpaogokaaSlh
import Derived.Test.YtohdljcpaogokaaFr
namespace Go.Proofs.Ytohdljcpaogokaa
open Go.RowKit Go.SL

def kcells (k : Kid) : List Value := .string ⟨k.name.toArray⟩ :: .bool k.dir :: (bvals k.hash ++ [.int .u8 k.height.toNat, .int .u32 k.size])
def kidCells (ks : List Kid) : List Value := ks.flatMap kcells
/-- a child whose hash has 32 bytes -/
structure Kid32 where
  kid : Kid
  good : kid.good

theorem kcells_len {k : Kid} (h : k.good) : (kcells k).length = 36 := by simp [kcells, bvals_length, h.1]
theorem kidCells_len : ∀ {ks : List Kid}, (∀ k ∈ ks, k.good) → (kidCells ks).length = ks.length * 36
  | [], _ => rfl
  | k :: ks, h => by
    have h1 := kcells_len (h k (by simp))
    have h2 := kidCells_len (ks := ks) (fun k hk => h k (by simp [hk]))
    simp only [kidCells, List.flatMap_cons, List.length_append, List.length_cons] at h1 h2 ⊢
    omega
theorem kid_at : ∀ {ks : List Kid}, (∀ k ∈ ks, k.good) → ∀ {i : Nat} (hi : i < ks.length) (j : Nat) (u : Value), (kcells ks[i])[j]? = some u → (kidCells ks)[i * 36 + j]? = some u
  | [], _, i, hi, _, _, _ => absurd hi (by simp)
  | k :: ks, h, 0, hi, j, u, hu => by
    have h1 := kcells_len (h k (by simp))
    have hj := (List.getElem?_eq_some_iff.1 hu).1
    simp only [List.getElem_cons_zero] at hu hj
    simp only [kidCells, List.flatMap_cons, Nat.zero_mul, Nat.zero_add]
    rw [List.getElem?_append_left hj]
    exact hu
  | k :: ks, h, i + 1, hi, j, u, hu => by
    have h1 := kcells_len (h k (by simp))
    have h2 := kid_at (ks := ks) (fun k hk => h k (by simp [hk])) (i := i) (by simpa using hi) j u (by simpa using hu)
    simp only [kidCells, List.flatMap_cons] at h2 ⊢
    rw [List.getElem?_append_right (by omega), h1, show (i + 1) * 36 + j - 36 = i * 36 + j by omega]
    exact h2
theorem kc0 (k : Kid) : (kcells k).toArray[0]? = some (.string ⟨k.name.toArray⟩) := by simp [kcells]
theorem kc1 (k : Kid) : (kcells k).toArray[1]? = some (.bool k.dir) := by simp [kcells]
theorem kc34 {k : Kid} (h : k.good) : (kcells k).toArray[34]? = some (.int .u8 k.height.toNat) := by
  have := h.1
  simp [kcells, List.getElem?_append, bvals_length, this]
theorem kc35 {k : Kid} (h : k.good) : (kcells k).toArray[35]? = some (.int .u32 k.size) := by
  have := h.1
  simp [kcells, List.getElem?_append, bvals_length, this]
theorem kc2 {k : Kid} (h : k.good) : ∀ j, j < 32 → (kcells k).toArray[2 + j]? = (bvals k.hash)[j]? := by
  intro j hj
  have h1 := h.1
  rw [List.getElem?_toArray, kcells, show 2 + j = j + 1 + 1 by omega, List.getElem?_cons_succ, List.getElem?_cons_succ, List.getElem?_append_left (by rw [bvals_length]; omega)]
theorem kcells_one (k : Kid) : ∀ u ∈ kcells k, u.oneCell' = true := by
  intro u hu
  simp only [kcells, List.mem_cons, List.mem_append, List.not_mem_nil, or_false] at hu
  rcases hu with rfl | rfl | hu | rfl | rfl
  · rfl
  · rfl
  · exact bvals_one _ u hu
  · rfl
  · rfl

theorem kid_cells {w : World} {b off n c : Nat} {ks : List Kid} (hg : ∀ k ∈ ks, k.good) (hr : reads (.slice (some ⟨b, off, none⟩) n c) n (kidCells ks) w) {i : Nat} (hi : i < ks.length) :
    ∀ j v, (kcells ks[i])[j]? = some v → w.cell? ((⟨b, off + i * 36, none⟩ : Addr).add j) = some v := by
  obtain ⟨ao, c', e, _, h2⟩ := hr
  cases e
  intro j v hv
  have := h2 _ rfl _ _ (kid_at hg hi j v hv)
  rw [Addr.add_lit, ← Nat.add_assoc] at this
  rw [Addr.add_lit]
  exact this

theorem hgt1_snoc (ks : List Kid) (k : Kid) : hgt1 (ks ++ [k]) = max (hgt1 ks) (k.height.toNat + 1) := by simp [hgt1]
theorem hgt1_le (ks : List Kid) : hgt1 ks ≤ 256 := by
  have main : ∀ (ks : List Kid) (a : Nat), a ≤ 256 → ks.foldl (fun n k => max n (k.height.toNat + 1)) a ≤ 256 := by
    intro ks
    induction ks with
    | nil => intro a h; exact h
    | cons k ks ih =>
      intro a h
      have := k.height.toNat_lt
      rw [List.foldl_cons]
      exact ih _ (Nat.max_le.2 ⟨h, by omega⟩)
  exact main ks 1 (by omega)

def hgtB (u : UInt8) (ks : List Kid) : Nat := if isTree u then hgt1 ks else 0

set_option maxRecDepth 100000 in
theorem Height1_any {l : List HProp} {w : World} {b n h m : Nat} (hm : m = max n h) (hE : Ent (pt b (.cells #[.int .i64 n] 3) :: l) w) :
    Calls Try.prog 69 #[.int .i64 h, .pointer (some ⟨b, 0, none⟩)] w (fun e w' => e = .returned (.tuple #[]) ∧ Ent (pt b (.cells #[.int .i64 m] 3) :: l) w') := by
  by_cases hc : n < h
  · obtain rfl : m = h := by omega
    clear hm
    go_enter Try.func69, Try.ntmps69
    go_wp2_with (first | ((with_reducible (show Go.wpList _ _ _ (Go.Oper.mk _ (.load _ _) _ _ _ _ :: _) _ _)); first | (refine wpl_load1 hE 0 rfl rfl rfl rfl (by simp [go_sem]) rfl ?_) | (refine wpl_load1 hE 1 rfl rfl rfl rfl (by simp [go_sem]) rfl ?_) | (refine wpl_load1 hE 2 rfl rfl rfl rfl (by simp [go_sem]) rfl ?_) | (refine wpl_load1 hE 3 rfl rfl rfl rfl (by simp [go_sem]) rfl ?_) | (refine wpl_load1 hE 4 rfl rfl rfl rfl (by simp [go_sem]) rfl ?_) | (refine wpl_load1 hE 5 rfl rfl rfl rfl (by simp [go_sem]) rfl ?_)) | ((with_reducible (show Go.wpList _ _ _ (Go.Oper.mk _ (.store _ _ _) _ _ _ _ :: _) _ _)); first | (refine wpl_store hE 0 rfl rfl rfl rfl rfl (by simp [go_sem]; rfl) (by rfl) (by simp [Value.cells, Value.oneCell', Act.eval]) (by simp) ?_; clear hE; intro w hE; simp only [Act.eval, getD_lit, List.getD_cons_succ, List.getD_cons_zero, Value.cells, List.set_cons_zero, List.set_cons_succ, List.take_succ_cons, List.take_zero, List.nil_append, List.cons_append, List.drop_succ_cons, List.drop_zero, List.length_cons, List.length_nil, Nat.reduceAdd, Nat.zero_add] at hE) | (refine wpl_store hE 1 rfl rfl rfl rfl rfl (by simp [go_sem]; rfl) (by rfl) (by simp [Value.cells, Value.oneCell', Act.eval]) (by simp) ?_; clear hE; intro w hE; simp only [Act.eval, getD_lit, List.getD_cons_succ, List.getD_cons_zero, Value.cells, List.set_cons_zero, List.set_cons_succ, List.take_succ_cons, List.take_zero, List.nil_append, List.cons_append, List.drop_succ_cons, List.drop_zero, List.length_cons, List.length_nil, Nat.reduceAdd, Nat.zero_add] at hE) | (refine wpl_store hE 2 rfl rfl rfl rfl rfl (by simp [go_sem]; rfl) (by rfl) (by simp [Value.cells, Value.oneCell', Act.eval]) (by simp) ?_; clear hE; intro w hE; simp only [Act.eval, getD_lit, List.getD_cons_succ, List.getD_cons_zero, Value.cells, List.set_cons_zero, List.set_cons_succ, List.take_succ_cons, List.take_zero, List.nil_append, List.cons_append, List.drop_succ_cons, List.drop_zero, List.length_cons, List.length_nil, Nat.reduceAdd, Nat.zero_add] at hE) | (refine wpl_store hE 3 rfl rfl rfl rfl rfl (by simp [go_sem]; rfl) (by rfl) (by simp [Value.cells, Value.oneCell', Act.eval]) (by simp) ?_; clear hE; intro w hE; simp only [Act.eval, getD_lit, List.getD_cons_succ, List.getD_cons_zero, Value.cells, List.set_cons_zero, List.set_cons_succ, List.take_succ_cons, List.take_zero, List.nil_append, List.cons_append, List.drop_succ_cons, List.drop_zero, List.length_cons, List.length_nil, Nat.reduceAdd, Nat.zero_add] at hE) | (refine wpl_store hE 4 rfl rfl rfl rfl rfl (by simp [go_sem]; rfl) (by rfl) (by simp [Value.cells, Value.oneCell', Act.eval]) (by simp) ?_; clear hE; intro w hE; simp only [Act.eval, getD_lit, List.getD_cons_succ, List.getD_cons_zero, Value.cells, List.set_cons_zero, List.set_cons_succ, List.take_succ_cons, List.take_zero, List.nil_append, List.cons_append, List.drop_succ_cons, List.drop_zero, List.length_cons, List.length_nil, Nat.reduceAdd, Nat.zero_add] at hE) | (refine wpl_store hE 5 rfl rfl rfl rfl rfl (by simp [go_sem]; rfl) (by rfl) (by simp [Value.cells, Value.oneCell', Act.eval]) (by simp) ?_; clear hE; intro w hE; simp only [Act.eval, getD_lit, List.getD_cons_succ, List.getD_cons_zero, Value.cells, List.set_cons_zero, List.set_cons_succ, List.take_succ_cons, List.take_zero, List.nil_append, List.cons_append, List.drop_succ_cons, List.drop_zero, List.length_cons, List.length_nil, Nat.reduceAdd, Nat.zero_add] at hE)))
    go_end0
    exact ⟨rfl, hE⟩
  · obtain rfl : m = n := by omega
    clear hm
    go_enter Try.func69, Try.ntmps69
    go_wp2_with (first | ((with_reducible (show Go.wpList _ _ _ (Go.Oper.mk _ (.load _ _) _ _ _ _ :: _) _ _)); first | (refine wpl_load1 hE 0 rfl rfl rfl rfl (by simp [go_sem]) rfl ?_) | (refine wpl_load1 hE 1 rfl rfl rfl rfl (by simp [go_sem]) rfl ?_) | (refine wpl_load1 hE 2 rfl rfl rfl rfl (by simp [go_sem]) rfl ?_) | (refine wpl_load1 hE 3 rfl rfl rfl rfl (by simp [go_sem]) rfl ?_) | (refine wpl_load1 hE 4 rfl rfl rfl rfl (by simp [go_sem]) rfl ?_) | (refine wpl_load1 hE 5 rfl rfl rfl rfl (by simp [go_sem]) rfl ?_)) | ((with_reducible (show Go.wpList _ _ _ (Go.Oper.mk _ (.store _ _ _) _ _ _ _ :: _) _ _)); first | (refine wpl_store hE 0 rfl rfl rfl rfl rfl (by simp [go_sem]; rfl) (by rfl) (by simp [Value.cells, Value.oneCell', Act.eval]) (by simp) ?_; clear hE; intro w hE; simp only [Act.eval, getD_lit, List.getD_cons_succ, List.getD_cons_zero, Value.cells, List.set_cons_zero, List.set_cons_succ, List.take_succ_cons, List.take_zero, List.nil_append, List.cons_append, List.drop_succ_cons, List.drop_zero, List.length_cons, List.length_nil, Nat.reduceAdd, Nat.zero_add] at hE) | (refine wpl_store hE 1 rfl rfl rfl rfl rfl (by simp [go_sem]; rfl) (by rfl) (by simp [Value.cells, Value.oneCell', Act.eval]) (by simp) ?_; clear hE; intro w hE; simp only [Act.eval, getD_lit, List.getD_cons_succ, List.getD_cons_zero, Value.cells, List.set_cons_zero, List.set_cons_succ, List.take_succ_cons, List.take_zero, List.nil_append, List.cons_append, List.drop_succ_cons, List.drop_zero, List.length_cons, List.length_nil, Nat.reduceAdd, Nat.zero_add] at hE) | (refine wpl_store hE 2 rfl rfl rfl rfl rfl (by simp [go_sem]; rfl) (by rfl) (by simp [Value.cells, Value.oneCell', Act.eval]) (by simp) ?_; clear hE; intro w hE; simp only [Act.eval, getD_lit, List.getD_cons_succ, List.getD_cons_zero, Value.cells, List.set_cons_zero, List.set_cons_succ, List.take_succ_cons, List.take_zero, List.nil_append, List.cons_append, List.drop_succ_cons, List.drop_zero, List.length_cons, List.length_nil, Nat.reduceAdd, Nat.zero_add] at hE) | (refine wpl_store hE 3 rfl rfl rfl rfl rfl (by simp [go_sem]; rfl) (by rfl) (by simp [Value.cells, Value.oneCell', Act.eval]) (by simp) ?_; clear hE; intro w hE; simp only [Act.eval, getD_lit, List.getD_cons_succ, List.getD_cons_zero, Value.cells, List.set_cons_zero, List.set_cons_succ, List.take_succ_cons, List.take_zero, List.nil_append, List.cons_append, List.drop_succ_cons, List.drop_zero, List.length_cons, List.length_nil, Nat.reduceAdd, Nat.zero_add] at hE) | (refine wpl_store hE 4 rfl rfl rfl rfl rfl (by simp [go_sem]; rfl) (by rfl) (by simp [Value.cells, Value.oneCell', Act.eval]) (by simp) ?_; clear hE; intro w hE; simp only [Act.eval, getD_lit, List.getD_cons_succ, List.getD_cons_zero, Value.cells, List.set_cons_zero, List.set_cons_succ, List.take_succ_cons, List.take_zero, List.nil_append, List.cons_append, List.drop_succ_cons, List.drop_zero, List.length_cons, List.length_nil, Nat.reduceAdd, Nat.zero_add] at hE) | (refine wpl_store hE 5 rfl rfl rfl rfl rfl (by simp [go_sem]; rfl) (by rfl) (by simp [Value.cells, Value.oneCell', Act.eval]) (by simp) ?_; clear hE; intro w hE; simp only [Act.eval, getD_lit, List.getD_cons_succ, List.getD_cons_zero, Value.cells, List.set_cons_zero, List.set_cons_succ, List.take_succ_cons, List.take_zero, List.nil_append, List.cons_append, List.drop_succ_cons, List.drop_zero, List.length_cons, List.length_nil, Nat.reduceAdd, Nat.zero_add] at hE)))
    go_end0
    exact ⟨rfl, hE⟩

def HgtRel (ks : List Kid) (b : Nat) (l : List HProp) (i : Value) (wr : World) : Prop := ∃ k : Nat, k ≤ ks.length ∧ i = .int .i64 k ∧ Ent (pt b (.cells #[.int .i64 (hgt1 (ks.take k) : Nat)] 3) :: l) wr

theorem hgtB_is {u : UInt8} {ks : List Kid} (h : (((u.toNat : Int) == 2) = true) ∨ (((u.toNat : Int) == 2) = false ∧ ((u.toNat : Int) == 3) = true)) : hgtB u ks = hgt1 ks := by
  have : isTree u = true := by
    simp only [isTree, Bool.or_eq_true, beq_iff_eq] at h ⊢
    rcases h with h | ⟨_, h⟩
    · left; apply UInt8.toNat_inj.1; simpa using Int.ofNat_inj.1 h
    · right; apply UInt8.toNat_inj.1; simpa using Int.ofNat_inj.1 h
  simp [hgtB, this]
theorem hgtB_not {u : UInt8} {ks : List Kid} (h2 : ((u.toNat : Int) == 2) = false) (h3 : ((u.toNat : Int) == 3) = false) : hgtB u ks = 0 := by
  have : isTree u = false := by
    simp only [isTree, Bool.or_eq_false_iff, beq_eq_false_iff_ne, ne_eq] at h2 h3 ⊢
    constructor
    · rintro rfl; exact h2 rfl
    · rintro rfl; exact h3 rfl
  simp [hgtB, this]

set_option maxRecDepth 100000 in
theorem Height_not {u : UInt8} {data : List UInt8} {sl : Value} (h2 : ((u.toNat : Int) == 2) = false) (h3 : ((u.toNat : Int) == 3) = false) {l : List HProp} {w : World} (hE : Ent l w) :
    Calls Try.prog 24 #[.agg #[.int .u8 u.toNat, .string ⟨data.toArray⟩, sl]] w (Ret fun v w' => v = .int .i64 0 ∧ Ent l w') := by
  go_enter Try.func24, Try.ntmps24
  go_wp2_with (first
    | go_skip
    | ((with_reducible (show Go.wpList _ _ _ (Go.Oper.mk _ (.box _ _) _ _ _ _ :: _) _ _)); refine wpl_box hE rfl rfl rfl ?_; clear hE; intro b1 w hE; simp only [Act.eval, Act.put, List.setIfInBounds_toArray, List.set_cons_zero, List.set_cons_succ, getD_lit, List.getD_cons_succ, List.getD_cons_zero, Value.cells] at hE)
    | ((with_reducible (show Go.wpList _ _ _ (Go.Oper.mk _ (.alloc _) _ _ _ _ :: _) _ _)); refine wpl_alloc hE rfl rfl (by simp [go_sem]; rfl) ?_; clear hE; intro bn w hE; simp only [Act.eval, Act.put, List.setIfInBounds_toArray, List.set_cons_zero, List.set_cons_succ, getD_lit, List.getD_cons_succ, List.getD_cons_zero, Value.cells] at hE)
    | ((with_reducible (show Go.wpList _ _ _ (Go.Oper.mk _ (.load _ _) _ _ _ _ :: _) _ _)); first | (refine wpl_load1 hE 0 rfl rfl rfl rfl (by simp [go_sem]) rfl ?_) | (refine wpl_load1 hE 1 rfl rfl rfl rfl (by simp [go_sem]) rfl ?_) | (refine wpl_load1 hE 2 rfl rfl rfl rfl (by simp [go_sem]) rfl ?_) | (refine wpl_load1 hE 3 rfl rfl rfl rfl (by simp [go_sem]) rfl ?_) | (refine wpl_load1 hE 4 rfl rfl rfl rfl (by simp [go_sem]) rfl ?_) | (refine wpl_load1 hE 5 rfl rfl rfl rfl (by simp [go_sem]) rfl ?_))
    | ((with_reducible (show Go.wpList _ _ _ (Go.Oper.mk _ (.store _ _ _) _ _ _ _ :: _) _ _)); first | (refine wpl_store hE 0 rfl rfl rfl rfl rfl (by simp [go_sem]; rfl) (by rfl) (by simp [Value.cells, Value.oneCell', Act.eval]) (by simp) ?_; clear hE; intro w hE; simp only [Act.eval, getD_lit, List.getD_cons_succ, List.getD_cons_zero, Value.cells, List.set_cons_zero, List.set_cons_succ, List.take_succ_cons, List.take_zero, List.nil_append, List.cons_append, List.drop_succ_cons, List.drop_zero, List.length_cons, List.length_nil, Nat.reduceAdd, Nat.zero_add] at hE) | (refine wpl_store hE 1 rfl rfl rfl rfl rfl (by simp [go_sem]; rfl) (by rfl) (by simp [Value.cells, Value.oneCell', Act.eval]) (by simp) ?_; clear hE; intro w hE; simp only [Act.eval, getD_lit, List.getD_cons_succ, List.getD_cons_zero, Value.cells, List.set_cons_zero, List.set_cons_succ, List.take_succ_cons, List.take_zero, List.nil_append, List.cons_append, List.drop_succ_cons, List.drop_zero, List.length_cons, List.length_nil, Nat.reduceAdd, Nat.zero_add] at hE) | (refine wpl_store hE 2 rfl rfl rfl rfl rfl (by simp [go_sem]; rfl) (by rfl) (by simp [Value.cells, Value.oneCell', Act.eval]) (by simp) ?_; clear hE; intro w hE; simp only [Act.eval, getD_lit, List.getD_cons_succ, List.getD_cons_zero, Value.cells, List.set_cons_zero, List.set_cons_succ, List.take_succ_cons, List.take_zero, List.nil_append, List.cons_append, List.drop_succ_cons, List.drop_zero, List.length_cons, List.length_nil, Nat.reduceAdd, Nat.zero_add] at hE) | (refine wpl_store hE 3 rfl rfl rfl rfl rfl (by simp [go_sem]; rfl) (by rfl) (by simp [Value.cells, Value.oneCell', Act.eval]) (by simp) ?_; clear hE; intro w hE; simp only [Act.eval, getD_lit, List.getD_cons_succ, List.getD_cons_zero, Value.cells, List.set_cons_zero, List.set_cons_succ, List.take_succ_cons, List.take_zero, List.nil_append, List.cons_append, List.drop_succ_cons, List.drop_zero, List.length_cons, List.length_nil, Nat.reduceAdd, Nat.zero_add] at hE) | (refine wpl_store hE 4 rfl rfl rfl rfl rfl (by simp [go_sem]; rfl) (by rfl) (by simp [Value.cells, Value.oneCell', Act.eval]) (by simp) ?_; clear hE; intro w hE; simp only [Act.eval, getD_lit, List.getD_cons_succ, List.getD_cons_zero, Value.cells, List.set_cons_zero, List.set_cons_succ, List.take_succ_cons, List.take_zero, List.nil_append, List.cons_append, List.drop_succ_cons, List.drop_zero, List.length_cons, List.length_nil, Nat.reduceAdd, Nat.zero_add] at hE) | (refine wpl_store hE 5 rfl rfl rfl rfl rfl (by simp [go_sem]; rfl) (by rfl) (by simp [Value.cells, Value.oneCell', Act.eval]) (by simp) ?_; clear hE; intro w hE; simp only [Act.eval, getD_lit, List.getD_cons_succ, List.getD_cons_zero, Value.cells, List.set_cons_zero, List.set_cons_succ, List.take_succ_cons, List.take_zero, List.nil_append, List.cons_append, List.drop_succ_cons, List.drop_zero, List.length_cons, List.length_nil, Nat.reduceAdd, Nat.zero_add] at hE)))
  go_ret
  exact ⟨_, rfl, rfl, hE.tail.tail⟩

set_option maxRecDepth 100000 in
theorem Height_is {u : UInt8} {data : List UInt8} {ks : List Kid} {ao : Option Addr} {c : Nat} (hg : ∀ k ∈ ks, k.good) (hb : ks.length ≤ 1000000) (hu : (((u.toNat : Int) == 2) = true) ∨ (((u.toNat : Int) == 2) = false ∧ ((u.toNat : Int) == 3) = true)) {l : List HProp} {w : World} (hE : Ent l w) (hk : Knows l (reads (.slice ao ks.length c) ks.length (kidCells ks))) :
    Calls Try.prog 24 #[.agg #[.int .u8 u.toNat, .string ⟨data.toArray⟩, .slice ao ks.length c]] w (Ret fun v w' => v = .int .i64 (hgt1 ks) ∧ Ent l w') := by
  have Hg := SL.hid hg
  clear hg
  rcases hu with h2 | ⟨h2, h3⟩
  all_goals
    go_enter Try.func24, Try.ntmps24
    go_wp2_with (first
      | go_skip
      | ((with_reducible (show Go.wpList _ _ _ (Go.Oper.mk _ (.box _ _) _ _ _ _ :: _) _ _)); refine wpl_box hE rfl rfl rfl ?_; clear hE; intro b1 w hE; simp only [Act.eval, Act.put, List.setIfInBounds_toArray, List.set_cons_zero, List.set_cons_succ, getD_lit, List.getD_cons_succ, List.getD_cons_zero, Value.cells] at hE)
      | ((with_reducible (show Go.wpList _ _ _ (Go.Oper.mk _ (.alloc _) _ _ _ _ :: _) _ _)); refine wpl_alloc hE rfl rfl (by simp [go_sem]; rfl) ?_; clear hE; intro bn w hE; simp only [Act.eval, Act.put, List.setIfInBounds_toArray, List.set_cons_zero, List.set_cons_succ, getD_lit, List.getD_cons_succ, List.getD_cons_zero, Value.cells] at hE)
      | ((with_reducible (show Go.wpList _ _ _ (Go.Oper.mk _ (.load _ _) _ _ _ _ :: _) _ _)); first | (refine wpl_load1 hE 0 rfl rfl rfl rfl (by simp [go_sem]) rfl ?_) | (refine wpl_load1 hE 1 rfl rfl rfl rfl (by simp [go_sem]) rfl ?_) | (refine wpl_load1 hE 2 rfl rfl rfl rfl (by simp [go_sem]) rfl ?_) | (refine wpl_load1 hE 3 rfl rfl rfl rfl (by simp [go_sem]) rfl ?_) | (refine wpl_load1 hE 4 rfl rfl rfl rfl (by simp [go_sem]) rfl ?_) | (refine wpl_load1 hE 5 rfl rfl rfl rfl (by simp [go_sem]) rfl ?_))
      | ((with_reducible (show Go.wpList _ _ _ (Go.Oper.mk _ (.store _ _ _) _ _ _ _ :: _) _ _)); first | (refine wpl_store hE 0 rfl rfl rfl rfl rfl (by simp [go_sem]; rfl) (by rfl) (by simp [Value.cells, Value.oneCell', Act.eval]) (by simp) ?_; clear hE; intro w hE; simp only [Act.eval, getD_lit, List.getD_cons_succ, List.getD_cons_zero, Value.cells, List.set_cons_zero, List.set_cons_succ, List.take_succ_cons, List.take_zero, List.nil_append, List.cons_append, List.drop_succ_cons, List.drop_zero, List.length_cons, List.length_nil, Nat.reduceAdd, Nat.zero_add] at hE) | (refine wpl_store hE 1 rfl rfl rfl rfl rfl (by simp [go_sem]; rfl) (by rfl) (by simp [Value.cells, Value.oneCell', Act.eval]) (by simp) ?_; clear hE; intro w hE; simp only [Act.eval, getD_lit, List.getD_cons_succ, List.getD_cons_zero, Value.cells, List.set_cons_zero, List.set_cons_succ, List.take_succ_cons, List.take_zero, List.nil_append, List.cons_append, List.drop_succ_cons, List.drop_zero, List.length_cons, List.length_nil, Nat.reduceAdd, Nat.zero_add] at hE) | (refine wpl_store hE 2 rfl rfl rfl rfl rfl (by simp [go_sem]; rfl) (by rfl) (by simp [Value.cells, Value.oneCell', Act.eval]) (by simp) ?_; clear hE; intro w hE; simp only [Act.eval, getD_lit, List.getD_cons_succ, List.getD_cons_zero, Value.cells, List.set_cons_zero, List.set_cons_succ, List.take_succ_cons, List.take_zero, List.nil_append, List.cons_append, List.drop_succ_cons, List.drop_zero, List.length_cons, List.length_nil, Nat.reduceAdd, Nat.zero_add] at hE) | (refine wpl_store hE 3 rfl rfl rfl rfl rfl (by simp [go_sem]; rfl) (by rfl) (by simp [Value.cells, Value.oneCell', Act.eval]) (by simp) ?_; clear hE; intro w hE; simp only [Act.eval, getD_lit, List.getD_cons_succ, List.getD_cons_zero, Value.cells, List.set_cons_zero, List.set_cons_succ, List.take_succ_cons, List.take_zero, List.nil_append, List.cons_append, List.drop_succ_cons, List.drop_zero, List.length_cons, List.length_nil, Nat.reduceAdd, Nat.zero_add] at hE) | (refine wpl_store hE 4 rfl rfl rfl rfl rfl (by simp [go_sem]; rfl) (by rfl) (by simp [Value.cells, Value.oneCell', Act.eval]) (by simp) ?_; clear hE; intro w hE; simp only [Act.eval, getD_lit, List.getD_cons_succ, List.getD_cons_zero, Value.cells, List.set_cons_zero, List.set_cons_succ, List.take_succ_cons, List.take_zero, List.nil_append, List.cons_append, List.drop_succ_cons, List.drop_zero, List.length_cons, List.length_nil, Nat.reduceAdd, Nat.zero_add] at hE) | (refine wpl_store hE 5 rfl rfl rfl rfl rfl (by simp [go_sem]; rfl) (by rfl) (by simp [Value.cells, Value.oneCell', Act.eval]) (by simp) ?_; clear hE; intro w hE; simp only [Act.eval, getD_lit, List.getD_cons_succ, List.getD_cons_zero, Value.cells, List.set_cons_zero, List.set_cons_succ, List.take_succ_cons, List.take_zero, List.nil_append, List.cons_append, List.drop_succ_cons, List.drop_zero, List.length_cons, List.length_nil, Nat.reduceAdd, Nat.zero_add] at hE))
      | (go_at_call 69; have H := Height1_any (h := 1) rfl hE; refine H.mono ?_; clear H hE; rintro e w2 ⟨rfl, hE⟩))
    go_loopw [21] (fun i wr => HgtRel ks bn (pt b1 (.cells #[.int .u8 u.toNat, .string ⟨data.toArray⟩, .slice ao ks.length c] 39) :: l) i wr) (fun i _ => ks.length - (intOf i).toNat)
    case atStart => exact ⟨0, Nat.zero_le _, rfl, hE⟩
    case round =>
      obtain ⟨k, hkl, rfl, hE⟩ := hrel
      by_cases hlt : k < ks.length
      · obtain ⟨b, off, rfl, _⟩ := reads_form (hk _ hE.tail.tail) (by omega) (by rw [kidCells_len Hg.out]; omega)
        have hcx := kid_cells Hg.out (hk _ hE.tail.tail) hlt
        have Hs := SL.hid (show hgt1 (ks.take (k + 1)) = max (hgt1 (ks.take k)) (ks[k].height.toNat + 1) by rw [List.take_succ_eq_append_getElem hlt, hgt1_snoc])
        have Hx := SL.hid (Hg.out _ (List.getElem_mem hlt))
        generalize ks[k] = x at *
        have Hcx := SL.hid hcx
        clear hcx
        have H36 := SL.hid (kcells_len Hx.out)
        have Hone := SL.hid (kcells_one x)
        have K34 := SL.hid (kc34 Hx.out)
        have hw : IntKind.i64.wrap ((x.height.toNat : Int) + 1) = ((x.height.toNat + 1 : Nat) : Int) := by have := x.height.toNat_lt; rw [wrap_id (by omega)]; omega
        have hw0 : IntKind.i64.wrap (x.height.toNat : Int) = x.height.toNat := by have := x.height.toNat_lt; rw [wrap_id (by omega)]
        generalize hm : x.height.toNat + 1 = m at *
        generalize hgt1 (ks.take k) = n at *
        generalize x.height.toNat = y at *
        clear hm
        go_wp2_with (first
          | go_skip
          | (refine wpl_loadC rfl rfl rfl Try.isAgg59 Try.sizeOf59 (kcells x) H36.out Hcx.out ?_)
          | ((with_reducible (show Go.wpList _ _ _ (Go.Oper.mk _ (.alloc _) _ _ _ _ :: _) _ _)); refine wpl_allocN hE rfl rfl (n := 36) (by kernel_rfl) ?_; clear hE; intro b6 cs w1 hq hE6)
          | ((with_reducible (show Go.wpList _ _ _ (Go.Oper.mk _ (.store _ _ _) _ _ _ _ :: _) _ _)); refine wpl_storeN hE6 0 rfl rfl rfl rfl rfl Try.sizeOf59 H36.out Hone.out hq ?_; clear hE6; intro w1 hE7; simp only [List.set_cons_zero] at hE7)
          | ((with_reducible (show Go.wpList _ _ _ (Go.Oper.mk _ (.load _ _) _ _ _ _ :: _) _ _)); refine wpl_load1 hE7 0 rfl rfl rfl rfl (by simp [go_sem]) K34.out ?_)
          | (go_at_call 69; have H := Height1_any (h := m) rfl (hE7.front 1 rfl); refine H.mono ?_; clear H hE7; rintro e w2 ⟨rfl, hE8⟩))
        go_roundw
        case rel => exact ⟨k + 1, hlt, by simp, by rw [Hs.out]; exact hE8.erase 1⟩
        case measure => simp [intOf]; omega
      · have E2 : hgt1 (ks.take k) = hgt1 ks := by rw [show k = ks.length by omega, List.take_length]
        generalize hgt1 (ks.take k) = n at *
        subst E2
        go_wp2_with (first | go_skip | ((with_reducible (show Go.wpList _ _ _ (Go.Oper.mk _ (.load _ _) _ _ _ _ :: _) _ _)); first | (refine wpl_load1 hE 0 rfl rfl rfl rfl (by simp [go_sem]) rfl ?_) | (refine wpl_load1 hE 1 rfl rfl rfl rfl (by simp [go_sem]) rfl ?_) | (refine wpl_load1 hE 2 rfl rfl rfl rfl (by simp [go_sem]) rfl ?_) | (refine wpl_load1 hE 3 rfl rfl rfl rfl (by simp [go_sem]) rfl ?_) | (refine wpl_load1 hE 4 rfl rfl rfl rfl (by simp [go_sem]) rfl ?_) | (refine wpl_load1 hE 5 rfl rfl rfl rfl (by simp [go_sem]) rfl ?_)))
        go_ret
        exact ⟨_, rfl, rfl, hE.tail.tail⟩

theorem Height_any {u : UInt8} {data : List UInt8} {ks : List Kid} {ao : Option Addr} {c : Nat} (hg : ∀ k ∈ ks, k.good) (hb : ks.length ≤ 1000000) {l : List HProp} {w : World} (hE : Ent l w) (hk : Knows l (reads (.slice ao ks.length c) ks.length (kidCells ks))) :
    Calls Try.prog 24 #[.agg #[.int .u8 u.toNat, .string ⟨data.toArray⟩, .slice ao ks.length c]] w (Ret fun v w' => v = .int .i64 (hgtB u ks) ∧ Ent l w') := by
  cases h2 : ((u.toNat : Int) == 2) with
  | true => rw [hgtB_is (.inl h2)]; exact Height_is hg hb (.inl h2) hE hk
  | false =>
    cases h3 : ((u.toNat : Int) == 3) with
    | true => rw [hgtB_is (.inr ⟨h2, h3⟩)]; exact Height_is hg hb (.inr ⟨h2, h3⟩) hE hk
    | false => rw [hgtB_not h2 h3]; exact Height_not h2 h3 hE

def RHgtRel (ks : List Kid) (l : List HProp) (n i : Value) (wr : World) : Prop := ∃ k : Nat, k ≤ ks.length ∧ i = .int .i64 k ∧ n = .int .i64 (hgt1 (ks.take k) : Nat) ∧ Ent l wr

set_option maxRecDepth 100000 in
theorem rHeight_not {u : UInt8} {data : List UInt8} {sl : Value} (h2 : ((u.toNat : Int) == 2) = false) (h3 : ((u.toNat : Int) == 3) = false) {l : List HProp} {w : World} (hE : Ent l w) :
    Calls Try.prog 98 #[.agg #[.int .u8 u.toNat, .string ⟨data.toArray⟩, sl]] w (Ret fun v w' => v = .int .i64 0 ∧ Ent l w') := by
  have h2' : ((u.toNat : Int) != 2) = true := by simp only [bne, h2]; rfl
  have h3' : ((u.toNat : Int) != 3) = true := by simp only [bne, h3]; rfl
  go_enter Try.func98, Try.ntmps98
  go_wp2_with (first
    | go_skip
    | ((with_reducible (show Go.wpList _ _ _ (Go.Oper.mk _ (.box _ _) _ _ _ _ :: _) _ _)); refine wpl_box hE rfl rfl rfl ?_; clear hE; intro b1 w hE; simp only [Act.eval, Act.put, List.setIfInBounds_toArray, List.set_cons_zero, List.set_cons_succ, getD_lit, List.getD_cons_succ, List.getD_cons_zero, Value.cells] at hE)
    | ((with_reducible (show Go.wpList _ _ _ (Go.Oper.mk _ (.load _ _) _ _ _ _ :: _) _ _)); first | (refine wpl_load1 hE 0 rfl rfl rfl rfl (by simp [go_sem]) rfl ?_) | (refine wpl_load1 hE 1 rfl rfl rfl rfl (by simp [go_sem]) rfl ?_) | (refine wpl_load1 hE 2 rfl rfl rfl rfl (by simp [go_sem]) rfl ?_) | (refine wpl_load1 hE 3 rfl rfl rfl rfl (by simp [go_sem]) rfl ?_) | (refine wpl_load1 hE 4 rfl rfl rfl rfl (by simp [go_sem]) rfl ?_) | (refine wpl_load1 hE 5 rfl rfl rfl rfl (by simp [go_sem]) rfl ?_)))
  go_ret
  exact ⟨_, rfl, rfl, hE.tail⟩

set_option maxRecDepth 100000 in
theorem rHeight_is {u : UInt8} {data : List UInt8} {ks : List Kid} {ao : Option Addr} {c : Nat} (hg : ∀ k ∈ ks, k.good) (hb : ks.length ≤ 1000000) (hu : (((u.toNat : Int) == 2) = true) ∨ (((u.toNat : Int) == 2) = false ∧ ((u.toNat : Int) == 3) = true)) {l : List HProp} {w : World} (hE : Ent l w) (hk : Knows l (reads (.slice ao ks.length c) ks.length (kidCells ks))) :
    Calls Try.prog 98 #[.agg #[.int .u8 u.toNat, .string ⟨data.toArray⟩, .slice ao ks.length c]] w (Ret fun v w' => v = .int .i64 (hgt1 ks) ∧ Ent l w') := by
  have Hg := SL.hid hg
  clear hg
  have hu' : (((u.toNat : Int) != 2) = false) ∨ (((u.toNat : Int) != 2) = true ∧ ((u.toNat : Int) != 3) = false) := by
    rcases hu with h | ⟨h, h'⟩
    · left; simp only [bne, h]; rfl
    · right; simp only [bne, h, h']; exact ⟨rfl, rfl⟩
  clear hu
  rcases hu' with h2 | ⟨h2, h3⟩
  all_goals
    go_enter Try.func98, Try.ntmps98
    go_wp2_with (first
      | go_skip
      | ((with_reducible (show Go.wpList _ _ _ (Go.Oper.mk _ (.box _ _) _ _ _ _ :: _) _ _)); refine wpl_box hE rfl rfl rfl ?_; clear hE; intro b1 w hE; simp only [Act.eval, Act.put, List.setIfInBounds_toArray, List.set_cons_zero, List.set_cons_succ, getD_lit, List.getD_cons_succ, List.getD_cons_zero, Value.cells] at hE)
      | ((with_reducible (show Go.wpList _ _ _ (Go.Oper.mk _ (.load _ _) _ _ _ _ :: _) _ _)); first | (refine wpl_load1 hE 0 rfl rfl rfl rfl (by simp [go_sem]) rfl ?_) | (refine wpl_load1 hE 1 rfl rfl rfl rfl (by simp [go_sem]) rfl ?_) | (refine wpl_load1 hE 2 rfl rfl rfl rfl (by simp [go_sem]) rfl ?_) | (refine wpl_load1 hE 3 rfl rfl rfl rfl (by simp [go_sem]) rfl ?_) | (refine wpl_load1 hE 4 rfl rfl rfl rfl (by simp [go_sem]) rfl ?_) | (refine wpl_load1 hE 5 rfl rfl rfl rfl (by simp [go_sem]) rfl ?_)))
    go_loopw [3, 4] (fun n i wr => RHgtRel ks (pt b1 (.cells #[.int .u8 u.toNat, .string ⟨data.toArray⟩, .slice ao ks.length c] 45) :: l) n i wr) (fun _ i _ => ks.length - (intOf i).toNat)
    case atStart => exact ⟨0, Nat.zero_le _, rfl, rfl, hE⟩
    case round =>
      obtain ⟨k, hkl, rfl, rfl, hE⟩ := hrel
      by_cases hlt : k < ks.length
      · obtain ⟨b, off, rfl, _⟩ := reads_form (hk _ hE.tail) (by omega) (by rw [kidCells_len Hg.out]; omega)
        have hcx := kid_cells Hg.out (hk _ hE.tail) hlt
        have Hs := SL.hid (show hgt1 (ks.take (k + 1)) = max (hgt1 (ks.take k)) (ks[k].height.toNat + 1) by rw [List.take_succ_eq_append_getElem hlt, hgt1_snoc])
        have Hx := SL.hid (Hg.out _ (List.getElem_mem hlt))
        generalize ks[k] = x at *
        have k34 := kc34 Hx.out
        rw [List.getElem?_toArray] at k34
        have c34 := hcx _ _ k34
        rw [Addr.add_lit] at c34
        clear hcx k34
        have hw : IntKind.i64.wrap ((x.height.toNat : Int) + 1) = ((x.height.toNat + 1 : Nat) : Int) := by have := x.height.toNat_lt; rw [wrap_id (by omega)]; omega
        have hw0 : IntKind.i64.wrap (x.height.toNat : Int) = x.height.toNat := by have := x.height.toNat_lt; rw [wrap_id (by omega)]
        generalize hm : x.height.toNat + 1 = m at *
        generalize hgt1 (ks.take k) = n at *
        generalize x.height.toNat = y at *
        by_cases hge : n ≤ y
        · have Hm := SL.hid (show max n m = m by omega)
          clear hm
          go_wp2_with (first | go_skip | ((with_reducible (show Go.wpList _ _ _ (Go.Oper.mk _ (.load _ _) _ _ _ _ :: _) _ _)); first | (refine wpl_load1 hE 0 rfl rfl rfl rfl (by simp [go_sem]) rfl ?_) | (refine wpl_load1 hE 1 rfl rfl rfl rfl (by simp [go_sem]) rfl ?_) | (refine wpl_load1 hE 2 rfl rfl rfl rfl (by simp [go_sem]) rfl ?_) | (refine wpl_load1 hE 3 rfl rfl rfl rfl (by simp [go_sem]) rfl ?_) | (refine wpl_load1 hE 4 rfl rfl rfl rfl (by simp [go_sem]) rfl ?_) | (refine wpl_load1 hE 5 rfl rfl rfl rfl (by simp [go_sem]) rfl ?_)))
          go_roundw
          case rel => exact ⟨k + 1, hlt, by simp, by rw [Hs.out, Hm.out], hE⟩
          case measure => simp [intOf]; omega
        · have Hm := SL.hid (show max n m = n by omega)
          clear hm
          go_wp2_with (first | go_skip | ((with_reducible (show Go.wpList _ _ _ (Go.Oper.mk _ (.load _ _) _ _ _ _ :: _) _ _)); first | (refine wpl_load1 hE 0 rfl rfl rfl rfl (by simp [go_sem]) rfl ?_) | (refine wpl_load1 hE 1 rfl rfl rfl rfl (by simp [go_sem]) rfl ?_) | (refine wpl_load1 hE 2 rfl rfl rfl rfl (by simp [go_sem]) rfl ?_) | (refine wpl_load1 hE 3 rfl rfl rfl rfl (by simp [go_sem]) rfl ?_) | (refine wpl_load1 hE 4 rfl rfl rfl rfl (by simp [go_sem]) rfl ?_) | (refine wpl_load1 hE 5 rfl rfl rfl rfl (by simp [go_sem]) rfl ?_)))
          go_roundw
          case rel => exact ⟨k + 1, hlt, by simp, by rw [Hs.out, Hm.out], hE⟩
          case measure => simp [intOf]; omega
      · have E2 : hgt1 (ks.take k) = hgt1 ks := by rw [show k = ks.length by omega, List.take_length]
        generalize hgt1 (ks.take k) = n at *
        subst E2
        go_wp2_with (first | go_skip | ((with_reducible (show Go.wpList _ _ _ (Go.Oper.mk _ (.load _ _) _ _ _ _ :: _) _ _)); first | (refine wpl_load1 hE 0 rfl rfl rfl rfl (by simp [go_sem]) rfl ?_) | (refine wpl_load1 hE 1 rfl rfl rfl rfl (by simp [go_sem]) rfl ?_) | (refine wpl_load1 hE 2 rfl rfl rfl rfl (by simp [go_sem]) rfl ?_) | (refine wpl_load1 hE 3 rfl rfl rfl rfl (by simp [go_sem]) rfl ?_) | (refine wpl_load1 hE 4 rfl rfl rfl rfl (by simp [go_sem]) rfl ?_) | (refine wpl_load1 hE 5 rfl rfl rfl rfl (by simp [go_sem]) rfl ?_)))
        go_ret
        exact ⟨_, rfl, rfl, hE.tail⟩

theorem rHeight_any {u : UInt8} {data : List UInt8} {ks : List Kid} {ao : Option Addr} {c : Nat} (hg : ∀ k ∈ ks, k.good) (hb : ks.length ≤ 1000000) {l : List HProp} {w : World} (hE : Ent l w) (hk : Knows l (reads (.slice ao ks.length c) ks.length (kidCells ks))) :
    Calls Try.prog 98 #[.agg #[.int .u8 u.toNat, .string ⟨data.toArray⟩, .slice ao ks.length c]] w (Ret fun v w' => v = .int .i64 (hgtB u ks) ∧ Ent l w') := by
  cases h2 : ((u.toNat : Int) == 2) with
  | true => rw [hgtB_is (.inl h2)]; exact rHeight_is hg hb (.inl h2) hE hk
  | false =>
    cases h3 : ((u.toNat : Int) == 3) with
    | true => rw [hgtB_is (.inr ⟨h2, h3⟩)]; exact rHeight_is hg hb (.inr ⟨h2, h3⟩) hE hk
    | false => rw [hgtB_not h2 h3]; exact rHeight_not h2 h3 hE
end Go.Proofs.Ytohdljcpaogokaa
