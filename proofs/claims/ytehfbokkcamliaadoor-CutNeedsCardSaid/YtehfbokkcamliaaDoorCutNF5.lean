/-
  A directory is cut, and a tree. Printed by gen_cu8.py.
-/
import Derived.Test.YtehfbokkcamliaaDoorCutNF4
import Derived.Lib.LaidTab
import Derived.Lib.SmallJoins
namespace Go.Proofs.YtehfbokkcamliaaDoor
open Go.RowKit Go.SL

theorem dirKid_set {n : List UInt8} {t : Tr} {k : Kid} (h : k.good) : (((kcells k).toArray.setIfInBounds 0 (.string ⟨n.toArray⟩)).setIfInBounds 1 (.bool t.dir)).setIfInBounds 35 (.int .u32 (t.data.length : Nat)) = (kcells (dirKid n t k)).toArray := by
  have h1 : (bvals k.hash).length = 32 := by rw [bvals_length]; exact h.1
  simp only [kcells, dirKid, List.setIfInBounds_toArray, List.set_cons_zero, List.set_cons_succ]
  congr 3
  rw [List.set_append_right _ _ (by rw [h1]; omega), h1]
  rfl
theorem cells_tail {a : Value} {xs : List Value} {j : Nat} {v : Value} (hv : xs[j]? = some v) : (a :: xs).toArray[1 + j]? = some v := by
  rw [Nat.add_comm, List.getElem?_toArray, List.getElem?_cons_succ]
  exact hv
/-- what the program reads of a kid in a directory's row -/
theorem kidN_at {w : World} {ao : Option Addr} {c : Nat} {ks : List (List UInt8 × Tr)} {vs : List Value} (hl : vs.length = ks.length) (hr : reads (.slice ao ks.length c) ks.length (kCs ks vs) w) {k : Nat} (hk : k < ks.length) :
    ∃ b off, ao = some ⟨b, off, none⟩ ∧ ∀ j v, (kC ks[k] (vs[k]'(by omega)))[j]? = some v → w.cell? ⟨b, off + k * 4 + j, none⟩ = some v := by
  obtain ⟨b, off, rfl, hc⟩ := reads_form hr (by omega) (by rw [kCs_len hl]; omega)
  refine ⟨b, off, rfl, fun j v hv => ?_⟩
  rw [Nat.add_assoc]
  exact hc _ _ (kCs_at hl hk hv)
/-- a directory's chunk, as it grows -/
def chI (b : Nat) (ks : List Kid) : HProp := ex fun z : Option Addr × Nat => [pt b (.cells #[.int .u8 3, .string ⟨#[]⟩, .slice z.1 ks.length z.2] 49), rowK z.1 z.2 ks]
def kdN (g : Tr → List Chunk × Kid) (t : Tr) (k : Nat) : List Kid := (t.kids.take k).map fun x => dirKid x.1 x.2 (g x.2).2
def cdN (g : Tr → List Chunk × Kid) (t : Tr) (k : Nat) : List Chunk := (t.kids.take k).flatMap fun x => (g x.2).1
theorem kdN_step {g : Tr → List Chunk × Kid} {t : Tr} {k : Nat} (h : k < t.kids.length) : kdN g t (k + 1) = kdN g t k ++ [dirKid t.kids[k].1 t.kids[k].2 (g t.kids[k].2).2] := by
  rw [kdN, List.take_succ_eq_append_getElem h, List.map_append]; rfl
theorem cdN_step {g : Tr → List Chunk × Kid} {t : Tr} {k : Nat} (h : k < t.kids.length) : cdN g t (k + 1) = cdN g t k ++ (g t.kids[k].2).1 := by
  rw [cdN, List.take_succ_eq_append_getElem h, List.flatMap_append]; simp [cdN]
theorem cdN_len {g : Tr → List Chunk × Kid} {t : Tr} {k : Nat} (h : k < t.kids.length) : (cdN g t k).length + (g t.kids[k].2).1.length ≤ (t.kids.flatMap fun x => (g x.2).1).length := by
  have e : t.kids.flatMap (fun x => (g x.2).1) = cdN g t (k + 1) ++ (t.kids.drop (k + 1)).flatMap fun x => (g x.2).1 := by
    rw [cdN, ← List.flatMap_append, List.take_append_drop]
  rw [e, cdN_step h, List.length_append, List.length_append]
  omega
/-- what is shown of a node -/
def NodeAt (g : Tr → List Chunk × Kid) (t : Tr) : Prop := ∀ (bx : Nat) (out : List (List UInt8)) (l : List HProp) (w : World) (v : Value), out.length + (g t).1.length ≤ 800000000000 → Knows l KTab → Knows l FTab → KidsAt l v t.kids → Ent (xOut bx out :: l) w →
  Calls Tryd.prog 26 #[.pointer (some ⟨bx, 0, none⟩), .agg #[.bool t.dir, .string ⟨t.data.toArray⟩, v]] w
    (Ret fun u w' => u = .agg (kcells (g t).2).toArray ∧ Ent (xOut bx (out ++ (g t).1.map putC) :: l) w')
def DirRel (g : Tr → List Chunk × Kid) (t : Tr) (bx b3 b4 b5 : Nat) (v : Value) (cs : Array Value) (out : List (List UInt8)) (l : List HProp) (i : Value) (wr : World) : Prop :=
  ∃ k : Nat, k ≤ t.kids.length ∧ i = .int .i64 k ∧ Ent (xOut bx (out ++ (cdN g t k).map putC) :: chI b5 (kdN g t k) :: pt b3 (.cells #[.bool true, .string ⟨t.data.toArray⟩, v] 32) :: pt b4 (.cells cs 55 (0, 0)) :: l) wr

set_option maxRecDepth 100000 in
set_option maxHeartbeats 8000000 in
theorem node_file {t : Tr} (hd : t.dir = false) (hl : t.data.length ≤ 8192) {g : Tr → List Chunk × Kid} (hg : g t = fileC t.data) : NodeAt g t := by
  intro bx out l w v hn ht hf hk hE
  obtain ⟨av, cv, rfl⟩ := hk.slice
  rw [hg, hd]
  obtain ⟨_, _, _, hgood⟩ := file_fit t.data (by omega)
  have HF := SL.hid (fun (L : List HProp) (w : World) (h : l <:+ L) (hE : Ent (xOut bx out :: L) w) => file_any (data := t.data) (by omega) (by omega) (ht.suf h) (hf.suf h) hE)
  have Hlen := SL.hid (kcells_len hgood)
  have Hone := SL.hid (kcells_one (fileC t.data).2)
  clear hgood hg hd hl hn
  generalize kcells (fileC t.data).2 = kx at *
  generalize (fileC t.data).1.map putC = fo at *
  generalize t.kids.length = nk at *
  go_enter Tryd.func26, Tryd.ntmps26
  go_wp2_with (first
    | go_skip
    | ((with_reducible (show Go.wpList _ _ _ (Go.Oper.mk _ (.box _ _) _ _ _ _ :: _) _ _)); refine wpl_box hE rfl rfl rfl ?_; clear hE; intro b3 w hE; simp only [Act.eval, Act.put, List.setIfInBounds_toArray, List.set_cons_zero, List.set_cons_succ, getD_lit, List.getD_cons_succ, List.getD_cons_zero, Value.cells] at hE)
    | ((with_reducible (show Go.wpList _ _ _ (Go.Oper.mk _ (.alloc 55) _ _ _ _ :: _) _ _)); refine wpl_allocN hE rfl rfl (n := 36) (by kernel_rfl) ?_; clear hE; intro b4 cs w1 hq hE)
    | ((with_reducible (show Go.wpList _ _ _ (Go.Oper.mk _ (.load _ _) _ _ _ _ :: _) _ _)); (first | (refine wpl_load1 hE 0 rfl rfl rfl rfl (by simp [go_sem]) rfl ?_) | (refine wpl_load1 hE 1 rfl rfl rfl rfl (by simp [go_sem]) rfl ?_) | (refine wpl_load1 hE 2 rfl rfl rfl rfl (by simp [go_sem]) rfl ?_) | (refine wpl_load1 hE 3 rfl rfl rfl rfl (by simp [go_sem]) rfl ?_) | (refine wpl_load1 hE 4 rfl rfl rfl rfl (by simp [go_sem]) rfl ?_) | (refine wpl_load1 hE 5 rfl rfl rfl rfl (by simp [go_sem]) rfl ?_) | (refine wpl_load1 hE 6 rfl rfl rfl rfl (by simp [go_sem]) rfl ?_) | (refine wpl_load1 hE 7 rfl rfl rfl rfl (by simp [go_sem]) rfl ?_)))
    | (go_at_call 53; have hE8 : Ent (xOut bx out :: pt b4 (.cells cs.toArray 55 (0, 0)) :: pt b3 (.cells #[.bool false, .string ⟨t.data.toArray⟩, .slice av nk cv] 32) :: l) _ := hE.front 2 rfl; refine (HF.out _ _ sfx hE8).mono ?_; clear hE8 hE; rintro e w5 ⟨v, rfl, rfl, hE⟩)
    | ((with_reducible (show Go.wpList _ _ _ (Go.Oper.mk _ (.store _ _ _) _ _ _ _ :: _) _ _)); refine wpl_storeW hE 1 rfl rfl rfl (xs := kx) rfl rfl Tryd.sizeOf55 Hlen.out Hone.out (by simpa using hq) ?_; clear hE hq; intro w9 hE; simp only [List.set_cons_zero, List.set_cons_succ] at hE))
  refine bodyPost_ret (results_cellA rfl hE 1 rfl rfl Tryd.isAgg55 Tryd.sizeOf55 Hlen.out) rfl ?_
  exact ⟨_, rfl, rfl, (hE.erase 1).erase 1⟩

set_option maxRecDepth 100000 in
set_option maxHeartbeats 8000000 in
theorem node_dir {g : Tr → List Chunk × Kid} {t : Tr} (hd : t.dir = true) (hok : DirOk g t) {g2 : Tr → List Chunk × Kid} (hg : g2 t = dirC g t) (ih : ∀ x ∈ t.kids, NodeAt g x.2) : NodeAt g2 t := by
  intro bx out l w v hn ht hf hk hE
  obtain ⟨ao, c, vs, rfl, hc, hvl, hr, hkids, _⟩ := hk.open
  rw [hg, hd]
  rw [hg, dirC, List.length_append, List.length_singleton] at hn
  obtain ⟨hm, hgd⟩ := hok.may
  have hsz : csize ⟨3, [], t.kids.map fun k => dirKid k.1 k.2 (g k.2).2⟩ < 4294967296 := by simp [csize]
  have hend : kdN g t t.kids.length = t.kids.map fun k => dirKid k.1 k.2 (g k.2).2 := by rw [kdN, List.take_length]
  have hendc : cdN g t t.kids.length = t.kids.flatMap fun k => (g k.2).1 := by rw [cdN, List.take_length]
  have HV := SL.hid (show Value.agg (kcells (dirC g t).2).toArray = .agg (kcells (kidOf ⟨3, [], kdN g t t.kids.length⟩)).toArray by rw [hend]; rfl)
  have HO := SL.hid (show out ++ (dirC g t).1.map putC = out ++ (cdN g t t.kids.length).map putC ++ [putC ⟨3, [], kdN g t t.kids.length⟩] by rw [hend, hendc, dirC]; simp)
  rw [← hend] at hm hgd hsz
  have hcn := fun k (h : k < t.kids.length) => cdN_len (g := g) h
  have hcl : (cdN g t t.kids.length).length ≤ 800000000000 := by rw [hendc]; omega
  have hol : (out ++ (cdN g t t.kids.length).map putC).length ≤ 1000000000000 := by rw [List.length_append, List.length_map, hendc]; omega
  have hkk := kidOf_good hsz
  have Hlen := SL.hid (kcells_len hkk)
  have Hone := SL.hid (kcells_one (kidOf ⟨3, [], kdN g t t.kids.length⟩))
  have HP := SL.hid (fun (L : List HProp) (w : World) (ak : Option Addr) (ck : Nat) (h : l <:+ L) (hr : Knows L (reads (.slice ak (kdN g t t.kids.length).length ck) (kdN g t t.kids.length).length (kidCells (kdN g t t.kids.length)))) (hE : Ent (xOut bx (out ++ (cdN g t t.kids.length).map putC) :: L) w) =>
    put_any (u := 3) (data := []) hgd hm hsz hol (ht.suf h) (hf.suf h) hr hE)
  have Hcn := SL.hid hcn
  have Hn := SL.hid hn
  have Hok := SL.hid hok
  have Hih := SL.hid ih
  have Hkids := SL.hid hkids
  have Hht := SL.hid ht
  have Hhf := SL.hid hf
  have Hr := SL.hid hr
  have h6 := hok.six
  clear hcn hn hok ih hkids ht hf hr hk hm hgd hsz hol hkk hendc hend hcl hg
  go_enter Tryd.func26, Tryd.ntmps26
  go_wp2_with (first
    | go_skip
    | ((with_reducible (show Go.wpList _ _ _ (Go.Oper.mk _ (.box _ _) _ _ _ _ :: _) _ _)); refine wpl_box hE rfl rfl rfl ?_; clear hE; intro b3 w hE; simp only [Act.eval, Act.put, List.setIfInBounds_toArray, List.set_cons_zero, List.set_cons_succ, getD_lit, List.getD_cons_succ, List.getD_cons_zero, Value.cells] at hE)
    | ((with_reducible (show Go.wpList _ _ _ (Go.Oper.mk _ (.alloc 55) _ _ _ _ :: _) _ _)); refine wpl_allocN hE rfl rfl (n := 36) (by kernel_rfl) ?_; clear hE; intro b4 cs w1 hq hE)
    | ((with_reducible (show Go.wpList _ _ _ (Go.Oper.mk _ (.alloc 49) _ _ _ _ :: _) _ _)); refine wpl_alloc hE rfl rfl (by simp [go_sem]; rfl) ?_; clear hE; intro b5 w hE; simp only [Act.eval, Act.put, List.setIfInBounds_toArray, List.set_cons_zero, List.set_cons_succ, getD_lit, List.getD_cons_succ, List.getD_cons_zero, Value.cells] at hE)
    | ((with_reducible (show Go.wpList _ _ _ (Go.Oper.mk _ (.load _ _) _ _ _ _ :: _) _ _)); (first | (refine wpl_load1 hE 0 rfl rfl rfl rfl (by simp [go_sem]) rfl ?_) | (refine wpl_load1 hE 1 rfl rfl rfl rfl (by simp [go_sem]) rfl ?_) | (refine wpl_load1 hE 2 rfl rfl rfl rfl (by simp [go_sem]) rfl ?_) | (refine wpl_load1 hE 3 rfl rfl rfl rfl (by simp [go_sem]) rfl ?_) | (refine wpl_load1 hE 4 rfl rfl rfl rfl (by simp [go_sem]) rfl ?_) | (refine wpl_load1 hE 5 rfl rfl rfl rfl (by simp [go_sem]) rfl ?_) | (refine wpl_load1 hE 6 rfl rfl rfl rfl (by simp [go_sem]) rfl ?_) | (refine wpl_load1 hE 7 rfl rfl rfl rfl (by simp [go_sem]) rfl ?_)))
    | ((with_reducible (show Go.wpList _ _ _ (Go.Oper.mk _ (.store 49 _ _) _ _ _ _ :: _) _ _)); (first | (refine wpl_storeW hE 0 rfl rfl rfl (xs := [.int .u8 3, .string ⟨#[]⟩, .slice none 0 0]) rfl rfl Tryd.sizeOf49 rfl (by simp [Value.oneCell']) rfl ?_) | (refine wpl_storeW hE 1 rfl rfl rfl (xs := [.int .u8 3, .string ⟨#[]⟩, .slice none 0 0]) rfl rfl Tryd.sizeOf49 rfl (by simp [Value.oneCell']) rfl ?_) | (refine wpl_storeW hE 2 rfl rfl rfl (xs := [.int .u8 3, .string ⟨#[]⟩, .slice none 0 0]) rfl rfl Tryd.sizeOf49 rfl (by simp [Value.oneCell']) rfl ?_) | (refine wpl_storeW hE 3 rfl rfl rfl (xs := [.int .u8 3, .string ⟨#[]⟩, .slice none 0 0]) rfl rfl Tryd.sizeOf49 rfl (by simp [Value.oneCell']) rfl ?_) | (refine wpl_storeW hE 4 rfl rfl rfl (xs := [.int .u8 3, .string ⟨#[]⟩, .slice none 0 0]) rfl rfl Tryd.sizeOf49 rfl (by simp [Value.oneCell']) rfl ?_) | (refine wpl_storeW hE 5 rfl rfl rfl (xs := [.int .u8 3, .string ⟨#[]⟩, .slice none 0 0]) rfl rfl Tryd.sizeOf49 rfl (by simp [Value.oneCell']) rfl ?_) | (refine wpl_storeW hE 6 rfl rfl rfl (xs := [.int .u8 3, .string ⟨#[]⟩, .slice none 0 0]) rfl rfl Tryd.sizeOf49 rfl (by simp [Value.oneCell']) rfl ?_) | (refine wpl_storeW hE 7 rfl rfl rfl (xs := [.int .u8 3, .string ⟨#[]⟩, .slice none 0 0]) rfl rfl Tryd.sizeOf49 rfl (by simp [Value.oneCell']) rfl ?_)); clear hE; intro w hE; simp only [List.set_cons_zero, List.set_cons_succ] at hE))
  have Hq := SL.hid hq
  clear hq
  go_loopw [20] (fun i wr => DirRel g t bx b3 b4 b5 (.slice ao t.kids.length c) cs.toArray out l i wr) (fun i _ => t.kids.length - (intOf i).toNat)
  case atStart =>
    refine ⟨0, Nat.zero_le _, rfl, ?_⟩
    have e1 : out ++ (cdN g t 0).map putC = out := by simp [cdN]
    have h := Ent.pack (f := fun z : Option Addr × Nat => [pt b5 (.cells #[.int .u8 3, .string ⟨#[]⟩, .slice z.1 ([] : List Kid).length z.2] 49), rowK z.1 z.2 []]) (none, 0) ((hE.nil 55 36).front 1 rfl)
    rw [e1]
    exact (((h.front 1 rfl).front 2 rfl).front 2 rfl).front 3 rfl
  case round =>
    clear hE
    obtain ⟨k, hkn, rfl, hE⟩ := hrel
    by_cases hlt : k < t.kids.length
    · obtain ⟨⟨ac, cc⟩, hE'⟩ := (hE.front 1 rfl).unpack
      replace hE : Ent (xOut bx (out ++ (cdN g t k).map putC) :: pt b5 (.cells #[.int .u8 3, .string ⟨#[]⟩, .slice ac (kdN g t k).length cc] 49) :: rowK ac cc (kdN g t k) :: pt b3 (.cells #[.bool true, .string ⟨t.data.toArray⟩, .slice ao t.kids.length c] 32) :: pt b4 (.cells cs.toArray 55 (0, 0)) :: l) wr := hE'.front 2 rfl
      clear hE'
      obtain ⟨b, off, rfl, _⟩ := kidN_at hvl (Hr.out _ (hE.suf sfx)) hlt
      have hL := SL.hid (show ∀ W, Ent l W → ∀ j v, (kC t.kids[k] (vs[k]'(by omega)))[j]? = some v → W.cell? ⟨b, off + k * 4 + j, none⟩ = some v from fun W hW => by
        obtain ⟨b', off', e, h⟩ := kidN_at hvl (Hr.out W hW) hlt
        cases e
        exact h)
      have hK := Hkids.out k hlt (by omega)
      have hcn := Hcn.out k hlt
      have hn := Hn.out
      have hI := Hih.out _ (List.getElem_mem hlt)
      obtain ⟨hgk, _⟩ := Hok.out.kid _ (List.getElem_mem hlt)
      have hdl := Hok.out.data _ (List.getElem_mem hlt)
      have hkd := kdN_step (g := g) hlt
      have hcd := cdN_step (g := g) hlt
      have Hkd := SL.hid hkd
      have Hcd := SL.hid hcd
      have hkdl : (kdN g t k).length ≤ 6 := by rw [kdN, List.length_map, List.length_take]; omega
      clear hkd hcd
      generalize t.kids[k] = x at *
      generalize hvk : vs[k]'(by omega) = kv at *
      clear hvk
      obtain ⟨nm, t'⟩ := x
      simp only at hK hcn hI hgk hdl Hkd Hcd hL
      have HI := SL.hid (fun (L : List HProp) (w : World) (h : l <:+ L) (hE : Ent (xOut bx (out ++ (cdN g t k).map putC) :: L) w) => hI bx _ L w kv (by rw [List.length_append, List.length_map]; omega) (Hht.out.suf h) (Hhf.out.suf h) (hK.suf h) hE)
      obtain ⟨av, cv, hkv⟩ := hK.slice
      subst hkv
      have hL2 := SL.hid (show ∀ W, Ent l W → ∀ (j : Nat) (v : Value), ([.string ⟨nm.toArray⟩, .bool t'.dir, .string ⟨t'.data.toArray⟩, .slice av t'.kids.length cv] : List Value)[j]? = some v → W.cell? ⟨b, off + k * 4 + j, none⟩ = some v from hL.out)
      clear hL
      have Ho2 := SL.hid (show out ++ (cdN g t (k + 1)).map putC = out ++ (cdN g t k).map putC ++ (g t').1.map putC by rw [Hcd.out]; simp)
      have HS := SL.hid (dirKid_set (n := nm) (t := t') hgk)
      have Hlk := SL.hid (kcells_len hgk)
      have Hok2 := SL.hid (kcells_one (g t').2)
      have hgd2 := dirKid_good (n := nm) (t := t') hgk hdl
      have Hld := SL.hid (kcells_len hgd2)
      have Hod := SL.hid (kcells_one (dirKid nm t' (g t').2))
      have Hkc := SL.hid (show kidCells (kdN g t k ++ [dirKid nm t' (g t').2]) = kidCells (kdN g t k) ++ kcells (dirKid nm t' (g t').2) by simp [kidCells])
      have z1 : IntKind.u32.wrap (t'.data.length : Int) = (t'.data.length : Int) := by rw [IntKind.wrap_u32]; omega
      have z2 : (t'.data.length : Int) % 4294967296 = (t'.data.length : Int) := by omega
      clear hcn hn hI hgk hdl hgd2 Hcd hK
      generalize ho2 : out ++ (cdN g t (k + 1)).map putC = o2 at *
      have Hoo2 := SL.hid ho2
      clear ho2
      generalize out ++ (cdN g t k).map putC = o1 at *
      generalize (g t').1.map putC = og at *
      generalize hkg : (g t').2 = kg at *
      clear hkg
      generalize t'.kids.length = nk at *
      generalize kdN g t k = ks at *
      generalize hks2 : kdN g t (k + 1) = ks2 at *
      have Hks2 := SL.hid hks2
      clear hks2
      generalize htd : t.data = td at *
      have Htd := SL.hid htd
      clear htd
      generalize t'.data = xb at *
      generalize t'.dir = xd at *
      generalize hkx : kcells kg = kx at *
      clear hkx
      generalize hdx : kcells (dirKid nm t' kg) = dx at *
      clear hdx
      have A1 := SL.hid True.intro
      go_wp2_with (first
        | go_skip
        | ((with_reducible (show Go.wpList _ _ _ (Go.Oper.mk _ (.load 66 _) _ _ _ _ :: _) _ _)); refine wpl_loadC rfl rfl rfl Tryd.isAgg66 Tryd.sizeOf66 [.string ⟨nm.toArray⟩, .bool xd, .string ⟨xb.toArray⟩, .slice av nk cv] rfl (fun j v hv => by rw [Addr.add_lit]; exact hL2.out _ (hE.suf sfx) j v hv) ?_)
        | ((with_reducible (show Go.wpList _ _ _ (Go.Oper.mk _ (.alloc 66) _ _ _ _ :: _) _ _)); refine wpl_allocN hE rfl rfl (n := 4) (by kernel_rfl) ?_; clear hE; intro b7 c7 w1 hq hE)
        | ((with_reducible (show Go.wpList _ _ _ (Go.Oper.mk _ (.store 66 _ _) _ _ _ _ :: _) _ _)); refine wpl_storeN hE 0 rfl rfl rfl rfl (xs := [.string ⟨nm.toArray⟩, .bool xd, .string ⟨xb.toArray⟩, .slice av nk cv]) rfl Tryd.sizeOf66 rfl (by simp [Value.oneCell']) hq ?_; clear hE hq; intro w2 hE; simp only [List.set_cons_zero] at hE)
        | ((with_reducible (show Go.wpList _ _ _ (Go.Oper.mk _ (.load 32 _) _ _ _ _ :: _) _ _)); refine wpl_loadC rfl rfl rfl Tryd.isAgg32 Tryd.sizeOf32 [.bool xd, .string ⟨xb.toArray⟩, .slice av nk cv] rfl (fun j v hv => by rw [Addr.add_lit]; exact (hE.cell 0 rfl (1 + j)).trans (cells_tail hv)) ?_)
        | (go_at_call 26; clear A1; have hE8 : Ent (xOut bx o1 :: pt b7 (.cells #[.string ⟨nm.toArray⟩, .bool xd, .string ⟨xb.toArray⟩, .slice av nk cv] 66) :: pt b5 (.cells #[.int .u8 3, .string ⟨#[]⟩, .slice ac ks.length cc] 49) :: rowK ac cc ks :: pt b3 (.cells #[.bool true, .string ⟨td.toArray⟩, .slice (some ⟨b, off, none⟩) t.kids.length c] 32) :: pt b4 (.cells cs.toArray 55 (0, 0)) :: l) _ := hE.front 1 rfl; refine (HI.out _ _ sfx hE8).mono ?_; clear hE8 hE; rintro e w5 ⟨v, rfl, rfl, hE⟩)
        | ((with_reducible (show Go.wpList _ _ _ (Go.Oper.mk _ (.alloc 55) _ _ _ _ :: _) _ _)); refine wpl_allocN hE rfl rfl (n := 36) (by kernel_rfl) ?_; clear hE; intro b8 c8 w1 hq hE)
        | ((with_reducible (show Go.wpList _ _ _ (Go.Oper.mk _ (.store 55 _ _) _ _ _ _ :: _) _ _)); refine wpl_storeN hE 0 rfl rfl rfl rfl (xs := kx) rfl Tryd.sizeOf55 Hlk.out Hok2.out hq ?_; clear hE hq; intro w2 hE; simp only [List.set_cons_zero] at hE))
      have hO := hE.drew
      refine wp_region_held_drew (S := (fun w' => (w'.cell? ⟨b7, 0, none⟩ = some (.string ⟨nm.toArray⟩)) ∧ (w'.cell? ⟨b7, 1, none⟩ = some (.bool xd)) ∧ (w'.cell? ⟨b7, 2, none⟩ = some (.string ⟨xb.toArray⟩)))) (by kernel_rfl) ⟨(cellV hO (by repeat (first | exact List.Mem.head _ | refine List.Mem.tail _ ?_)) rfl), (cellV hO (by repeat (first | exact List.Mem.head _ | refine List.Mem.tail _ ?_)) rfl), (cellV hO (by repeat (first | exact List.Mem.head _ | refine List.Mem.tail _ ?_)) rfl)⟩ (fun hS => ?_)
      refine tV 0 ⟨some 28, .fieldAddr 66 (.tmp 7) 0, _, _, _, none⟩ hS ?_
      refine tL 1 ⟨some 29, .load 9 (.tmp 28), _, _, _, none⟩ hS ?_
      refine tV 2 ⟨some 30, .fieldAddr 66 (.tmp 7) 1, _, _, _, none⟩ hS ?_
      refine tV 3 ⟨some 31, .fieldAddr 32 (.tmp 30) 0, _, _, _, none⟩ hS ?_
      refine tL 4 ⟨some 32, .load 4 (.tmp 31), _, _, _, none⟩ hS ?_
      refine tV 5 ⟨some 33, .fieldAddr 66 (.tmp 7) 1, _, _, _, none⟩ hS ?_
      refine tV 6 ⟨some 34, .fieldAddr 32 (.tmp 33) 1, _, _, _, none⟩ hS ?_
      refine tL 7 ⟨some 35, .load 9 (.tmp 34), _, _, _, none⟩ hS ?_
      refine tV 8 ⟨some 36, .call { callee := .builtin .len, args := #[.tmp 35], argTypes := #[9] }, _, _, _, none⟩ hS ?_
      refine tV 9 ⟨some 37, .convert 3 53 (.tmp 36), _, _, _, none⟩ hS ?_
      refine tV 10 ⟨some 38, .fieldAddr 55 (.tmp 8) 0, _, _, _, none⟩ hS ?_
      refine wpAnyH_ready (rs := [11]) (by kernel_rfl) (by simp) ?_
      refine (AllReadyH.cons (o := ⟨none, .store 9 (.tmp 38) (.tmp 29), _, _, _, none⟩) rfl (fun K hK => ?_) AllReadyH.nil)
      (refine stp_setC hO 0 rfl rfl (by rfl) (by rfl) (by rfl) Tryd.sizeOf9 rfl rfl (by simp [Hlk.out]) ?_; clear hO; intro w9 hO; simp only [List.set_cons_zero, List.set_cons_succ] at hO)
      refine hK.out _ _ ⟨(cellV hO (by repeat (first | exact List.Mem.head _ | refine List.Mem.tail _ ?_)) rfl), (cellV hO (by repeat (first | exact List.Mem.head _ | refine List.Mem.tail _ ?_)) rfl), (cellV hO (by repeat (first | exact List.Mem.head _ | refine List.Mem.tail _ ?_)) rfl)⟩ (fun hS => ?_)
      clear hK K
      try simp only [Act.put, sb, s0, sz]
      refine tV 12 ⟨some 39, .fieldAddr 55 (.tmp 8) 1, _, _, _, none⟩ hS ?_
      refine wpAnyH_ready (rs := [13]) (by kernel_rfl) (by simp) ?_
      refine (AllReadyH.cons (o := ⟨none, .store 4 (.tmp 39) (.tmp 32), _, _, _, none⟩) rfl (fun K hK => ?_) AllReadyH.nil)
      (refine stp_setC hO 0 rfl rfl (by rfl) (by rfl) (by rfl) Tryd.sizeOf4 rfl rfl (by simp [Hlk.out]) ?_; clear hO; intro w9 hO; simp only [List.set_cons_zero, List.set_cons_succ] at hO)
      refine hK.out _ _ ⟨(cellV hO (by repeat (first | exact List.Mem.head _ | refine List.Mem.tail _ ?_)) rfl), (cellV hO (by repeat (first | exact List.Mem.head _ | refine List.Mem.tail _ ?_)) rfl), (cellV hO (by repeat (first | exact List.Mem.head _ | refine List.Mem.tail _ ?_)) rfl)⟩ (fun hS => ?_)
      clear hK K
      try simp only [Act.put, sb, s0, sz]
      refine tV 14 ⟨some 40, .fieldAddr 55 (.tmp 8) 4, _, _, _, none⟩ hS ?_
      refine wpAnyH_ready (rs := [15]) (by kernel_rfl) (by simp) ?_
      refine (AllReadyH.cons (o := ⟨none, .store 53 (.tmp 40) (.tmp 37), _, _, _, none⟩) rfl (fun K hK => ?_) AllReadyH.nil)
      (refine stp_setC hO 0 rfl rfl (by rfl) (by rfl) (by rfl) Tryd.sizeOf53 rfl rfl (by simp [Hlk.out]) ?_; clear hO; intro w9 hO; simp only [List.set_cons_zero, List.set_cons_succ] at hO)
      refine hK.out _ _ ⟨(cellV hO (by repeat (first | exact List.Mem.head _ | refine List.Mem.tail _ ?_)) rfl), (cellV hO (by repeat (first | exact List.Mem.head _ | refine List.Mem.tail _ ?_)) rfl), (cellV hO (by repeat (first | exact List.Mem.head _ | refine List.Mem.tail _ ?_)) rfl)⟩ (fun hS => ?_)
      clear hK K
      try simp only [Act.put, sb, s0, sz]
      refine wpAnyH_done (by kernel_rfl) ?_ _
      all_goals
        clear hS hE z1 z2
        have hE : Ent (pt b8 (.cells dx.toArray 55 (0, 0)) :: xOut bx (o1 ++ og) :: pt b7 (.cells #[.string ⟨nm.toArray⟩, .bool xd, .string ⟨xb.toArray⟩, .slice av nk cv] 66) :: pt b5 (.cells #[.int .u8 3, .string ⟨#[]⟩, .slice ac ks.length cc] 49) :: rowK ac cc ks :: pt b3 (.cells #[.bool true, .string ⟨td.toArray⟩, .slice (some ⟨b, off, none⟩) t.kids.length c] 32) :: pt b4 (.cells cs.toArray 55 (0, 0)) :: l) w9 := by
          rw [← HS.out]
          exact hO
        clear hO
        go_wp2_with (first
          | go_skip
          | ((with_reducible (show Go.wpList _ _ _ (Go.Oper.mk _ (.load 47 _) _ _ _ _ :: _) _ _)); refine wpl_load1 hE 3 rfl rfl rfl rfl (by simp [go_sem]) rfl ?_)
          | ((with_reducible (show Go.wpList _ _ _ (Go.Oper.mk _ (.load 55 _) _ _ _ _ :: _) _ _)); refine wpl_loadW (xs := dx) hE 0 rfl rfl rfl rfl Tryd.isAgg55 Tryd.sizeOf55 Hld.out ?_)
          | ((with_reducible (show Go.wpList _ _ _ (Go.Oper.mk _ (.buildSlice _ _ _) _ _ _ _ :: _) _ _)); refine wpl_build1 hE rfl rfl (xs := dx) rfl Tryd.underlying47 zs_kid Tryd.sizeOf55 (by decide) (by decide) Hld.out ?_; clear hE; intro b9 w3 hE)
          | ((with_reducible (show Go.wpList _ _ _ (Go.Oper.mk _ (.call { callee := .builtin .append, args := _, argTypes := _ }) _ _ _ _ :: _) _ _)); refine wpl_appendG hE 5 rfl rfl rfl rfl rfl Tryd.underlying47 info_kid (by decide) (m := 1) (news := dx) (reads_pt hE 0 rfl (off := 0) (fun j u hu => by rw [Nat.zero_add, List.getElem?_toArray]; exact hu)) (by rw [Hld.out]) Hod.out (by omega) (by omega) ?_; clear hE; intro an cn w6 hE; simp only [List.set_cons_zero, List.set_cons_succ] at hE)
          | ((with_reducible (show Go.wpList _ _ _ (Go.Oper.mk _ (.store _ _ _) _ _ _ _ :: _) _ _)); refine wpl_st1 hE 4 rfl rfl rfl rfl rfl Tryd.sizeOf47 rfl rfl (by simp) ?_; clear hE; intro w7 hE; simp only [List.set_cons_zero, List.set_cons_succ] at hE))
        go_roundw
        case rel =>
          refine ⟨k + 1, hlt, by first | rfl | simp, ?_⟩
          rw [Hoo2.out, Hks2.out, Htd.out, Ho2.out, Hkd.out]
          have q1 : (ks ++ [dirKid nm t' kg]).length = ks.length + 1 := by simp
          have hF := (hE.tail.tail.erase 1).front 2 rfl
          have hG := Ent.pack (f := fun z : Option Addr × Nat => [pt b5 (.cells #[.int .u8 3, .string ⟨#[]⟩, .slice z.1 (ks ++ [dirKid nm t' kg]).length z.2] 49), rowK z.1 z.2 (ks ++ [dirKid nm t' kg])]) (an, cn) (by simp only [rowK, q1, Hkc.out]; exact hF.front 2 rfl)
          exact hG.front 1 rfl
        case measure => simp [intOf] <;> omega
    · obtain rfl : k = t.kids.length := by omega
      obtain ⟨⟨ac, cc⟩, hE'⟩ := (hE.front 1 rfl).unpack
      replace hE : Ent (xOut bx (out ++ (cdN g t t.kids.length).map putC) :: pt b5 (.cells #[.int .u8 3, .string ⟨#[]⟩, .slice ac (kdN g t t.kids.length).length cc] 49) :: rowK ac cc (kdN g t t.kids.length) :: pt b3 (.cells #[.bool true, .string ⟨t.data.toArray⟩, .slice ao t.kids.length c] 32) :: pt b4 (.cells cs.toArray 55 (0, 0)) :: l) wr := hE'.front 2 rfl
      clear hE' Hkids Hih Hr Hcn Hn Hok
      generalize out ++ (cdN g t t.kids.length).map putC = o1 at *
      generalize kdN g t t.kids.length = ks at *
      generalize hkx : kcells (kidOf ⟨3, [], ks⟩) = kx at *
      clear hkx
      generalize putC ⟨3, [], ks⟩ = pb at *
      go_wp2_with (first
        | go_skip
        | ((with_reducible (show Go.wpList _ _ _ (Go.Oper.mk _ (.load 49 _) _ _ _ _ :: _) _ _)); (first | (refine wpl_loadW hE 0 rfl rfl rfl rfl Tryd.isAgg49 Tryd.sizeOf49 rfl ?_) | (refine wpl_loadW hE 1 rfl rfl rfl rfl Tryd.isAgg49 Tryd.sizeOf49 rfl ?_) | (refine wpl_loadW hE 2 rfl rfl rfl rfl Tryd.isAgg49 Tryd.sizeOf49 rfl ?_) | (refine wpl_loadW hE 3 rfl rfl rfl rfl Tryd.isAgg49 Tryd.sizeOf49 rfl ?_) | (refine wpl_loadW hE 4 rfl rfl rfl rfl Tryd.isAgg49 Tryd.sizeOf49 rfl ?_) | (refine wpl_loadW hE 5 rfl rfl rfl rfl Tryd.isAgg49 Tryd.sizeOf49 rfl ?_) | (refine wpl_loadW hE 6 rfl rfl rfl rfl Tryd.isAgg49 Tryd.sizeOf49 rfl ?_) | (refine wpl_loadW hE 7 rfl rfl rfl rfl Tryd.isAgg49 Tryd.sizeOf49 rfl ?_)))
        | (go_at_call 54; refine (HP.out _ _ ac cc sfx (fun w h => reads_row h 1 rfl) hE).mono ?_; clear hE; rintro e w5 ⟨v, rfl, rfl, hE⟩)
        | ((with_reducible (show Go.wpList _ _ _ (Go.Oper.mk _ (.store _ _ _) _ _ _ _ :: _) _ _)); refine wpl_storeW hE 4 rfl rfl rfl (xs := kx) rfl rfl Tryd.sizeOf55 Hlen.out Hone.out (by simpa using Hq.out) ?_; clear hE; intro w9 hE; simp only [List.set_cons_zero, List.set_cons_succ] at hE))
      refine bodyPost_ret (results_cellA rfl hE 4 rfl rfl Tryd.isAgg55 Tryd.sizeOf55 Hlen.out) rfl ?_
      refine ⟨_, rfl, HV.out.symm, ?_⟩
      rw [HO.out]
      exact (((hE.erase 1).erase 1).erase 1).erase 1
/-- any tree's chunks -/
theorem node_any : ∀ (d : Nat) (t : Tr), d ≤ 6 → Tr.Wf d t → NodeAt (nodeC d) t
  | 0, t, _, h => by
    cases hd : t.dir with
    | false => exact node_file hd h.2.2 (nodeC_file hd)
    | true => exact node_dir (g := nodeC 0) hd (dir_ok0 h.1 _) (nodeC_dir0 hd h.1 _) (by rw [h.1]; intro x hx; cases hx)
  | d + 1, t, h6, h => by
    cases hd : t.dir with
    | false => exact node_file hd h.2.2.2.2.1 (nodeC_file hd)
    | true => exact node_dir (g := nodeC d) hd (dir_ok (by omega) h) (nodeC_dir hd) (fun x hx => node_any d x.2 (by omega) (h.2.2.2.2.2 x hx).2)
end Go.Proofs.YtehfbokkcamliaaDoor
namespace Go.SL
section
variable {P : Program} {ops : Array Oper} {rest : List Oper} {o : Oper} {a : Act} {Q : Exit → Act → World → Prop} {w : World} {l : List HProp}

/-- an entry with a new key is put -/
theorem wpl_insertS (hE : Ent l w) (i : Nat) {r : Nat} {es : List MapEntry} {clock : Nat} (hi : l[i]? = some (pt r (.map es.toArray clock)))
    {t kt et : TypeId} {x y z : Operand} (ho : o.op = .insert t x y z) (hw : Region.wanted o (yielded ops a.tmps) = true) (hx : a.eval x = .map (some r)) {s : ByteArray} (hy : a.eval y = .string s) {v : Value} (hz : a.eval z = v)
    (ht : P.underlying t = some (.map kt et)) (hk : P.underlying kt = some .string) (hnew : Instr.findNow .string (.string s) es 0 = some none)
    (h : ∀ w', Ent (l.set i (pt r (.map (es ++ [mEnt (.string s) v clock]).toArray (clock + 1)))) w' → wpList P ops Q rest (a.put o.dst undef) w') : wpList P ops Q (o :: rest) a w := by
  have hb := hE.at i hi
  have hc : ∀ m, (Instr.checkKey false (m + 1) kt (.string s)).run P w = .ok () w := fun m => by
    unfold Instr.checkKey
    simp [run_underlying hk]
  have hf : (Instr.findKey kt (.string s) es).run P w = .ok none w := by
    unfold Instr.findKey
    simp [run_underlying hk, hnew]
  refine wpl_run_skip hw (w' := { w with heap := w.heap.setIfInBounds r (.map (es ++ [mEnt (.string s) v clock]).toArray (clock + 1)) }) ?_ (h _ (hE.setMap i hi))
  have hg := MapKept.run_getObj_map (P := P) hb
  have hs := MapKept.run_setObj_map (P := P) (.map (es.toArray.push (mEnt (.string s) v clock)) (clock + 1)) hb
  have e : es.toArray.push (mEnt (.string s) v clock) = (es ++ [mEnt (.string s) v clock]).toArray := by simp
  rw [e] at hs
  simp [execOp, ho, hx, hy, hz, Instr.mapUpdate, run_underlying ht, hg, hc 9999, hf, e, hs]

/-- an entry with a new key is put, by an assignment -/
theorem wpl_updS (hE : Ent l w) (i : Nat) {r : Nat} {es : List MapEntry} {clock : Nat} (hi : l[i]? = some (pt r (.map es.toArray clock)))
    {t kt et : TypeId} {x y z : Operand} (ho : o.op = .mapUpdate t x y z) (hw : Region.wanted o (yielded ops a.tmps) = true) (hx : a.eval x = .map (some r)) {s : ByteArray} (hy : a.eval y = .string s) {v : Value} (hz : a.eval z = v)
    (ht : P.underlying t = some (.map kt et)) (hk : P.underlying kt = some .string) (hnew : Instr.findNow .string (.string s) es 0 = some none)
    (h : ∀ w', Ent (l.set i (pt r (.map (es ++ [mEnt (.string s) v clock]).toArray (clock + 1)))) w' → wpList P ops Q rest (a.put o.dst undef) w') : wpList P ops Q (o :: rest) a w := by
  have hb := hE.at i hi
  have hc : ∀ m, (Instr.checkKey false (m + 1) kt (.string s)).run P w = .ok () w := fun m => by
    unfold Instr.checkKey
    simp [run_underlying hk]
  have hf : (Instr.findKey kt (.string s) es).run P w = .ok none w := by
    unfold Instr.findKey
    simp [run_underlying hk, hnew]
  refine wpl_run_skip hw (w' := { w with heap := w.heap.setIfInBounds r (.map (es ++ [mEnt (.string s) v clock]).toArray (clock + 1)) }) ?_ (h _ (hE.setMap i hi))
  have hg := MapKept.run_getObj_map (P := P) hb
  have hs := MapKept.run_setObj_map (P := P) (.map (es.toArray.push (mEnt (.string s) v clock)) (clock + 1)) hb
  have e : es.toArray.push (mEnt (.string s) v clock) = (es ++ [mEnt (.string s) v clock]).toArray := by simp
  rw [e] at hs
  simp [execOp, ho, hx, hy, hz, Instr.mapUpdate, run_underlying ht, hg, hc 9999, hf, e, hs]

/-- a key is looked up -/
theorem wpl_lookS (hE : Ent l w) (i : Nat) {r : Nat} {es : List MapEntry} {clock : Nat} (hi : l[i]? = some (pt r (.map es.toArray clock)))
    {t kt et : TypeId} {x y : Operand} (ho : o.op = .lookup t x y false) (hw : Region.wanted o (yielded ops a.tmps) = true) (hx : a.eval x = .map (some r)) {s : ByteArray} (hy : a.eval y = .string s)
    (ht : P.underlying t = some (.map kt et)) (hk : P.underlying kt = some .string) {v : Value} {j : Nat} (hfind : Instr.findNow .string (.string s) es 0 = some (some (j, v)))
    (h : wpList P ops Q rest (a.put o.dst v) w) : wpList P ops Q (o :: rest) a w := by
  have hb := hE.at i hi
  have hc : ∀ e m, (Instr.checkKey e (m + 1) kt (.string s)).run P w = .ok () w := fun e m => by
    unfold Instr.checkKey
    simp [run_underlying hk]
  have hf : (Instr.findKey kt (.string s) es).run P w = .ok (some (j, v)) w := by
    unfold Instr.findKey
    simp [run_underlying hk, hfind]
  have hg := MapKept.run_getObj_map (P := P) hb
  refine wpl_run hw (w' := w) (v := v) ?_ h
  simp [execOp, ho, hx, hy, Instr.lookup, run_underlying ht, hg, hc _ 9999, hf]
/-- a key that is not there -/
theorem wpl_lookNotS (hE : Ent l w) (i : Nat) {r : Nat} {es : List MapEntry} {clock : Nat} (hi : l[i]? = some (pt r (.map es.toArray clock)))
    {t kt et : TypeId} {x y : Operand} (ho : o.op = .lookup t x y false) (hw : Region.wanted o (yielded ops a.tmps) = true) (hx : a.eval x = .map (some r)) {s : ByteArray} (hy : a.eval y = .string s)
    (ht : P.underlying t = some (.map kt et)) (hk : P.underlying kt = some .string) {v : Value} (hz : ∀ w, (zeroValue et).run P w = .ok v w) (hfind : Instr.findNow .string (.string s) es 0 = some none)
    (h : wpList P ops Q rest (a.put o.dst v) w) : wpList P ops Q (o :: rest) a w := by
  have hb := hE.at i hi
  have hc : ∀ e m, (Instr.checkKey e (m + 1) kt (.string s)).run P w = .ok () w := fun e m => by
    unfold Instr.checkKey
    simp [run_underlying hk]
  have hf : (Instr.findKey kt (.string s) es).run P w = .ok none w := by
    unfold Instr.findKey
    simp [run_underlying hk, hfind]
  have hg := MapKept.run_getObj_map (P := P) hb
  refine wpl_run hw (w' := w) (v := v) ?_ h
  simp [execOp, ho, hx, hy, Instr.lookup, run_underlying ht, hg, hc _ 9999, hf, hz]
/-- entries with these keys and values -/
def entsT (kvs : List (List UInt8 × Value)) (es : List MapEntry) : Prop := es.map (fun e => (e.key, e.val)) = kvs.map fun p => (.string ⟨p.1.toArray⟩, p.2)
def mapT (r : Nat) (kvs : List (List UInt8 × Value)) : HProp := ex fun x : { x : List MapEntry × Nat // entsT kvs x.1 } => [pt r (.map x.1.1.toArray x.1.2)]
def lookT (kvs : List (List UInt8 × Value)) (n : List UInt8) (z : Value) : Value := match kvs.find? (fun p => n == p.1) with | some p => p.2 | none => z

theorem keyT_beq (a b : List UInt8) : ((⟨a.toArray⟩ : ByteArray) == ⟨b.toArray⟩) = (a == b) := by
  rw [beq_toListBytes, ByteArray.toList_eq, ByteArray.toList_eq]
theorem findT_new (n : List UInt8) : ∀ (kvs : List (List UInt8 × Value)) (es : List MapEntry) (i : Nat), entsT kvs es → (kvs.all fun p => !(n == p.1)) = true → Instr.findNow .string (.string ⟨n.toArray⟩) es i = some none
  | [], es, i, h, _ => by
    have : es = [] := by simpa [entsT] using h
    subst this
    rfl
  | p :: kvs, [], i, h, _ => by simp [entsT] at h
  | p :: kvs, e :: es, i, h, hn => by
    simp only [entsT, List.map_cons, List.cons.injEq, Prod.mk.injEq] at h
    simp only [List.all_cons, Bool.and_eq_true, Bool.not_eq_true'] at hn
    unfold Instr.findNow
    rw [h.1.1]
    simp only [Instr.sameNow, if_true, keyT_beq, hn.1]
    exact findT_new n kvs es (i + 1) h.2 hn.2
theorem findT_old (n : List UInt8) : ∀ (kvs : List (List UInt8 × Value)) (es : List MapEntry) (i : Nat) (p : List UInt8 × Value), entsT kvs es → kvs.find? (fun p => n == p.1) = some p → ∃ j, Instr.findNow .string (.string ⟨n.toArray⟩) es i = some (some (j, p.2))
  | [], es, i, p, h, hf => by simp at hf
  | q :: kvs, [], i, p, h, _ => by simp [entsT] at h
  | q :: kvs, e :: es, i, p, h, hf => by
    simp only [entsT, List.map_cons, List.cons.injEq, Prod.mk.injEq] at h
    unfold Instr.findNow
    rw [h.1.1]
    simp only [Instr.sameNow, if_true, keyT_beq]
    cases hq : (n == q.1) with
    | true =>
      simp only [List.find?_cons, hq] at hf
      cases hf
      exact ⟨i, by rw [h.1.2]⟩
    | false =>
      simp only [List.find?_cons, hq] at hf
      exact findT_old n kvs es (i + 1) p h.2 hf

theorem wpl_makeMapT (hE : Ent l w) {t : TypeId} (ho : o.op = .makeMap t none) (hw : Region.wanted o (yielded ops a.tmps) = true)
    (h : ∀ r w', Ent (mapT r [] :: l) w' → wpList P ops Q rest (a.put o.dst (.map (some r))) w') : wpList P ops Q (o :: rest) a w :=
  wpl_makeMap hE ho hw fun r w' hE' => h r w' (Ent.pack ⟨([], 0), rfl⟩ hE')

theorem wpl_insertT (hE : Ent l w) (i : Nat) {r : Nat} {kvs : List (List UInt8 × Value)} (hi : l[i]? = some (mapT r kvs))
    {t kt et : TypeId} {x y z : Operand} (ho : o.op = .insert t x y z) (hw : Region.wanted o (yielded ops a.tmps) = true) (hx : a.eval x = .map (some r)) {n : List UInt8} (hy : a.eval y = (.string ⟨n.toArray⟩)) {v : Value} (hz : a.eval z = v)
    (ht : P.underlying t = some (.map kt et)) (hk : P.underlying kt = some .string) (hnew : (kvs.all fun p => !(n == p.1)) = true)
    (h : ∀ w', Ent (l.set i (mapT r (kvs ++ [(n, v)]))) w' → wpList P ops Q rest (a.put o.dst undef) w') : wpList P ops Q (o :: rest) a w := by
  obtain ⟨⟨⟨es, c⟩, he⟩, hE1⟩ := Ent.unpack (hE.front i hi)
  refine wpl_insertS hE1 0 rfl ho hw hx hy hz ht hk (findT_new n kvs es 0 he hnew) fun w' hE' => h w' ?_
  refine Ent.put ?_ (List.getElem?_eq_some_iff.1 hi).1
  refine Ent.pack ⟨(es ++ [mEnt (.string ⟨n.toArray⟩) v c], c + 1), ?_⟩ hE'
  unfold entsT at he ⊢
  simp only [List.map_append, he, List.map_cons, List.map_nil]

theorem wpl_updT (hE : Ent l w) (i : Nat) {r : Nat} {kvs : List (List UInt8 × Value)} (hi : l[i]? = some (mapT r kvs))
    {t kt et : TypeId} {x y z : Operand} (ho : o.op = .mapUpdate t x y z) (hw : Region.wanted o (yielded ops a.tmps) = true) (hx : a.eval x = .map (some r)) {n : List UInt8} (hy : a.eval y = (.string ⟨n.toArray⟩)) {v : Value} (hz : a.eval z = v)
    (ht : P.underlying t = some (.map kt et)) (hk : P.underlying kt = some .string) (hnew : (kvs.all fun p => !(n == p.1)) = true)
    (h : ∀ w', Ent (l.set i (mapT r (kvs ++ [(n, v)]))) w' → wpList P ops Q rest (a.put o.dst undef) w') : wpList P ops Q (o :: rest) a w := by
  obtain ⟨⟨⟨es, c⟩, he⟩, hE1⟩ := Ent.unpack (hE.front i hi)
  refine wpl_updS hE1 0 rfl ho hw hx hy hz ht hk (findT_new n kvs es 0 he hnew) fun w' hE' => h w' ?_
  refine Ent.put ?_ (List.getElem?_eq_some_iff.1 hi).1
  refine Ent.pack ⟨(es ++ [mEnt (.string ⟨n.toArray⟩) v c], c + 1), ?_⟩ hE'
  unfold entsT at he ⊢
  simp only [List.map_append, he, List.map_cons, List.map_nil]

theorem wpl_lookupT (hE : Ent l w) (i : Nat) {r : Nat} {kvs : List (List UInt8 × Value)} (hi : l[i]? = some (mapT r kvs))
    {t kt et : TypeId} {x y : Operand} (ho : o.op = .lookup t x y false) (hw : Region.wanted o (yielded ops a.tmps) = true) (hx : a.eval x = .map (some r)) {n : List UInt8} (hy : a.eval y = (.string ⟨n.toArray⟩))
    (ht : P.underlying t = some (.map kt et)) (hk : P.underlying kt = some .string) {z : Value} (hz : ∀ w, (zeroValue et).run P w = .ok z w)
    (h : wpList P ops Q rest (a.put o.dst (lookT kvs n z)) w) : wpList P ops Q (o :: rest) a w := by
  obtain ⟨⟨⟨es, c⟩, he⟩, hE1⟩ := Ent.unpack (hE.front i hi)
  unfold lookT at h
  cases hf : kvs.find? (fun p => n == p.1) with
  | some p =>
    rw [hf] at h
    obtain ⟨j, hj⟩ := findT_old n kvs es 0 p he hf
    exact wpl_lookS hE1 0 rfl ho hw hx hy ht hk hj h
  | none =>
    rw [hf] at h
    refine wpl_lookNotS hE1 0 rfl ho hw hx hy ht hk hz (findT_new n kvs es 0 he ?_) h
    rw [List.all_eq_true]
    intro p hp
    have := List.find?_eq_none.1 hf p hp
    simpa using this
/-- how many entries -/
theorem wpl_lenMapT (hE : Ent l w) (i : Nat) {r : Nat} {kvs : List (List UInt8 × Value)} (hi : l[i]? = some (mapT r kvs))
    {t kt et : TypeId} {x : Operand} (ho : o.op = .call { callee := .builtin .len, args := #[x], argTypes := #[t] }) (hw : Region.wanted o (yielded ops a.tmps) = true) (hx : a.eval x = .map (some r))
    (ht : P.underlying t = some (.map kt et)) (h : wpList P ops Q rest (a.put o.dst (.int .i64 (kvs.length : Nat))) w) : wpList P ops Q (o :: rest) a w := by
  obtain ⟨⟨⟨es, c⟩, he⟩, hE1⟩ := Ent.unpack (hE.front i hi)
  have hg := MapKept.run_getObj_map (P := P) (hE1.at 0 rfl)
  have hl : es.length = kvs.length := by
    have := congrArg List.length he
    simpa using this
  refine wpl_run hw (w' := w) (v := .int .i64 (kvs.length : Nat)) ?_ h
  simp [execOp, ho, resolve, invoke, builtin, Builtin.len_, hx, run_underlying ht, hg, hl, goInt]
end
attribute [irreducible] mapT
end Go.SL
namespace Go.Proofs.YtehfbokkcamliaaDoor
open Go.RowKit Go.SL

/-- texts, each once, as they come first -/
def onceT (l : List (List UInt8)) : List (List UInt8) := l.foldl (fun acc s => if acc.contains s = true then acc else acc ++ [s]) []
def needN (l : List (List UInt8)) : Nat := ((onceT l).map fun s => 34 + s.length).sum
def needK (l : List (List UInt8)) : Nat := (onceT l).length
theorem once_go : ∀ (l acc : List (List UInt8)) (s : List UInt8), s ∈ l.foldl (fun acc s => if acc.contains s = true then acc else acc ++ [s]) acc ↔ s ∈ acc ∨ s ∈ l
  | [], acc, s => by simp
  | x :: l, acc, s => by
    rw [List.foldl_cons, once_go l]
    split
    · next h =>
      rw [List.contains_iff_mem] at h
      simp only [List.mem_cons]
      constructor
      · rintro (h1 | h1)
        · exact .inl h1
        · exact .inr (.inr h1)
      · rintro (h1 | rfl | h1)
        · exact .inl h1
        · exact .inl h
        · exact .inr h1
    · simp only [List.mem_append, List.mem_cons, List.not_mem_nil, or_false]
      constructor
      · rintro ((h1 | h1) | h1)
        · exact .inl h1
        · exact .inr (.inl h1)
        · exact .inr (.inr h1)
      · rintro (h1 | h1 | h1)
        · exact .inl (.inl h1)
        · exact .inl (.inr h1)
        · exact .inr h1
theorem once_mem {l : List (List UInt8)} {s : List UInt8} : s ∈ onceT l ↔ s ∈ l := by
  rw [onceT, once_go]
  simp
theorem once_step {l : List (List UInt8)} {k : Nat} (h : k < l.length) : onceT (l.take (k + 1)) = if (l.take k).contains l[k] = true then onceT (l.take k) else onceT (l.take k) ++ [l[k]] := by
  have e : (onceT (l.take k)).contains l[k] = (l.take k).contains l[k] := by
    rw [Bool.eq_iff_iff, List.contains_iff_mem, List.contains_iff_mem, once_mem]
  rw [List.take_succ_eq_append_getElem h, onceT, List.foldl_append, ← e]
  rfl
theorem once_len : ∀ (l : List (List UInt8)), (onceT l).length ≤ l.length := by
  have go : ∀ (l acc : List (List UInt8)), (l.foldl (fun acc s => if acc.contains s = true then acc else acc ++ [s]) acc).length ≤ acc.length + l.length := by
    intro l
    induction l with
    | nil => intro acc; simp
    | cons x l ih =>
      intro acc
      rw [List.foldl_cons]
      split
      · have := ih acc
        simp only [List.length_cons]
        omega
      · have := ih (acc ++ [x])
        simp only [List.length_cons, List.length_append, List.length_nil] at this ⊢
        omega
  intro l
  have := go l []
  simpa [onceT] using this
end Go.Proofs.YtehfbokkcamliaaDoor
namespace Go.Proofs.YtehfbokkcamliaaDoor
open Go.RowKit Go.SL

set_option maxRecDepth 100000 in
set_option maxHeartbeats 4000000 in
theorem Cut_any {d : Nat} {t : Tr} (h6 : d ≤ 6) (hw : Tr.Wf d t) {v : Value} {l : List HProp} {w : World} (ht : Knows l KTab) (hf : Knows l FTab) (hk : KidsAt l v t.kids) (hE : Ent l w) :
    Calls Tryd.prog 13 #[.agg #[.bool t.dir, .string ⟨t.data.toArray⟩, v]] w (Ret fun u w' => ∃ ao c, u = .slice ao ((nodeC d t).1.map putC).length c ∧ Ent (rowT ao c ((nodeC d t).1.map putC) :: l) w') := by
  have hl : (nodeC d t).1.length ≤ 800000000000 := by
    have h1 := (node_fit d t h6 hw).2.2
    have h2 : 7 ^ d ≤ 7 ^ 6 := Nat.pow_le_pow_right (by omega) h6
    omega
  have HN := SL.hid (fun (bx : Nat) (L : List HProp) (w : World) (h : l <:+ L) (hE : Ent (xOut bx [] :: L) w) => node_any d t h6 hw bx [] L w v (by simpa using hl) (ht.suf h) (hf.suf h) (hk.suf h) hE)
  obtain ⟨av, cv, rfl⟩ := hk.slice
  clear hl hw ht hf hk
  simp only [List.nil_append] at HN
  generalize kcells (nodeC d t).2 = kx at *
  generalize (nodeC d t).1.map putC = out at *
  generalize t.kids.length = nk at *
  go_enter Tryd.func13, Tryd.ntmps13
  have A1 := SL.hid True.intro
  go_wp2_with (first
    | go_skip
    | ((with_reducible (show Go.wpList _ _ _ (Go.Oper.mk _ (.box 32 _) _ _ _ _ :: _) _ _)); refine wpl_box hE rfl rfl rfl ?_; clear hE; intro b1 w hE; simp only [Act.eval, Act.put, List.setIfInBounds_toArray, List.set_cons_zero, List.set_cons_succ, getD_lit, List.getD_cons_succ, List.getD_cons_zero, Value.cells] at hE)
    | ((with_reducible (show Go.wpList _ _ _ (Go.Oper.mk _ (.box 76 _) _ _ _ _ :: _) _ _)); refine wpl_box hE rfl rfl rfl ?_; clear hE; intro bx w hE; simp only [Act.eval, Act.put, List.setIfInBounds_toArray, List.set_cons_zero, List.set_cons_succ, getD_lit, List.getD_cons_succ, List.getD_cons_zero, Value.cells] at hE; have hE := Ent.pack (f := fun z : Option Addr × Nat => [pt bx (.cells #[.slice z.1 ([] : List (List UInt8)).length z.2, .bool false] 76), rowT z.1 z.2 []]) (none, 0) ((hE.nil 9 1).front 1 rfl))
    | ((with_reducible (show Go.wpList _ _ _ (Go.Oper.mk _ (.load 32 _) _ _ _ _ :: _) _ _)); (first | (refine wpl_loadW hE 0 rfl rfl rfl rfl Tryd.isAgg32 Tryd.sizeOf32 rfl ?_) | (refine wpl_loadW hE 1 rfl rfl rfl rfl Tryd.isAgg32 Tryd.sizeOf32 rfl ?_) | (refine wpl_loadW hE 2 rfl rfl rfl rfl Tryd.isAgg32 Tryd.sizeOf32 rfl ?_) | (refine wpl_loadW hE 3 rfl rfl rfl rfl Tryd.isAgg32 Tryd.sizeOf32 rfl ?_) | (refine wpl_loadW hE 4 rfl rfl rfl rfl Tryd.isAgg32 Tryd.sizeOf32 rfl ?_) | (refine wpl_loadW hE 5 rfl rfl rfl rfl Tryd.isAgg32 Tryd.sizeOf32 rfl ?_) | (refine wpl_loadW hE 6 rfl rfl rfl rfl Tryd.isAgg32 Tryd.sizeOf32 rfl ?_) | (refine wpl_loadW hE 7 rfl rfl rfl rfl Tryd.isAgg32 Tryd.sizeOf32 rfl ?_)))
    | (go_at_call 26; clear A1; refine (HN.out bx _ _ sfx hE).mono ?_; clear hE; rintro e w5 ⟨v, rfl, rfl, hE⟩; obtain ⟨⟨ao, c⟩, hE'⟩ := Ent.unpack hE; replace hE : Ent (pt bx (.cells #[.slice ao out.length c, .bool false] 76) :: rowT ao c out :: pt b1 (.cells #[.bool t.dir, .string ⟨t.data.toArray⟩, .slice av nk cv] 32) :: l) _ := hE'; clear hE')
    | ((with_reducible (show Go.wpList _ _ _ (Go.Oper.mk _ (.load _ _) _ _ _ _ :: _) _ _)); (first | (refine wpl_load1 hE 0 rfl rfl rfl rfl (by simp [go_sem]) rfl ?_) | (refine wpl_load1 hE 1 rfl rfl rfl rfl (by simp [go_sem]) rfl ?_) | (refine wpl_load1 hE 2 rfl rfl rfl rfl (by simp [go_sem]) rfl ?_) | (refine wpl_load1 hE 3 rfl rfl rfl rfl (by simp [go_sem]) rfl ?_) | (refine wpl_load1 hE 4 rfl rfl rfl rfl (by simp [go_sem]) rfl ?_) | (refine wpl_load1 hE 5 rfl rfl rfl rfl (by simp [go_sem]) rfl ?_) | (refine wpl_load1 hE 6 rfl rfl rfl rfl (by simp [go_sem]) rfl ?_) | (refine wpl_load1 hE 7 rfl rfl rfl rfl (by simp [go_sem]) rfl ?_))))
  go_ret
  exact ⟨_, rfl, ao, c, rfl, hE.tail.erase 1⟩
end Go.Proofs.YtehfbokkcamliaaDoor
namespace Go.Proofs.YtehfbokkcamliaaDoor
open Go.RowKit Go.SL

def txv (s : List UInt8) : Value := .string ⟨s.toArray⟩
def seenL (xs : List (List UInt8)) : List (List UInt8 × Value) := (onceT xs).map fun s => (s, .int .i64 1)
theorem seen_look (xs : List (List UInt8)) (s : List UInt8) (z : Value) : lookT (seenL xs) s z = if xs.contains s = true then .int .i64 1 else z := by
  unfold lookT seenL
  have go : ∀ ys : List (List UInt8), (match (ys.map fun s => (s, Value.int .i64 1)).find? (fun p => s == p.1) with | some p => p.2 | none => z) = if ys.contains s = true then .int .i64 1 else z := by
    intro ys
    induction ys with
    | nil => rfl
    | cons y ys ih =>
      rw [List.map_cons, List.find?_cons, List.contains_cons]
      cases h : s == y with
      | true => simp
      | false => simpa [h] using ih
  refine (go (onceT xs)).trans ?_
  have e : (onceT xs).contains s = xs.contains s := by rw [Bool.eq_iff_iff, List.contains_iff_mem, List.contains_iff_mem, once_mem]
  rw [e]
theorem seen_new {xs : List (List UInt8)} {s : List UInt8} (h : xs.contains s = false) : ((seenL xs).all fun p => !(s == p.1)) = true := by
  have e : (onceT xs).contains s = false := by
    rw [← h, Bool.eq_iff_iff, List.contains_iff_mem, List.contains_iff_mem, once_mem]
  rw [List.all_eq_true]
  intro p hp
  rw [seenL, List.mem_map] at hp
  obtain ⟨y, hy, rfl⟩ := hp
  simp only [Bool.not_eq_true', beq_eq_false_iff_ne]
  rintro rfl
  rw [List.contains_iff_mem.2 hy] at e
  cases e
theorem need_bound {xs : List (List UInt8)} {B : Nat} (hb : ∀ s ∈ xs, s.length ≤ B) (k : Nat) : needN (xs.take k) ≤ (xs.take k).length * (34 + B) := by
  have go : ∀ ys : List (List UInt8), (∀ s ∈ ys, s.length ≤ B) → (ys.map fun s => 34 + s.length).sum ≤ ys.length * (34 + B) := by
    intro ys
    induction ys with
    | nil => intro _; simp
    | cons y ys ih =>
      intro h
      have h1 := h y (List.mem_cons_self ..)
      have h2 := ih fun s hs => h s (List.mem_cons_of_mem _ hs)
      rw [List.map_cons, List.sum_cons, List.length_cons, Nat.add_mul]
      omega
  have h1 := go (onceT (xs.take k)) fun s hs => hb s (List.mem_of_mem_take (once_mem.1 hs))
  exact Nat.le_trans h1 (Nat.mul_le_mul_right _ (once_len _))
theorem need_yes {xs : List (List UInt8)} {k : Nat} (hk : k < xs.length) (h : (xs.take k).contains xs[k] = true) : needN (xs.take (k + 1)) = needN (xs.take k) ∧ needK (xs.take (k + 1)) = needK (xs.take k) ∧ seenL (xs.take (k + 1)) = seenL (xs.take k) := by
  unfold needN needK seenL
  rw [once_step hk, if_pos h]
  exact ⟨rfl, rfl, rfl⟩
theorem need_no {xs : List (List UInt8)} {k : Nat} (hk : k < xs.length) (h : (xs.take k).contains xs[k] = false) : needN (xs.take (k + 1)) = needN (xs.take k) + (34 + xs[k].length) ∧ needK (xs.take (k + 1)) = needK (xs.take k) + 1 ∧ seenL (xs.take (k + 1)) = seenL (xs.take k) ++ [(xs[k], .int .i64 1)] := by
  unfold needN needK seenL
  rw [once_step hk, if_neg (by rw [h]; simp)]
  simp
theorem seen_len (xs : List (List UInt8)) : (seenL xs).length = needK xs := by rw [seenL, List.length_map, needK]
/-- where a text of a row lies -/
theorem tx_at {w : World} {ao : Option Addr} {c : Nat} {xs : List (List UInt8)} (hr : reads (.slice ao xs.length c) xs.length (xs.map fun s => .string ⟨s.toArray⟩) w) {k : Nat} (hk : k < xs.length) : ∃ b off, ao = some ⟨b, off, none⟩ ∧ w.cell? ⟨b, off + k, none⟩ = some (.string ⟨xs[k].toArray⟩) := by
  obtain ⟨b, off, rfl, h⟩ := reads_form hr (by omega) (by rw [List.length_map]; omega)
  exact ⟨b, off, rfl, h k _ (by rw [List.getElem?_map, List.getElem?_eq_getElem hk]; rfl)⟩
def NdRel (xs : List (List UInt8)) (r : Nat) (l : List HProp) (n i : Value) (wr : World) : Prop := ∃ k : Nat, k ≤ xs.length ∧ i = .int .i64 k ∧ n = .int .i64 (needN (xs.take k) : Nat) ∧ Ent (mapT r (seenL (xs.take k)) :: l) wr

set_option maxRecDepth 100000 in
set_option maxHeartbeats 4000000 in
theorem Need_any {xs : List (List UInt8)} (hn : xs.length ≤ 1000000) (hb : ∀ s ∈ xs, s.length ≤ 1000000) {ao : Option Addr} {c : Nat} {l : List HProp} {w : World} (hk : Knows l (reads (.slice ao xs.length c) xs.length (xs.map fun s => .string ⟨s.toArray⟩))) (hE : Ent l w) :
    Calls Tryd.prog 7 #[.slice ao xs.length c] w (Ret fun v w' => v = .tuple #[.int .i64 (needN xs : Nat), .int .i64 (needK xs : Nat)] ∧ Ent l w') := by
  have Hb := SL.hid hb
  have Hk := SL.hid hk
  have Hn := SL.hid hn
  clear hb hk hn
  go_enter Tryd.func7, Tryd.ntmps7
  go_wp2_with (first
    | go_skip
    | ((with_reducible (show Go.wpList _ _ _ (Go.Oper.mk _ (.makeMap _ _) _ _ _ _ :: _) _ _)); refine wpl_makeMapT hE rfl rfl ?_; clear hE; intro r w1 hE))
  go_loopw [5, 11] (fun n i wr => NdRel xs r l n i wr) (fun _ i _ => xs.length - (intOf i).toNat)
  case atStart => exact ⟨0, Nat.zero_le _, rfl, rfl, hE⟩
  case round =>
    clear hE
    obtain ⟨k, hkn, rfl, rfl, hE⟩ := hrel
    have hN := need_bound Hb.out k
    rw [List.length_take] at hN
    have hmin : min k xs.length ≤ 1000000 := by have := Hn.out; omega
    have hn := Hn.out
    by_cases hlt : k < xs.length
    · obtain ⟨b, off, rfl, hcell⟩ := tx_at (Hk.out _ hE.tail) hlt
      have hxl := Hb.out _ (List.getElem_mem hlt)
      have hN2 : needN (xs.take k) ≤ 2000000000000 := by omega
      have Hm := SL.hid hmin
      clear hN hmin
      cases hc : (xs.take k).contains xs[k] with
      | true =>
        obtain ⟨q1, q2, q3⟩ := need_yes hlt hc
        have HL := SL.hid (show lookT (seenL (xs.take k)) xs[k] (.int .i64 0) = .int .i64 1 by rw [seen_look, if_pos hc])
        have Q1 := SL.hid q1
        have Q3 := SL.hid q3
        clear q1 q2 q3 hc
        generalize xs[k] = x at *
        go_wp2_with (first
          | go_skip
          | ((with_reducible (show Go.wpList _ _ _ (Go.Oper.mk _ (.lookup _ _ _ _) _ _ _ _ :: _) _ _)); refine wpl_lookupT hE 0 rfl rfl rfl rfl rfl Tryd.underlying67 Tryd.underlying9 (z := .int .i64 0) (fun w => by simp [go_sem]) ?_; rw [HL.out]))
        go_roundw
        case rel => exact ⟨k + 1, hlt, by first | rfl | simp, by rw [Q1.out], by rw [Q3.out]; exact hE⟩
        case measure => simp [intOf] <;> omega
      | false =>
        obtain ⟨q1, q2, q3⟩ := need_no hlt hc
        have HL := SL.hid (show lookT (seenL (xs.take k)) xs[k] (.int .i64 0) = .int .i64 0 by rw [seen_look, if_neg (by rw [hc]; simp)])
        have HM := SL.hid (seen_new hc)
        have Q1 := SL.hid q1
        have Q3 := SL.hid q3
        clear q1 q2 q3 hc
        generalize xs[k] = x at *
        generalize needN (xs.take k) = nn at *
        have w1 : wrap64 (34 + (x.length : Int)) = ((34 + x.length : Nat) : Int) := by unfold wrap64; omega
        have w2 : wrap64 ((nn : Int) + ((34 + x.length : Nat) : Int)) = ((nn + (34 + x.length) : Nat) : Int) := by unfold wrap64; omega
        go_wp2_with (first
          | go_skip
          | ((with_reducible (show Go.wpList _ _ _ (Go.Oper.mk _ (.lookup _ _ _ _) _ _ _ _ :: _) _ _)); refine wpl_lookupT hE 0 rfl rfl rfl rfl rfl Tryd.underlying67 Tryd.underlying9 (z := .int .i64 0) (fun w => by simp [go_sem]) ?_; rw [HL.out])
          | ((with_reducible (show Go.wpList _ _ _ (Go.Oper.mk _ (.mapUpdate _ _ _ _) _ _ _ _ :: _) _ _)); refine wpl_updT hE 0 rfl rfl rfl rfl rfl rfl Tryd.underlying67 Tryd.underlying9 HM.out ?_; clear hE; intro w4 hE; simp only [List.set_cons_zero] at hE))
        go_roundw
        case rel => exact ⟨k + 1, hlt, by first | rfl | simp, by first | (rw [Q1.out]; rfl) | (rw [Q1.out]; simp), by rw [Q3.out]; exact hE⟩
        case measure => simp [intOf] <;> omega
    · obtain rfl : k = xs.length := by omega
      have e : xs.take xs.length = xs := List.take_length
      rw [e] at hE hN
      have Hl := SL.hid (seen_len xs)
      clear hN hmin
      rw [e]
      clear e
      go_wp2_with (first
        | go_skip
        | ((with_reducible (show Go.wpList _ _ _ (Go.Oper.mk _ (.call { callee := .builtin .len, args := _, argTypes := _ }) _ _ _ _ :: _) _ _)); refine wpl_lenMapT hE 0 rfl rfl rfl rfl Tryd.underlying67 ?_; rw [Hl.out]))
      refine bodyPost_ret (results_tmp2 rfl _ _ _) rfl ?_
      exact ⟨_, rfl, rfl, hE.tail⟩
end Go.Proofs.YtehfbokkcamliaaDoor
namespace Go.Proofs.YtehfbokkcamliaaDoor
open Go.RowKit Go.SL

theorem first_step {xs : List (List UInt8)} {j : Nat} (hj : j < xs.length) (x : List UInt8) : (!(xs.take (j + 1)).contains x) = ((!(xs.take j).contains x) && !(xs[j] == x)) := by
  have e : (xs.take (j + 1)).contains x = ((xs.take j).contains x || (xs[j] == x)) := by
    rw [List.take_succ_eq_append_getElem hj, Bool.eq_iff_iff, List.contains_iff_mem, Bool.or_eq_true, List.contains_iff_mem, List.mem_append, List.mem_singleton, beq_iff_eq]
    constructor
    · rintro (h | h)
      · exact .inl h
      · exact .inr h.symm
    · rintro (h | h)
      · exact .inl h
      · exact .inr h.symm
  rw [e, Bool.not_or]
def RnRel (xs : List (List UInt8)) (l : List HProp) (n m i : Value) (wr : World) : Prop := ∃ k : Nat, k ≤ xs.length ∧ i = .int .i64 k ∧ n = .int .i64 (needN (xs.take k) : Nat) ∧ m = .int .i64 (needK (xs.take k) : Nat) ∧ Ent l wr
def RiRel (xs : List (List UInt8)) (x : List UInt8) (k : Nat) (l : List HProp) (f j : Value) (wr : World) : Prop := ∃ i : Nat, i ≤ k ∧ j = .int .i64 i ∧ f = .bool (!(xs.take i).contains x) ∧ Ent l wr

set_option maxRecDepth 100000 in
set_option maxHeartbeats 4000000 in
theorem rNeed_any {xs : List (List UInt8)} (hn : xs.length ≤ 1000000) (hb : ∀ s ∈ xs, s.length ≤ 1000000) {ao : Option Addr} {c : Nat} {l : List HProp} {w : World} (hk : Knows l (reads (.slice ao xs.length c) xs.length (xs.map fun s => .string ⟨s.toArray⟩))) (hE : Ent l w) :
    Calls Tryd.prog 8 #[.slice ao xs.length c] w (Ret fun v w' => v = .tuple #[.int .i64 (needN xs : Nat), .int .i64 (needK xs : Nat)] ∧ Ent l w') := by
  have Hb := SL.hid hb
  have Hk := SL.hid hk
  have Hn := SL.hid hn
  clear hb hk hn
  go_enter Tryd.func8, Tryd.ntmps8
  go_wp2
  go_loopw [4, 5, 6] (fun n m i wr => RnRel xs l n m i wr) (fun _ _ i _ => xs.length - (intOf i).toNat)
  case atStart => exact ⟨0, Nat.zero_le _, rfl, rfl, rfl, hE⟩
  case round =>
    clear hE
    obtain ⟨k, hkn, rfl, rfl, rfl, hE⟩ := hrel
    have hN := need_bound Hb.out k
    rw [List.length_take] at hN
    have hn := Hn.out
    have hmin : min k xs.length ≤ 1000000 := by omega
    have hK : needK (xs.take k) ≤ 1000000 := Nat.le_trans (once_len _) (by rw [List.length_take]; omega)
    have hd : ((k : Int) < (xs.length : Int)) = (k < xs.length) := by simp
    by_cases hlt : k < xs.length
    · obtain ⟨b, off, rfl, _⟩ := tx_at (Hk.out _ hE) hlt
      have HC := SL.hid (show ∀ (i : Nat) (h : i < xs.length) (W : World), Ent l W → W.cell? ⟨b, off + i, none⟩ = some (.string ⟨xs[i].toArray⟩) from fun i h W hW => by
        obtain ⟨b', off', e, hc⟩ := tx_at (Hk.out W hW) h
        cases e
        exact hc)
      have hxl := Hb.out _ (List.getElem_mem hlt)
      have hN2 : needN (xs.take k) ≤ 2000000000000 := by omega
      have HN2 := SL.hid hN2
      have HK := SL.hid hK
      have Hxl := SL.hid hxl
      clear hN hmin hN2 hK hxl
      have HCk := SL.hid (HC.out k hlt)
      have Hyes := SL.hid (need_yes (k := k) hlt)
      have Hno := SL.hid (need_no (k := k) hlt)
      generalize xs[k] = x at *
      go_wp2
      go_loopw [7, 8] (fun f j wr => RiRel xs x k l f j wr) (fun _ j _ => k - (intOf j).toNat)
      case atStart => exact ⟨0, Nat.zero_le _, rfl, by simp, hE⟩
      case round =>
        clear hE
        obtain ⟨i, hik, rfl, rfl, hE⟩ := hrel
        by_cases hli : i < k
        · have hil : i < xs.length := by omega
          have hst := first_step hil x
          have HCi := SL.hid (HC.out i (by omega))
          have hmb : ((⟨xs[i].toArray⟩ : ByteArray) != ⟨x.toArray⟩) = !(xs[i] == x) := by rw [bne, beq_toListBytes, ByteArray.toList_eq, ByteArray.toList_eq]
          have Hst := SL.hid hst
          clear hst
          generalize xs[i] = y at *
          have hO := hE.drew
          cases hf : (xs.take i).contains x with
          | true =>
            rw [hf] at Hst
            go_wp2
            refine wp_region_held_drew (S := (fun w' => (w'.cell? ⟨b, off + k, none⟩ = some (.string ⟨x.toArray⟩)))) (by kernel_rfl) (HCk.out _ hO) (fun hS => ?_)
            refine tV 0 ⟨some 20, .move (.tmp 7), _, _, _, none⟩ hS ?_
            refine tV 1 ⟨some 21, .move (.tmp 20), _, _, _, none⟩ hS ?_
            refine tU 2 ⟨some 22, .move (.tmp 0), _, _, _, some (1, true)⟩ hS ?_
            refine tU 3 ⟨some 23, .move (.tmp 8), _, _, _, some (1, true)⟩ hS ?_
            refine tU 4 ⟨some 24, .indexAddr 22 (.tmp 22) (.tmp 23), _, _, _, some (1, true)⟩ hS ?_
            refine tU 5 ⟨some 25, .load 9 (.tmp 24), _, _, _, some (1, true)⟩ hS ?_
            refine tU 6 ⟨some 26, .move (.tmp 0), _, _, _, some (1, true)⟩ hS ?_
            refine tU 7 ⟨some 27, .move (.tmp 6), _, _, _, some (1, true)⟩ hS ?_
            refine tU 8 ⟨some 28, .indexAddr 22 (.tmp 26) (.tmp 27), _, _, _, some (1, true)⟩ hS ?_
            refine tU 9 ⟨some 29, .load 9 (.tmp 28), _, _, _, some (1, true)⟩ hS ?_
            refine tU 10 ⟨some 30, .binOp .neq 9 (.tmp 25) (.tmp 29) 9, _, _, _, some (1, true)⟩ hS ?_
            refine tV 11 ⟨some 31, .pick (.tmp 21) (.tmp 30) (.const (.bool false)), _, _, _, none⟩ hS ?_
            refine tV 12 ⟨some 7, .assign (.tmp 31), _, _, _, none⟩ hS ?_
            refine wpAnyH_done (by kernel_rfl) ?_ _
            all_goals
              go_wp2
              go_roundw
              case rel => exact ⟨i + 1, hli, by first | rfl | simp, by rw [Hst.out]; rfl, hO⟩
              case measure => simp [intOf] <;> omega
          | false =>
            rw [hf] at Hst
            go_wp2
            refine wp_region_held_drew (S := (fun w' => (w'.cell? ⟨b, off + k, none⟩ = some (.string ⟨x.toArray⟩)) ∧ (w'.cell? ⟨b, off + i, none⟩ = some (.string ⟨y.toArray⟩)))) (by kernel_rfl) ⟨(HCk.out _ hO), (HCi.out _ hO)⟩ (fun hS => ?_)
            refine tV 0 ⟨some 20, .move (.tmp 7), _, _, _, none⟩ hS ?_
            refine tV 1 ⟨some 21, .move (.tmp 20), _, _, _, none⟩ hS ?_
            refine tV 2 ⟨some 22, .move (.tmp 0), _, _, _, some (1, true)⟩ hS ?_
            refine tV 3 ⟨some 23, .move (.tmp 8), _, _, _, some (1, true)⟩ hS ?_
            refine tV 4 ⟨some 24, .indexAddr 22 (.tmp 22) (.tmp 23), _, _, _, some (1, true)⟩ hS ?_
            refine tL 5 ⟨some 25, .load 9 (.tmp 24), _, _, _, some (1, true)⟩ hS ?_
            refine tV 6 ⟨some 26, .move (.tmp 0), _, _, _, some (1, true)⟩ hS ?_
            refine tV 7 ⟨some 27, .move (.tmp 6), _, _, _, some (1, true)⟩ hS ?_
            refine tV 8 ⟨some 28, .indexAddr 22 (.tmp 26) (.tmp 27), _, _, _, some (1, true)⟩ hS ?_
            refine tL 9 ⟨some 29, .load 9 (.tmp 28), _, _, _, some (1, true)⟩ hS ?_
            refine tV 10 ⟨some 30, .binOp .neq 9 (.tmp 25) (.tmp 29) 9, _, _, _, some (1, true)⟩ hS ?_
            refine tV 11 ⟨some 31, .pick (.tmp 21) (.tmp 30) (.const (.bool false)), _, _, _, none⟩ hS ?_
            refine tV 12 ⟨some 7, .assign (.tmp 31), _, _, _, none⟩ hS ?_
            refine wpAnyH_done (by kernel_rfl) ?_ _
            all_goals
              go_wp2
              go_roundw
              case rel => exact ⟨i + 1, hli, by first | rfl | simp, by rw [Hst.out]; rfl, hO⟩
              case measure => simp [intOf] <;> omega
        · obtain rfl : i = k := by omega
          have hck := HCk.out _ hE
          cases hf : (xs.take i).contains x with
          | true =>
            obtain ⟨q1, q2, _⟩ := Hyes.out hf
            have Q1 := SL.hid q1
            have Q2 := SL.hid q2
            clear q1 q2 Hyes Hno
            go_wp2
            go_roundw
            case rel => exact ⟨i + 1, hlt, by first | rfl | simp, by rw [Q1.out], by rw [Q2.out], hE⟩
            case measure => simp [intOf] <;> omega
          | false =>
            obtain ⟨q1, q2, _⟩ := Hno.out hf
            have Q1 := SL.hid q1
            have Q2 := SL.hid q2
            have hK := HK.out
            have hN2 := HN2.out
            have hxl := Hxl.out
            clear q1 q2 Hyes Hno HN2 HK Hxl
            generalize needN (xs.take i) = nn at *
            generalize needK (xs.take i) = kk at *
            have w1 : wrap64 ((nn : Int) + 34) = ((nn + 34 : Nat) : Int) := by unfold wrap64; omega
            have w2 : wrap64 (((nn + 34 : Nat) : Int) + (x.length : Int)) = ((nn + (34 + x.length) : Nat) : Int) := by unfold wrap64; omega
            have w3 : wrap64 ((kk : Int) + 1) = ((kk + 1 : Nat) : Int) := by unfold wrap64; omega
            go_wp2
            go_roundw
            case rel => exact ⟨i + 1, hlt, by first | rfl | simp, by rw [Q1.out]; congr 1; push_cast; omega, by first | (rw [Q2.out]; rfl) | (rw [Q2.out]; simp), hE⟩
            case measure => simp [intOf] <;> omega
    · obtain rfl : k = xs.length := by omega
      have e : xs.take xs.length = xs := List.take_length
      rw [e]
      clear hN hmin hK e
      go_wp2
      refine bodyPost_ret (results_tmp2 rfl _ _ _) rfl ?_
      exact ⟨_, rfl, rfl, hE⟩
end Go.Proofs.YtehfbokkcamliaaDoor
namespace Go.Proofs.YtehfbokkcamliaaDoor
open Go.RowKit Go.SL

def wT1 : Tr := .nd true [] [([120], .nd false [97] []), ([121], .nd false [97] [])]
def wK (n : List UInt8) : Kid := dirKid n (.nd false [97] []) (kidOf ⟨1, [97], []⟩)
theorem wT1_chunks : (nodeC 1 wT1).1 = [⟨1, [97], []⟩, ⟨1, [97], []⟩, ⟨3, [], [wK [120], wK [121]]⟩] := rfl
theorem wT1_wf : Tr.Wf 1 wT1 := by
  refine ⟨by simp [wT1, Tr.dir], by simp [wT1, Tr.data], ?_, by decide, by decide, ?_⟩
  · intro i hi
    have : i = 0 := by simp [wT1, Tr.names, Tr.kids] at hi; omega
    subst this
    show Op.bytesLess [120] [121] = true
    decide
  · intro k hk
    simp only [wT1, Tr.kids, List.mem_cons, List.not_mem_nil, or_false] at hk
    rcases hk with rfl | rfl
    · exact ⟨by decide, rfl, by simp [Tr.dir], by decide⟩
    · exact ⟨by decide, rfl, by simp [Tr.dir], by decide⟩
theorem wT1_out : ∃ cd : List UInt8, cd.length = 82 ∧ (nodeC 1 wT1).1.map putC = [[1, 97], [1, 97], cd] := by
  refine ⟨putC ⟨3, [], [wK [120], wK [121]]⟩, ?_, by rw [wT1_chunks]; rfl⟩
  simp [putC, kidsB, kidB, wK, dirKid, kidOf, sha_len, be_length, Tr.dir, Tr.data]
theorem w_need {cd : List UInt8} (h : cd.length = 82) : needN [[1, 97], [1, 97], cd] = 152 ∧ needK [[1, 97], [1, 97], cd] = 2 := by
  have e : onceT [[1, 97], [1, 97], cd] = [[1, 97], cd] := by
    have hne : ¬ cd = [1, 97] := by
      rintro rfl
      simp at h
    simp [onceT, hne]
  unfold needN needK
  rw [e]
  simp [h]
def wT2 (zs : List UInt8) : Tr := .nd false zs []
theorem wT2_out {zs : List UInt8} (h : zs.length = 241) : ∃ a b c : List UInt8, a.length = 241 ∧ b.length = 2 ∧ c.length = 76 ∧ (nodeC 0 (wT2 zs)).1.map putC = [a, b, c] := by
  have e : blobs zs = [⟨1, zs.take 240, []⟩, ⟨1, (zs.drop 240).take 240, []⟩] := by
    rw [blobs, pcsL, h]
    rfl
  have e2 : (nodeC 0 (wT2 zs)).1 = [⟨1, zs.take 240, []⟩, ⟨1, (zs.drop 240).take 240, []⟩, ⟨2, [], [kidOf ⟨1, zs.take 240, []⟩, kidOf ⟨1, (zs.drop 240).take 240, []⟩]⟩] := by
    rw [nodeC_file (d := 0) (t := wT2 zs) rfl, fileC]
    show blobs zs ++ (tower (blobs zs).length ((blobs zs).map kidOf)).1 = _
    rw [e]
    simp [tower, level, pcsL, pcN, pcAt]
  rw [e2]
  refine ⟨_, _, _, ?_, ?_, ?_, rfl⟩
  · simp [putC, h]
  · simp [putC, h]
  · simp [putC, kidsB, kidB, kidOf, sha_len, be_length]
theorem wT2_wf {zs : List UInt8} (h : zs.length = 241) : Tr.Wf 0 (wT2 zs) := ⟨rfl, by simp [wT2, Tr.dir], by show zs.length ≤ _; omega⟩
end Go.Proofs.YtehfbokkcamliaaDoor
namespace Go.Proofs.YtehfbokkcamliaaDoor
open Go.RowKit Go.SL

theorem zs_fkid : zeroSize Tryd.prog 66 = some 4 := by kernel_rfl
theorem w_mk {ops : Array Oper} {rest : List Oper} {o : Oper} {a : Act} {Q : Exit → Act → World → Prop} {w : World} {l : List HProp} (hE : Ent l w) {x y : Operand} (ho : o.op = .makeSlice 52 x y) (hw : Region.wanted o (yielded ops a.tmps) = true) {kl kc : IntKind} (n : Nat) (hn : n ≤ 1000000)
    (hx : a.eval x = .int kl (n : Int)) (hy : a.eval y = .int kc (n : Int))
    (h : ∀ g w' (zs : List UInt8), zs.length = n → Ent (rowB (some ⟨g, 0, none⟩) n zs :: l) w' → wpList Tryd.prog ops Q rest (a.put o.dst (.slice (some ⟨g, 0, none⟩) n n)) w') : wpList Tryd.prog ops Q (o :: rest) a w := by
  refine wpl_make hE ho hw Tryd.underlying52 (zs := [.int .u8 0]) (size := 1) (bytes := 1) (by kernel_rfl) rfl (by decide) n hx hy (by omega) (by omega) ?_
  intro g w' hE'
  refine h g w' (List.replicate n 0) (List.length_replicate ..) ?_
  have e : (List.replicate n [Value.int IntKind.u8 0]).flatten = bvals (List.replicate n 0) := by
    induction n with
    | zero => rfl
    | succ n ih => simp [List.replicate_succ, bvals, bval] at ih ⊢
  rw [e] at hE'
  simp only [rowB, List.length_replicate]
  exact hE'
theorem w_three {w : World} {b o c : Nat} {x y z : List UInt8} (h : reads (.slice (some ⟨b, o, none⟩) 3 c) 3 [.string ⟨x.toArray⟩, .string ⟨y.toArray⟩, .string ⟨z.toArray⟩] w) :
    w.cell? ⟨b, o, none⟩ = some (.string ⟨x.toArray⟩) ∧ w.cell? ⟨b, o + 1, none⟩ = some (.string ⟨y.toArray⟩) ∧ w.cell? ⟨b, o + 2, none⟩ = some (.string ⟨z.toArray⟩) := by
  obtain ⟨b', o', e, hc⟩ := reads_form h (by decide) (by simp)
  cases e
  exact ⟨hc 0 _ rfl, hc 1 _ rfl, hc 2 _ rfl⟩
theorem w_kids {l : List HProp} {b : Nat} : KidsAt (pt b (.cells #[.string ⟨#[120]⟩, .bool false, .string ⟨#[97]⟩, .slice none 0 0, .string ⟨#[121]⟩, .bool false, .string ⟨#[97]⟩, .slice none 0 0] 66) :: l) (.slice (some ⟨b, 0, none⟩) 2 2) wT1.kids := by
  refine .mk (some ⟨b, 0, none⟩) 2 wT1.kids [.slice none 0 0, .slice none 0 0] (by decide) rfl ?_ ?_
  · exact fun w h => reads_pt h 0 rfl (off := 0) (fun j u hu => by rw [Nat.zero_add, List.getElem?_toArray]; exact hu)
  · intro i h h'
    match i, h with
    | 0, _ => exact KidsAt.nil _
    | 1, _ => exact KidsAt.nil _

set_option maxRecDepth 100000 in
set_option maxHeartbeats 8000000 in
theorem wakes_any {l : List HProp} {w : World} (ht : Knows l KTab) (hf : Knows l FTab) (hE : Ent l w) : Calls Tryd.prog 6 #[] w (Ret fun v w' => v = .bool true ∧ Ent l w') := by
  obtain ⟨cd, hcd, hout⟩ := wT1_out
  have hnd := w_need hcd
  have H1 := SL.hid (fun (L : List HProp) (w : World) (b : Nat) (h : l <:+ L) (hE : Ent (pt b (.cells #[.string ⟨#[120]⟩, .bool false, .string ⟨#[97]⟩, .slice none 0 0, .string ⟨#[121]⟩, .bool false, .string ⟨#[97]⟩, .slice none 0 0] 66) :: L) w) =>
    show Calls Tryd.prog 13 #[.agg #[.bool true, .string ⟨#[]⟩, .slice (some ⟨b, 0, none⟩) 2 2]] w (Ret fun u w' => ∃ ao c, u = .slice ao 3 c ∧ Ent (row 9 1 (.slice ao 3 c) 3 [.string ⟨#[1, 97]⟩, .string ⟨#[1, 97]⟩, .string ⟨cd.toArray⟩] :: pt b (.cells #[.string ⟨#[120]⟩, .bool false, .string ⟨#[97]⟩, .slice none 0 0, .string ⟨#[121]⟩, .bool false, .string ⟨#[97]⟩, .slice none 0 0] 66) :: L) w') from by
      have h1 := Cut_any (d := 1) (t := wT1) (by decide) wT1_wf (ht.suf (h.trans (List.suffix_cons _ _))) (hf.suf (h.trans (List.suffix_cons _ _))) (w_kids (l := L) (b := b)) hE
      rw [hout] at h1
      exact h1)
  have H2 := SL.hid (fun (zs : List UInt8) (hz : zs.length = 241) => wT2_out hz)
  have H3 := SL.hid (fun (zs : List UInt8) (hz : zs.length = 241) (x y z : List UInt8) (ho : (nodeC 0 (wT2 zs)).1.map putC = [x, y, z]) (L : List HProp) (w : World) (h : l <:+ L) (hE : Ent L w) =>
    show Calls Tryd.prog 13 #[.agg #[.bool false, .string ⟨zs.toArray⟩, .slice none 0 0]] w (Ret fun u w' => ∃ ao c, u = .slice ao 3 c ∧ Ent (row 9 1 (.slice ao 3 c) 3 [.string ⟨x.toArray⟩, .string ⟨y.toArray⟩, .string ⟨z.toArray⟩] :: L) w') from by
      have h1 := Cut_any (d := 0) (t := wT2 zs) (by decide) (wT2_wf hz) (ht.suf h) (hf.suf h) (KidsAt.nil L) hE
      rw [ho] at h1
      exact h1)
  have H4 := SL.hid (fun (L : List HProp) (w : World) (ao : Option Addr) (c : Nat) (hr : Knows L (reads (.slice ao 3 c) 3 [.string ⟨#[1, 97]⟩, .string ⟨#[1, 97]⟩, .string ⟨cd.toArray⟩])) (hE : Ent L w) =>
    show Calls Tryd.prog 7 #[.slice ao 3 c] w (Ret fun v w' => v = .tuple #[.int .i64 152, .int .i64 2] ∧ Ent L w') from by
      have h1 := Need_any (xs := [[1, 97], [1, 97], cd]) (by simp) (by
        intro s hs
        simp only [List.mem_cons, List.not_mem_nil, or_false] at hs
        rcases hs with rfl | rfl | rfl
        · decide
        · decide
        · omega) hr hE
      rw [hnd.1, hnd.2] at h1
      exact h1)
  clear hout hnd ht hf
  have Hcd := SL.hid hcd
  clear hcd
  have A1 := SL.hid True.intro
  go_enter Tryd.func6, Tryd.ntmps6
  go_wp2_with (first
    | go_skip
    | ((with_reducible (show Go.wpList _ _ _ (Go.Oper.mk _ (.buildSlice _ _ _) _ _ _ _ :: _) _ _)); refine wpl_build2 hE rfl rfl (xs := [.string ⟨#[120]⟩, .bool false, .string ⟨#[97]⟩, .slice none 0 0]) (ys := [.string ⟨#[121]⟩, .bool false, .string ⟨#[97]⟩, .slice none 0 0]) rfl rfl Tryd.underlying30 zs_fkid Tryd.sizeOf66 (by decide) (by decide) rfl rfl ?_; clear hE; intro b w1 hE; simp only [List.cons_append, List.nil_append] at hE)
    | (go_at_call 13; clear A1; refine (H1.out _ _ b sfx hE).mono ?_; clear hE H1; rintro e w5 ⟨v, rfl, a1, c1, rfl, hE⟩)
    | ((with_reducible (show Go.wpList _ _ _ (Go.Oper.mk _ (.makeSlice _ _ _) _ _ _ _ :: _) _ _)); refine w_mk hE rfl rfl 241 (by decide) rfl rfl ?_; clear hE; intro g w6 zs hz hE; obtain ⟨x, y, z, hx, hy, hzl, hout⟩ := H2.out zs hz)
    | ((with_reducible (show Go.wpList _ _ _ (Go.Oper.mk _ (.convert 52 9 _) _ _ _ _ :: _) _ _)); refine wpl_bytesStr (bs := zs) rfl rfl rfl Tryd.underlying52 Tryd.underlying5 Tryd.underlying9 (by have h := reads_row hE 0 rfl; rw [hz] at h; exact h) hz.symm ?_)
    | (go_at_call 13; refine (H3.out zs hz x y z hout _ _ sfx hE).mono ?_; clear hE H3; rintro e w5 ⟨v, rfl, a2, c2, rfl, hE⟩)
    | (go_at_call 7; refine (H4.out _ _ a1 c1 (fun w h => reads_row h 2 rfl) hE).mono ?_; clear hE H4; rintro e w5 ⟨v, rfl, rfl, hE⟩))
  obtain ⟨p1, o1, rfl, _⟩ := reads_form (reads_row hE 2 rfl) (by decide) (by simp)
  obtain ⟨p2, o2, rfl, _⟩ := reads_form (reads_row hE 0 rfl) (by decide) (by simp)
  have hcd := Hcd.out
  have hO := hE.drew
  clear hz hout H2
  refine wp_region_held_drew (S := (fun w' => (w'.cell? ⟨p1, o1, none⟩ = some (.string ⟨#[1, 97]⟩)) ∧ (w'.cell? ⟨p1, o1 + 1, none⟩ = some (.string ⟨#[1, 97]⟩)) ∧ (w'.cell? ⟨p1, o1 + 2, none⟩ = some (.string ⟨cd.toArray⟩)) ∧ (w'.cell? ⟨p2, o2, none⟩ = some (.string ⟨x.toArray⟩)) ∧ (w'.cell? ⟨p2, o2 + 1, none⟩ = some (.string ⟨y.toArray⟩)) ∧ (w'.cell? ⟨p2, o2 + 2, none⟩ = some (.string ⟨z.toArray⟩)))) (by kernel_rfl) ⟨(w_three (x := [1, 97]) (y := [1, 97]) (z := cd) (reads_row hO 2 rfl)).1, (w_three (x := [1, 97]) (y := [1, 97]) (z := cd) (reads_row hO 2 rfl)).2.1, (w_three (x := [1, 97]) (y := [1, 97]) (z := cd) (reads_row hO 2 rfl)).2.2, (w_three (reads_row hO 0 rfl)).1, (w_three (reads_row hO 0 rfl)).2.1, (w_three (reads_row hO 0 rfl)).2.2⟩ (fun hS => ?_)
  refine tV 0 ⟨some 21, .move (.tmp 1), _, _, _, none⟩ hS ?_
  refine tV 1 ⟨some 22, .call { callee := .builtin .len, args := #[.tmp 21], argTypes := #[22] }, _, _, _, none⟩ hS ?_
  refine tV 2 ⟨some 23, .binOp .eql 3 (.tmp 22) (.const (.int .i64 3)) 3, _, _, _, none⟩ hS ?_
  refine tV 3 ⟨some 24, .move (.tmp 23), _, _, _, none⟩ hS ?_
  refine tV 4 ⟨some 25, .move (.tmp 1), _, _, _, some (3, true)⟩ hS ?_
  refine tV 5 ⟨some 26, .indexAddr 22 (.tmp 25) (.const (.int .i64 0)), _, _, _, some (3, true)⟩ hS ?_
  refine tL 6 ⟨some 27, .load 9 (.tmp 26), _, _, _, some (3, true)⟩ hS ?_
  refine tV 7 ⟨some 28, .binOp .eql 9 (.tmp 27) (.const (.string { data := #[1, 97] })) 9, _, _, _, some (3, true)⟩ hS ?_
  refine tV 8 ⟨some 29, .pick (.tmp 24) (.tmp 28) (.const (.bool false)), _, _, _, none⟩ hS ?_
  refine tV 9 ⟨some 30, .move (.tmp 29), _, _, _, none⟩ hS ?_
  refine tV 10 ⟨some 31, .move (.tmp 1), _, _, _, some (9, true)⟩ hS ?_
  refine tV 11 ⟨some 32, .indexAddr 22 (.tmp 31) (.const (.int .i64 1)), _, _, _, some (9, true)⟩ hS ?_
  refine tL 12 ⟨some 33, .load 9 (.tmp 32), _, _, _, some (9, true)⟩ hS ?_
  refine tV 13 ⟨some 34, .move (.tmp 1), _, _, _, some (9, true)⟩ hS ?_
  refine tV 14 ⟨some 35, .indexAddr 22 (.tmp 34) (.const (.int .i64 0)), _, _, _, some (9, true)⟩ hS ?_
  refine tL 15 ⟨some 36, .load 9 (.tmp 35), _, _, _, some (9, true)⟩ hS ?_
  refine tV 16 ⟨some 37, .binOp .eql 9 (.tmp 33) (.tmp 36) 9, _, _, _, some (9, true)⟩ hS ?_
  refine tV 17 ⟨some 38, .pick (.tmp 30) (.tmp 37) (.const (.bool false)), _, _, _, none⟩ hS ?_
  refine tV 18 ⟨some 39, .move (.tmp 38), _, _, _, none⟩ hS ?_
  refine tV 19 ⟨some 40, .move (.tmp 1), _, _, _, some (18, true)⟩ hS ?_
  refine tV 20 ⟨some 41, .indexAddr 22 (.tmp 40) (.const (.int .i64 2)), _, _, _, some (18, true)⟩ hS ?_
  refine tL 21 ⟨some 42, .load 9 (.tmp 41), _, _, _, some (18, true)⟩ hS ?_
  refine tV 22 ⟨some 43, .call { callee := .builtin .len, args := #[.tmp 42], argTypes := #[9] }, _, _, _, some (18, true)⟩ hS ?_
  refine tV 23 ⟨some 44, .binOp .eql 3 (.tmp 43) (.const (.int .i64 82)) 3, _, _, _, some (18, true)⟩ hS ?_
  refine tV 24 ⟨some 45, .pick (.tmp 39) (.tmp 44) (.const (.bool false)), _, _, _, none⟩ hS ?_
  refine tV 25 ⟨some 46, .move (.tmp 45), _, _, _, none⟩ hS ?_
  refine tV 26 ⟨some 47, .move (.tmp 2), _, _, _, some (25, true)⟩ hS ?_
  refine tV 27 ⟨some 48, .call { callee := .builtin .len, args := #[.tmp 47], argTypes := #[22] }, _, _, _, some (25, true)⟩ hS ?_
  refine tV 28 ⟨some 49, .binOp .eql 3 (.tmp 48) (.const (.int .i64 3)) 3, _, _, _, some (25, true)⟩ hS ?_
  refine tV 29 ⟨some 50, .pick (.tmp 46) (.tmp 49) (.const (.bool false)), _, _, _, none⟩ hS ?_
  refine tV 30 ⟨some 51, .move (.tmp 50), _, _, _, none⟩ hS ?_
  refine tV 31 ⟨some 52, .move (.tmp 2), _, _, _, some (30, true)⟩ hS ?_
  refine tV 32 ⟨some 53, .indexAddr 22 (.tmp 52) (.const (.int .i64 0)), _, _, _, some (30, true)⟩ hS ?_
  refine tL 33 ⟨some 54, .load 9 (.tmp 53), _, _, _, some (30, true)⟩ hS ?_
  refine tV 34 ⟨some 55, .call { callee := .builtin .len, args := #[.tmp 54], argTypes := #[9] }, _, _, _, some (30, true)⟩ hS ?_
  refine tV 35 ⟨some 56, .binOp .eql 3 (.tmp 55) (.const (.int .i64 241)) 3, _, _, _, some (30, true)⟩ hS ?_
  refine tV 36 ⟨some 57, .pick (.tmp 51) (.tmp 56) (.const (.bool false)), _, _, _, none⟩ hS ?_
  refine tV 37 ⟨some 58, .move (.tmp 57), _, _, _, none⟩ hS ?_
  refine tV 38 ⟨some 59, .move (.tmp 2), _, _, _, some (37, true)⟩ hS ?_
  refine tV 39 ⟨some 60, .indexAddr 22 (.tmp 59) (.const (.int .i64 1)), _, _, _, some (37, true)⟩ hS ?_
  refine tL 40 ⟨some 61, .load 9 (.tmp 60), _, _, _, some (37, true)⟩ hS ?_
  refine tV 41 ⟨some 62, .call { callee := .builtin .len, args := #[.tmp 61], argTypes := #[9] }, _, _, _, some (37, true)⟩ hS ?_
  refine tV 42 ⟨some 63, .binOp .eql 3 (.tmp 62) (.const (.int .i64 2)) 3, _, _, _, some (37, true)⟩ hS ?_
  refine tV 43 ⟨some 64, .pick (.tmp 58) (.tmp 63) (.const (.bool false)), _, _, _, none⟩ hS ?_
  refine tV 44 ⟨some 65, .move (.tmp 64), _, _, _, none⟩ hS ?_
  refine tV 45 ⟨some 66, .move (.tmp 2), _, _, _, some (44, true)⟩ hS ?_
  refine tV 46 ⟨some 67, .indexAddr 22 (.tmp 66) (.const (.int .i64 2)), _, _, _, some (44, true)⟩ hS ?_
  refine tL 47 ⟨some 68, .load 9 (.tmp 67), _, _, _, some (44, true)⟩ hS ?_
  refine tV 48 ⟨some 69, .call { callee := .builtin .len, args := #[.tmp 68], argTypes := #[9] }, _, _, _, some (44, true)⟩ hS ?_
  refine tV 49 ⟨some 70, .binOp .eql 3 (.tmp 69) (.const (.int .i64 76)) 3, _, _, _, some (44, true)⟩ hS ?_
  refine tV 50 ⟨some 71, .pick (.tmp 65) (.tmp 70) (.const (.bool false)), _, _, _, none⟩ hS ?_
  refine tV 51 ⟨some 72, .move (.tmp 71), _, _, _, none⟩ hS ?_
  refine tV 52 ⟨some 73, .move (.tmp 3), _, _, _, some (51, true)⟩ hS ?_
  refine tV 53 ⟨some 74, .binOp .eql 3 (.tmp 73) (.const (.int .i64 152)) 3, _, _, _, some (51, true)⟩ hS ?_
  refine tV 54 ⟨some 75, .pick (.tmp 72) (.tmp 74) (.const (.bool false)), _, _, _, none⟩ hS ?_
  refine tV 55 ⟨some 76, .move (.tmp 75), _, _, _, none⟩ hS ?_
  refine tV 56 ⟨some 77, .move (.tmp 4), _, _, _, some (55, true)⟩ hS ?_
  refine tV 57 ⟨some 78, .binOp .eql 3 (.tmp 77) (.const (.int .i64 2)) 3, _, _, _, some (55, true)⟩ hS ?_
  refine tV 58 ⟨some 79, .pick (.tmp 76) (.tmp 78) (.const (.bool false)), _, _, _, none⟩ hS ?_
  refine tV 59 ⟨some 0, .assign (.tmp 79), _, _, _, none⟩ hS ?_
  refine wpAnyH_done (by kernel_rfl) ?_ _
  all_goals
    go_wp2
    refine bodyPost_ret (results_tmp rfl _ _ _) rfl ?_
    exact ⟨_, rfl, rfl, hO.tail.tail.tail.tail⟩
end Go.Proofs.YtehfbokkcamliaaDoor
namespace Go.Proofs.YtehfbokkcamliaaDoor
open Go.RowKit Go.SL

theorem laidMet_tail {P : Program} {x : String × DataW Unit} {rest : List (String × DataW Unit)} {W : World} (h : laidMet P (x :: rest) W) : laidMet P rest W := by
  obtain ⟨ps, ⟨g, t, cs, fuel, p, q, h1, h2, h3, h4, hq, rfl⟩, hnd, hrows⟩ := h
  exact ⟨q, hq, (List.nodup_append.1 hnd).2.1, fun b off hp => hrows b off (List.mem_append_right _ hp)⟩

def kI : List Int := [1116352408, 1899447441, 3049323471, 3921009573, 961987163, 1508970993, 2453635748, 2870763221, 3624381080, 310598401, 607225278, 1426881987, 1925078388, 2162078206, 2614888103, 3248222580, 3835390401, 4022224774, 264347078, 604807628, 770255983, 1249150122, 1555081692, 1996064986, 2554220882, 2821834349, 2952996808, 3210313671, 3336571891, 3584528711, 113926993, 338241895, 666307205, 773529912, 1294757372, 1396182291, 1695183700, 1986661051, 2177026350, 2456956037, 2730485921, 2820302411, 3259730800, 3345764771, 3516065817, 3600352804, 4094571909, 275423344, 430227734, 506948616, 659060556, 883997877, 958139571, 1322822218, 1537002063, 1747873779, 1955562222, 2024104815, 2227730452, 2361852424, 2428436474, 2756734187, 3204031479, 3329325298]
def firstI : List Int := [1779033703, 3144134277, 1013904242, 2773480762, 1359893119, 2600822924, 528734635, 1541459225]
theorem kI_same : ∀ i, i < 64 → kI.getD i 0 = ((kTab.getD i 0 : Nat) : Int) := by decide
theorem firstI_same : ∀ i, i < 8 → firstI.getD i 0 = ((hFirst.list.getD i 0 : Nat) : Int) := by decide

theorem ktab_of {W : World} (h : Lib.TabIs Tryd.prog W "armarium/sha.k" .u32 kI) (hg : Tryd.prog.globalNamed "armarium/sha.k" = some 1) : KTab W := fun i hi => by
  have := h.cell hg i (by simpa [kI] using hi)
  rwa [kI_same i hi] at this
theorem ftab_of {W : World} (h : Lib.TabIs Tryd.prog W "armarium/sha.first" .u32 firstI) (hg : Tryd.prog.globalNamed "armarium/sha.first" = some 0) : FTab W := fun i u hu => by
  have hi : i < 8 := by simpa [W8.list] using (List.getElem?_eq_some_iff.1 hu).1
  have := h.cell hg i (by simpa [firstI] using hi)
  rw [firstI_same i hi] at this
  rw [Addr.add_lit, Nat.zero_add, this]
  have h2 := u32_cell (r := hFirst.list) (k := i) hi
  rw [List.getElem?_toArray, hu] at h2
  exact h2.symm

theorem knows_ktab {W : World} (h : KTab W) : Knows [rest W fun _ => False] KTab := fun w hE i hi => by
  rw [(hE.below 0 rfl).cell (cell_lt (h i hi))]
  exact h i hi
theorem knows_ftab {W : World} (h : FTab W) : Knows [rest W fun _ => False] FTab := fun w hE i u hu => by
  rw [(hE.below 0 rfl).cell (cell_lt (h i u hu))]
  exact h i u hu
section
open Go.ChangeShapes Go.WideShapes Go.Deep
variable {H : Type} {enc : TypeId × Value → H} {w : World} {held : Bool}

set_option maxRecDepth 100000 in
theorem open_texts {r : Reach} {b0 : Nat} {v : Value} {d : DataW H} {ps : List MemPlace} (hval : Value.okWide Tryd.prog w r b0 22 v) (h : DataW.Trod enc Tryd.prog w 0 (fun _ => true) held 22 v d ps) :
    ∃ (ao : Option Addr) (c : Nat) (xs : List (List UInt8)), v = .slice ao xs.length c ∧ xs.length ≤ c ∧ c ≤ maxLen ∧ (∀ x ∈ xs, (fun _ => True) x) ∧ reads v xs.length (xs.map txv) w := by
  obtain ⟨ao, c, xs, h1, h2, h3, h4, h5⟩ := open_row Tryd.underlying22 (fun x : List UInt8 => [txv x]) (fun _ => True) (k := 1) (fun _ => rfl) (by omega) (by kernel_rfl) hval h (fun m cs y hl hy => by
    obtain ⟨s, e0, _, _⟩ := DataW.trod_string Tryd.underlying9 hy
    subst e0
    exact ⟨s.data.toList, trivial, rfl⟩)
  refine ⟨ao, c, xs, h1, h2, h3, h4, ?_⟩
  have e : ∀ l : List (List UInt8), l.flatMap (fun x => [txv x]) = l.map txv := by
    intro l
    induction l with
    | nil => rfl
    | cons x l ih => simp [List.flatMap_cons, ih]
  rwa [e] at h5
end

end Go.Proofs.YtehfbokkcamliaaDoor
namespace Go.Proofs.YtehfbokkcamliaaDoor
open Go.RowKit Go.SL

def CnRel (xs : List (List UInt8)) (l : List HProp) (i : Value) (wr : World) : Prop := ∃ k : Nat, k ≤ xs.length ∧ i = .int .i64 k ∧ (∀ s ∈ xs.take k, s.length ≤ 500) ∧ Ent l wr

set_option maxRecDepth 100000 in
set_option maxHeartbeats 4000000 in
theorem CutNeeds_any {xs : List (List UInt8)} {ao : Option Addr} {c : Nat} {l : List HProp} {w : World} (ht : Knows l KTab) (hf : Knows l FTab) (hk : Knows l (reads (.slice ao xs.length c) xs.length (xs.map txv))) (hE : Ent l w) :
    Calls Tryd.prog 3 #[.slice ao xs.length c] w (Ret fun v w' => v = .bool true ∧ Ent l w') := by
  have HW := SL.hid (fun (w : World) (hE : Ent l w) => wakes_any ht hf hE)
  have Hk := SL.hid hk
  clear ht hf hk
  cases h60 : decide ((60 : Int) < (xs.length : Int)) with
  | true =>
    go_enter Tryd.func3, Tryd.ntmps3
    go_wp2_with (first
      | go_skip
      | (go_at_call 6; refine (HW.out _ hE).mono ?_; clear hE; rintro e w5 ⟨v, rfl, rfl, hE⟩))
    refine bodyPost_ret (results_tmp rfl _ _ _) rfl ?_
    exact ⟨_, rfl, rfl, hE⟩
  | false =>
    have hn : xs.length ≤ 60 := by have := of_decide_eq_false h60; omega
    go_enter Tryd.func3, Tryd.ntmps3
    go_wp2
    clear h60
    go_loopw [3] (fun i wr => CnRel xs l i wr) (fun i _ => xs.length - (intOf i).toNat)
    case atStart => exact ⟨0, Nat.zero_le _, rfl, by simp, hE⟩
    case round =>
      clear hE
      obtain ⟨k, hkn, rfl, hs, hE⟩ := hrel
      by_cases hlt : k < xs.length
      · obtain ⟨b, off, rfl, hcell⟩ := tx_at (Hk.out _ hE) hlt
        have htk := List.take_succ_eq_append_getElem hlt
        generalize xs[k] = x at *
        have Htk := SL.hid htk
        have Hs := SL.hid hs
        clear htk hs
        cases h5 : decide ((500 : Int) < (x.length : Int)) with
        | true =>
          go_wp2_with (first
            | go_skip
            | (go_at_call 6; refine (HW.out _ hE).mono ?_; clear hE; rintro e w5 ⟨v, rfl, rfl, hE⟩))
          refine bodyPost_ret (results_tmp rfl _ _ _) rfl ?_
          exact ⟨_, rfl, rfl, hE⟩
        | false =>
          have hx5 : x.length ≤ 500 := by have := of_decide_eq_false h5; omega
          have Hx5 := SL.hid hx5
          clear hx5
          go_wp2
          go_roundw
          case rel =>
            refine ⟨k + 1, hlt, by first | rfl | simp, ?_, hE⟩
            rw [Htk.out]
            intro s hm
            rw [List.mem_append, List.mem_singleton] at hm
            rcases hm with hm | rfl
            · exact Hs.out s hm
            · exact Hx5.out
          case measure => simp [intOf] <;> omega
      · obtain rfl : k = xs.length := by omega
        have e : xs.take xs.length = xs := List.take_length
        rw [e] at hs
        have HN := SL.hid (fun (w : World) (hE : Ent l w) => Need_any (by omega) (fun s h => Nat.le_trans (hs s h) (by omega)) Hk.out hE)
        have HR := SL.hid (fun (w : World) (hE : Ent l w) => rNeed_any (by omega) (fun s h => Nat.le_trans (hs s h) (by omega)) Hk.out hE)
        clear hs e
        generalize needN xs = nn at *
        generalize needK xs = kk at *
        go_wp2_with (first
          | go_skip
          | (go_at_call 7; refine (HN.out _ hE).mono ?_; clear hE; rintro e w5 ⟨v, rfl, rfl, hE⟩)
          | (go_at_call 8; refine (HR.out _ hE).mono ?_; clear hE; rintro e w5 ⟨v, rfl, rfl, hE⟩)
          | (go_at_call 6; refine (HW.out _ hE).mono ?_; clear hE; rintro e w5 ⟨v, rfl, rfl, hE⟩))
        refine bodyPost_ret (results_tmp rfl _ _ _) rfl ?_
        exact ⟨_, rfl, rfl, hE⟩
end Go.Proofs.YtehfbokkcamliaaDoor
