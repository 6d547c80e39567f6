/-
  A chunk is put: its bytes behind the others, and what a parent has of it. Printed by gen_cu5.py.
-/
import Derived.Test.YtehfbokkcamliaaDoorCutCF3
import Derived.Deep.RegionHeld3
import Derived.Laws.BitsLemmas
import Derived.WalkKit
namespace Go.Proofs.YtehfbokkcamliaaDoor
open Go.RowKit Go.SL

theorem kid_len {d : Bool} {k : Kid} (h : k.good) (hn : k.name.length ≤ 16) : (kidB d k).length ≤ 100 := by
  unfold kidB
  have h1 := h.1
  cases d <;> simp [be_length, h1] <;> omega
theorem put_len {c : Chunk} (hg : c.good) (hm : mayC c = true) : (putC c).length ≤ 1000 := by
  obtain ⟨u, data, ks⟩ := c
  have h6 : ks.length ≤ 6 := mayC_kids hm
  unfold putC
  cases h1 : u == 1 with
  | true =>
    obtain rfl : u = 1 := by simpa using h1
    have := (mayC_1 hm).2
    simp only [if_true, List.length_cons]
    omega
  | false =>
    have hn : ∀ k ∈ ks, k.name.length ≤ 16 := by
      intro k hk
      have h2 := hm
      simp only [mayC, Bool.and_eq_true, h1, Bool.false_eq_true, if_false] at h2
      have h3 := h2.2
      split at h3
      · simp only [Bool.and_eq_true, List.all_eq_true] at h3
        have := h3.1.1.1 k hk
        unfold plainK at this
        simp only [Bool.and_eq_true, List.isEmpty_iff] at this
        rw [this.1]
        simp
      · split at h3
        · simp only [Bool.and_eq_true, List.all_eq_true] at h3
          obtain ⟨i, hi, rfl⟩ := List.getElem_of_mem hk
          have := h3.1 i (List.mem_range.2 hi)
          unfold dirOk at this
          rw [List.getElem?_eq_getElem hi] at this
          simp only [Bool.and_eq_true, decide_eq_true_eq] at this
          exact this.1.2
        · cases h3
    have hk : ∀ (ks : List Kid), (∀ k ∈ ks, k.good) → (∀ k ∈ ks, k.name.length ≤ 16) → (kidsB (u == 3) ks).length ≤ ks.length * 100 := by
      intro ks
      induction ks with
      | nil => intro _ _; simp [kidsB]
      | cons k ks ih =>
        intro h1 h2
        have a := kid_len (d := u == 3) (h1 k (List.mem_cons_self ..)) (h2 k (List.mem_cons_self ..))
        have b := ih (fun x hx => h1 x (List.mem_cons_of_mem _ hx)) (fun x hx => h2 x (List.mem_cons_of_mem _ hx))
        simp only [kidsB, List.flatMap_cons, List.length_append, List.length_cons] at b ⊢
        omega
    have := hk ks hg hn
    simp only [Bool.false_eq_true, if_false, List.length_cons]
    omega

abbrev rowT (ao : Option Addr) (c : Nat) (xs : List (List UInt8)) : HProp := row 9 1 (.slice ao xs.length c) xs.length (xs.map fun s => .string ⟨s.toArray⟩)
/-- the cutter, and the bytes that it has put -/
def xOut (bx : Nat) (out : List (List UInt8)) : HProp := ex fun z : Option Addr × Nat => [pt bx (.cells #[.slice z.1 out.length z.2, .bool false] 76), rowT z.1 z.2 out]
theorem info_text : elemInfo Tryd.prog 9 = some (some 1, 1, 16) := by kernel_rfl
theorem built_text (s : ByteArray) (w : World) : (Instr.buildSlice 22 1 #[(0, .string s)]).run Tryd.prog w = .ok (.slice (some ⟨w.heap.size, 0, none⟩) 1 1) (w.alloc (.cells #[.string s] 9)) := by
  simp [go_sem]
theorem hgtB_eq (c : Chunk) : hgtB c.kind c.kids = hgt c := by
  unfold hgtB hgt; rfl
theorem Ent.kid0 {l : List HProp} {w : World} {b : Nat} {cs : List Value} {T : TypeId} (hE : Ent (pt b (.cells cs.toArray T (0, 0)) :: l) w) : Ent l w := hE.tail

set_option maxRecDepth 100000 in
set_option maxHeartbeats 8000000 in
attribute [-go_sem] Instr.build Instr.loadAt in
theorem put_any {u : UInt8} {data : List UInt8} {ks : List Kid} {ao : Option Addr} {c : Nat} (hg : ∀ k ∈ ks, k.good) (hm : mayC ⟨u, data, ks⟩ = true) (hs : csize ⟨u, data, ks⟩ < 4294967296) {bx : Nat} {out : List (List UInt8)} (ho : out.length ≤ 1000000000000) {l : List HProp} {w : World}
    (ht : Knows l KTab) (hf : Knows l FTab) (hk : Knows l (reads (.slice ao ks.length c) ks.length (kidCells ks))) (hE : Ent (xOut bx out :: l) w) :
    Calls Tryd.prog 54 #[.pointer (some ⟨bx, 0, none⟩), .agg #[.int .u8 u.toNat, .string ⟨data.toArray⟩, .slice ao ks.length c]] w
      (Ret fun v w' => v = .agg (kcells (kidOf ⟨u, data, ks⟩)).toArray ∧ Ent (xOut bx (out ++ [putC ⟨u, data, ks⟩]) :: l) w') := by
  obtain ⟨⟨ax, cx⟩, hE'⟩ := Ent.unpack hE
  replace hE : Ent (pt bx (.cells #[.slice ax out.length cx, .bool false] 76) :: rowT ax cx out :: l) w := hE'
  clear hE'
  have h6 : ks.length ≤ 6 := mayC_kids hm
  have hh : hgt ⟨u, data, ks⟩ ≤ 255 := by
    simp only [mayC, Bool.and_eq_true, decide_eq_true_eq] at hm
    exact hm.1.1
  have hdl : data.length ≤ 1099511627776 := by
    cases h1 : u == 1 with
    | true =>
      obtain rfl : u = 1 := by simpa using h1
      have := (mayC_1 hm).2
      omega
    | false =>
      rw [(mayC_not1 h1 hm).1]
      simp
  have hpl := put_len (c := ⟨u, data, ks⟩) hg hm
  have HP := SL.hid (fun (L : List HProp) (w : World) (hE : Ent L w) (hl : l <:+ L) => cPut_yes hg hm hE (hk.suf hl))
  have HH := SL.hid (fun (L : List HProp) (w : World) (hE : Ent L w) (hl : l <:+ L) => Height_any (u := u) (data := data) hg (by omega) hE (hk.suf hl))
  have HZ := SL.hid (fun (L : List HProp) (w : World) (hE : Ent L w) (hl : l <:+ L) => Size_any (u := u) (data := data) hg (by omega) hdl hE (hk.suf hl))
  have hkid := kidOf_good (c := ⟨u, data, ks⟩) hs
  have Hhgt := SL.hid (kidOf_height hh)
  have Hbuild := SL.hid (show ∀ w, (Instr.build 55 #[(2, .agg (bvals (shaV (putC ⟨u, data, ks⟩))).toArray), (3, .int .u8 ((hgt ⟨u, data, ks⟩ : Nat) : Int)), (4, .int .u32 ((csize ⟨u, data, ks⟩ : Nat) : Int))]).run Tryd.prog w = .ok (.agg (kcells (kidOf ⟨u, data, ks⟩)).toArray) w from fun w => by
    have := run_built_kid hkid w
    rw [Hhgt.out] at this
    exact this)
  have Hlen := SL.hid (kcells_len hkid)
  have Hone := SL.hid (kcells_one (kidOf ⟨u, data, ks⟩))
  have e1 : hgtB u ks = hgt ⟨u, data, ks⟩ := rfl
  have e2 : sizeB u data ks = csize ⟨u, data, ks⟩ := rfl
  simp only [e1] at HH
  simp only [e2] at HZ
  generalize putC ⟨u, data, ks⟩ = bs at *
  generalize kcells (kidOf ⟨u, data, ks⟩) = kx at *
  generalize csize ⟨u, data, ks⟩ = zz at *
  generalize hgt ⟨u, data, ks⟩ = hg8 at *
  have HS := SL.hid (fun (L : List HProp) (w : World) (an : Option Addr) (cn : Nat) (hc : bs.length ≤ cn) (hl : l <:+ L) (hr : Knows L (reads (.slice an bs.length cn) bs.length (bvals bs))) (hE : Ent L w) => Sum_any (by omega) hc (ht.suf hl) (hf.suf hl) hr hE)
  have z1 : IntKind.u8.wrap (hg8 : Int) = (hg8 : Int) := by rw [IntKind.wrap_u8]; omega
  have z2 : (hg8 : Int) % 256 = (hg8 : Int) := by omega
  have z3 : IntKind.u32.wrap (zz : Int) = (zz : Int) := by rw [IntKind.wrap_u32]; omega
  have z4 : (zz : Int) % 4294967296 = (zz : Int) := by omega
  have Hpl := SL.hid hpl
  have Ho := SL.hid ho
  clear hpl ho hh hdl h6 e1 e2 hkid Hhgt hg hm hs hk ht hf
  go_enter Tryd.func54, Tryd.ntmps54
  go_wp2_with (first
    | go_skip
    | (refine bxX hE ?_; clear hE; intro b3 w hE)
    | ((with_reducible (show Go.wpList _ _ _ (Go.Oper.mk _ (.alloc 55) _ _ _ _ :: _) _ _)); refine wpl_allocN hE rfl rfl (n := 36) (by kernel_rfl) ?_; clear hE; intro b4 cs w1 hq hE)
    | (refine lwX (t := 49) hE Tryd.isAgg49 Tryd.sizeOf49 ?_)
    | (go_at_call 35; refine (HP.out _ _ hE sfx).mono ?_; clear hE; rintro e w5 ⟨v, rfl, ab, cb, rfl, hE⟩))
  have hcb := cap_row hE 0 rfl
  have Hq := SL.hid (show cs.toArray.size = 36 by simpa using hq)
  clear hq
  have hO := hE.drew
  have ho := Ho.out
  refine wp_region_held_drew (S := fun _ => True) (by kernel_rfl) trivial (fun hS => ?_)
  refine tV 0 hS ?_; refine tV 1 hS ?_; refine tV 2 hS ?_; refine tV 3 hS ?_; refine tV 5 hS ?_
  refine wpAnyH_ready (rs := [4, 6]) (by kernel_rfl) (by simp) ?_
  refine (AllReadyH.cons (o := ⟨some 22, .load 22 (.tmp 21), _, _, _, none⟩) rfl (fun K hK => ?_) (AllReadyH.cons (o := ⟨some 24, .convert 52 9 (.tmp 23), _, _, _, none⟩) rfl (fun K hK => ?_) AllReadyH.nil))
  focus
    ((first | refine step_load1 hO 3 rfl rfl (by rfl) (by rfl) (by simp [go_sem]) rfl ?_ | refine step_load1 hO 4 rfl rfl (by rfl) (by rfl) (by simp [go_sem]) rfl ?_))
    refine tK hK trivial (fun hS => ?_); clear hK K
    refine tO 6 (fun K hK => ?_)
    (refine stp_bytesStr rfl (by rfl) (by rfl) Tryd.underlying52 Tryd.underlying5 Tryd.underlying9 (reads_row hO 0 rfl) rfl ?_)
    refine tK hK trivial (fun hS => ?_); clear hK K
    refine tO 7 (fun K hK => ?_)
    (refine stp_buildC hO rfl (by rfl) (by rfl) (built_text _ _) ?_; clear hO; intro b9 w7 hO)
    refine tK hK trivial (fun hS => ?_); clear hK K
    refine tO 8 (fun K hK => ?_)
    (refine step_appendG hO 5 rfl rfl (by rfl) (by rfl) (by rfl) Tryd.underlying22 info_text (by decide) (m := 1) (news := [.string ⟨bs.toArray⟩]) (reads_pt hO 0 rfl (off := 0) (fun j u hu => by rw [Nat.zero_add, List.getElem?_toArray]; exact hu)) rfl (by simp [Value.oneCell']) (by omega) (by omega) ?_; clear hO; intro an cn w8 hO; simp only [List.set_cons_zero, List.set_cons_succ] at hO)
    refine tK hK trivial (fun hS => ?_); clear hK K
    refine tV 9 hS ?_; refine tV 10 hS ?_
    refine tO 11 (fun K hK => ?_)
    (refine stp_setC hO 4 rfl rfl (by rfl) (by rfl) (by rfl) Tryd.sizeOf22 rfl rfl (by simp) ?_; clear hO; intro w9 hO; simp only [List.set_cons_zero, List.set_cons_succ] at hO)
    refine tK hK trivial (fun hS => ?_); clear hK K
    refine wpAnyH_done (by kernel_rfl) ?_ _
  rotate_right
  focus
    (refine stp_bytesStr rfl (by rfl) (by rfl) Tryd.underlying52 Tryd.underlying5 Tryd.underlying9 (reads_row hO 0 rfl) rfl ?_)
    refine tK hK trivial (fun hS => ?_); clear hK K
    refine wpAnyH_ready (rs := [4, 7]) (by kernel_rfl) (by simp) ?_
    refine (AllReadyH.cons (o := ⟨some 22, .load 22 (.tmp 21), _, _, _, none⟩) rfl (fun K hK => ?_) (AllReadyH.cons (o := ⟨some 25, .buildSlice 22 1 #[(0, .tmp 24)], _, _, _, none⟩) rfl (fun K hK => ?_) AllReadyH.nil))
    focus
      ((first | refine step_load1 hO 3 rfl rfl (by rfl) (by rfl) (by simp [go_sem]) rfl ?_ | refine step_load1 hO 4 rfl rfl (by rfl) (by rfl) (by simp [go_sem]) rfl ?_))
      refine tK hK trivial (fun hS => ?_); clear hK K
      refine tO 7 (fun K hK => ?_)
      (refine stp_buildC hO rfl (by rfl) (by rfl) (built_text _ _) ?_; clear hO; intro b9 w7 hO)
      refine tK hK trivial (fun hS => ?_); clear hK K
      refine tO 8 (fun K hK => ?_)
      (refine step_appendG hO 5 rfl rfl (by rfl) (by rfl) (by rfl) Tryd.underlying22 info_text (by decide) (m := 1) (news := [.string ⟨bs.toArray⟩]) (reads_pt hO 0 rfl (off := 0) (fun j u hu => by rw [Nat.zero_add, List.getElem?_toArray]; exact hu)) rfl (by simp [Value.oneCell']) (by omega) (by omega) ?_; clear hO; intro an cn w8 hO; simp only [List.set_cons_zero, List.set_cons_succ] at hO)
      refine tK hK trivial (fun hS => ?_); clear hK K
      refine tV 9 hS ?_; refine tV 10 hS ?_
      refine tO 11 (fun K hK => ?_)
      (refine stp_setC hO 4 rfl rfl (by rfl) (by rfl) (by rfl) Tryd.sizeOf22 rfl rfl (by simp) ?_; clear hO; intro w9 hO; simp only [List.set_cons_zero, List.set_cons_succ] at hO)
      refine tK hK trivial (fun hS => ?_); clear hK K
      refine wpAnyH_done (by kernel_rfl) ?_ _
    rotate_right
    focus
      (refine stp_buildC hO rfl (by rfl) (by rfl) (built_text _ _) ?_; clear hO; intro b9 w7 hO)
      refine tK hK trivial (fun hS => ?_); clear hK K
      refine tO 4 (fun K hK => ?_)
      ((first | refine step_load1 hO 3 rfl rfl (by rfl) (by rfl) (by simp [go_sem]) rfl ?_ | refine step_load1 hO 4 rfl rfl (by rfl) (by rfl) (by simp [go_sem]) rfl ?_))
      refine tK hK trivial (fun hS => ?_); clear hK K
      refine tO 8 (fun K hK => ?_)
      (refine step_appendG hO 5 rfl rfl (by rfl) (by rfl) (by rfl) Tryd.underlying22 info_text (by decide) (m := 1) (news := [.string ⟨bs.toArray⟩]) (reads_pt hO 0 rfl (off := 0) (fun j u hu => by rw [Nat.zero_add, List.getElem?_toArray]; exact hu)) rfl (by simp [Value.oneCell']) (by omega) (by omega) ?_; clear hO; intro an cn w8 hO; simp only [List.set_cons_zero, List.set_cons_succ] at hO)
      refine tK hK trivial (fun hS => ?_); clear hK K
      refine tV 9 hS ?_; refine tV 10 hS ?_
      refine tO 11 (fun K hK => ?_)
      (refine stp_setC hO 4 rfl rfl (by rfl) (by rfl) (by rfl) Tryd.sizeOf22 rfl rfl (by simp) ?_; clear hO; intro w9 hO; simp only [List.set_cons_zero, List.set_cons_succ] at hO)
      refine tK hK trivial (fun hS => ?_); clear hK K
      refine wpAnyH_done (by kernel_rfl) ?_ _
  all_goals
    clear hS hE ho
    have hE := hO
    clear hO
    go_wp2
    have hO := hE.drew
    have hB := Hbuild.out
    refine wp_region_held_drew (S := (fun w' => ((Instr.loadAt 49 (.pointer (some ⟨b3, 0, none⟩))).run Tryd.prog w' = .ok (.agg [.int .u8 u.toNat, .string ⟨data.toArray⟩, .slice ao ks.length c].toArray) w'))) (by kernel_rfl) (atWq hO Tryd.isAgg49 Tryd.sizeOf49) (fun hS => ?_)
    refine tV 0 hS ?_; refine tL 2 hS ?_; refine tL 5 hS ?_
    refine tO 1 (fun K hK => ?_)
    (go_simp; refine (HS.out _ _ ab cb hcb sfx (fun w h => reads_row h 1 rfl) hO).mono ?_; clear hO; rintro e w5 ⟨v, h1, h2, hO⟩; cases h1; cases h2)
    refine tK hK (atWq hO Tryd.isAgg49 Tryd.sizeOf49) (fun hS => ?_); clear hK K
    refine tO 3 (fun K hK => ?_)
    (go_simp; refine (HH.out _ _ hO sfx).mono ?_; clear hO; rintro e w5 ⟨v, h1, h2, hO⟩; cases h1; cases h2)
    refine tK hK (atWq hO Tryd.isAgg49 Tryd.sizeOf49) (fun hS => ?_); clear hK K
    refine tV 4 hS ?_
    refine tO 6 (fun K hK => ?_)
    (go_simp; refine (HZ.out _ _ hO sfx).mono ?_; clear hO; rintro e w5 ⟨v, h1, h2, hO⟩; cases h1; cases h2)
    refine tK hK (atWq hO Tryd.isAgg49 Tryd.sizeOf49) (fun hS => ?_); clear hK K
    refine tV 7 hS ?_; refine tV 8 hS ?_
    refine tO 9 (fun K hK => ?_)
    (refine step_storeW hO 2 rfl rfl (by rfl) (by rfl) (xs := kx) (by rfl) Tryd.sizeOf55 Hlen.out Hone.out Hq.out ?_; clear hO; intro w6 hO; simp only [List.set_cons_zero, List.set_cons_succ] at hO)
    refine tK hK (atWq hO Tryd.isAgg49 Tryd.sizeOf49) (fun hS => ?_); clear hK K
    refine wpAnyH_done (by kernel_rfl) ?_ _
    all_goals
      clear hS hE
      have hE := hO
      clear hO
      go_wp2
      refine bodyPost_ret (results_cellA rfl hE 2 rfl rfl Tryd.isAgg55 Tryd.sizeOf55 Hlen.out) rfl ?_
      have hF := hE.tail.tail.tail.tail
      have q1 : (out ++ [bs]).length = out.length + 1 := by simp
      have q2 : (out ++ [bs]).map (fun s => Value.string ⟨s.toArray⟩) = out.map (fun s => Value.string ⟨s.toArray⟩) ++ [.string ⟨bs.toArray⟩] := by simp
      refine ⟨_, rfl, rfl, Ent.pack (f := fun z : Option Addr × Nat => [pt bx (.cells #[.slice z.1 (out ++ [bs]).length z.2, .bool false] 76), rowT z.1 z.2 (out ++ [bs])]) (an, cn) ?_⟩
      simp only [rowT, q1, q2]
      exact hF
end Go.Proofs.YtehfbokkcamliaaDoor
namespace Go.Proofs.YtehfbokkcamliaaDoor
open Go.RowKit Go.SL

/-- a directory's chunks, if those of its kids are known -/
def dirC (g : Tr → List Chunk × Kid) (t : Tr) : List Chunk × Kid :=
  (t.kids.flatMap (fun k => (g k.2).1) ++ [⟨3, [], t.kids.map fun k => dirKid k.1 k.2 (g k.2).2⟩], kidOf ⟨3, [], t.kids.map fun k => dirKid k.1 k.2 (g k.2).2⟩)
theorem nodeC_dir {d : Nat} {t : Tr} (h : t.dir = true) : nodeC (d + 1) t = dirC (nodeC d) t := by rw [nodeC, if_pos h]; rfl
theorem nodeC_dir0 {t : Tr} (h : t.dir = true) (hk : t.kids = []) (g : Tr → List Chunk × Kid) : nodeC 0 t = dirC g t := by rw [nodeC, if_pos h, dirC, hk]; rfl
theorem nodeC_file {d : Nat} {t : Tr} (h : t.dir = false) : nodeC d t = fileC t.data := by
  cases d <;> rw [nodeC, if_neg (by rw [h]; simp)]
/-- kids that a directory may have -/
structure DirOk (g : Tr → List Chunk × Kid) (t : Tr) : Prop where
  six : t.kids.length ≤ 6
  name : ∀ x ∈ t.kids, isName x.1 = true
  rise : Rising t.names
  data : ∀ x ∈ t.kids, x.2.data.length ≤ 8192
  kid : ∀ x ∈ t.kids, (g x.2).2.good ∧ (g x.2).2.height.toNat ≤ 250
theorem dirKid_good {n : List UInt8} {t : Tr} {k : Kid} (hk : k.good) (hd : t.data.length ≤ 8192) : (dirKid n t k).good := ⟨hk.1, by show t.data.length < _; omega⟩
theorem DirOk.may {g : Tr → List Chunk × Kid} {t : Tr} (h : DirOk g t) : mayC ⟨3, [], t.kids.map fun k => dirKid k.1 k.2 (g k.2).2⟩ = true ∧ (Chunk.mk 3 [] (t.kids.map fun k => dirKid k.1 k.2 (g k.2).2)).good := by
  refine ⟨may_dir (h := 250) (by rw [List.length_map]; exact h.six) ?_ ?_ ?_ (by omega), ?_⟩
  · intro k hk
    rw [List.mem_map] at hk
    obtain ⟨x, hx, rfl⟩ := hk
    exact isName_len (h.name x hx)
  · have e : (t.kids.map fun k => dirKid k.1 k.2 (g k.2).2).map Kid.name = t.names := by
      rw [List.map_map]; rfl
    rw [e]
    exact h.rise
  · intro k hk
    rw [List.mem_map] at hk
    obtain ⟨x, hx, rfl⟩ := hk
    exact (h.kid x hx).2
  · intro k hk
    obtain ⟨x, hx, rfl⟩ := List.mem_map.1 hk
    exact dirKid_good (h.kid x hx).1 (h.data x hx)
theorem file_len (d : List UInt8) (hd : d.length ≤ 50000) : (fileC d).1.length ≤ 70000 := by
  have go : ∀ (f : Nat) (ks : List Kid), ks.length ≤ 250 → (tower f ks).1.length ≤ f * 250 := by
    intro f
    induction f with
    | zero => intro ks _; simp [tower]
    | succ f ih =>
      intro ks hk
      unfold tower
      split
      · simp
      · have h1 : (level ks).length ≤ 250 := by rw [level_len]; unfold pcN; omega
        have := ih ((level ks).map kidOf) (by rw [List.length_map]; exact h1)
        rw [List.length_append]
        omega
  have hb : (blobs d).length ≤ 240 := by rw [blobs_len]; unfold pcN; omega
  have := go (blobs d).length ((blobs d).map kidOf) (by rw [List.length_map]; omega)
  rw [fileC, List.length_append]
  omega
theorem dir_hgt {g : Tr → List Chunk × Kid} {t : Tr} {h : Nat} (hh : ∀ x ∈ t.kids, (g x.2).2.height.toNat ≤ h) : hgt ⟨3, [], t.kids.map fun k => dirKid k.1 k.2 (g k.2).2⟩ ≤ h + 1 := by
  have e : ∀ ks : List Kid, hgt ⟨3, [], ks⟩ = hgt1 ks := fun ks => by simp [hgt, isTree]
  rw [e]
  refine hgt1_bound fun k hk => ?_
  obtain ⟨x, hx, rfl⟩ := List.mem_map.1 hk
  exact hh x hx
theorem flat_len {α β : Type} (f : α → List β) (B : Nat) : ∀ l : List α, (∀ x ∈ l, (f x).length ≤ B) → (l.flatMap f).length ≤ l.length * B
  | [], _ => by simp
  | x :: l, h => by
    have h1 := h x (List.mem_cons_self ..)
    have h2 := flat_len f B l fun y hy => h y (List.mem_cons_of_mem _ hy)
    rw [List.flatMap_cons, List.length_append, List.length_cons, Nat.add_mul]
    omega
/-- what is known of a tree's chunks -/
theorem node_fit : ∀ (d : Nat) (t : Tr), d ≤ 6 → Tr.Wf d t → (nodeC d t).2.good ∧ (nodeC d t).2.height.toNat ≤ 241 + d ∧ (nodeC d t).1.length ≤ 70001 * 7 ^ d
  | 0, t, _, h => by
    cases hd : t.dir with
    | false =>
      rw [nodeC_file hd]
      have a := file_fit t.data (by have := h.2.2; omega)
      have b := file_len t.data (by have := h.2.2; omega)
      exact ⟨a.2.2.2, by omega, by omega⟩
    | true =>
      rw [nodeC_dir0 hd h.1 (nodeC 0), dirC, h.1]
      exact ⟨kidOf_good (by decide), by decide +kernel, by simp⟩
  | d + 1, t, h6, h => by
    cases hd : t.dir with
    | false =>
      rw [nodeC_file hd]
      have a := file_fit t.data (by have := h.2.2.2.2.1; omega)
      have b := file_len t.data (by have := h.2.2.2.2.1; omega)
      have c : 1 ≤ 7 ^ (d + 1) := Nat.pow_pos (by omega)
      exact ⟨a.2.2.2, by omega, by omega⟩
    | true =>
      have ih : ∀ x ∈ t.kids, (nodeC d x.2).2.good ∧ (nodeC d x.2).2.height.toNat ≤ 241 + d ∧ (nodeC d x.2).1.length ≤ 70001 * 7 ^ d := fun x hx => node_fit d x.2 (by omega) (h.2.2.2.2.2 x hx).2
      rw [nodeC_dir hd]
      have hh := dir_hgt (g := nodeC d) (t := t) (h := 241 + d) fun x hx => (ih x hx).2.1
      have hs : csize ⟨3, [], t.kids.map fun k => dirKid k.1 k.2 (nodeC d k.2).2⟩ < 4294967296 := by simp [csize]
      refine ⟨kidOf_good hs, ?_, ?_⟩
      · show (kidOf _).height.toNat ≤ _
        rw [kidOf_height (by omega)]
        omega
      · have h1 := flat_len (fun k : List UInt8 × Tr => (nodeC d k.2).1) (70001 * 7 ^ d) t.kids fun x hx => (ih x hx).2.2
        have h2 : t.kids.length * (70001 * 7 ^ d) ≤ 6 * (70001 * 7 ^ d) := Nat.mul_le_mul_right _ h.2.2.2.1
        have c : 1 ≤ 7 ^ d := Nat.pow_pos (by omega)
        have e : 7 ^ (d + 1) = 7 * 7 ^ d := by rw [Nat.pow_succ]; omega
        rw [dirC, List.length_append, List.length_singleton, e]
        omega
theorem dir_ok {d : Nat} {t : Tr} (h6 : d ≤ 6) (h : Tr.Wf (d + 1) t) : DirOk (nodeC d) t :=
  ⟨h.2.2.2.1, fun x hx => (h.2.2.2.2.2 x hx).1, h.2.2.1, fun x hx => by
    have := (h.2.2.2.2.2 x hx).2
    cases d with
    | zero => exact this.2.2
    | succ d => exact this.2.2.2.2.1, fun x hx => by
    have := node_fit d x.2 h6 (h.2.2.2.2.2 x hx).2
    exact ⟨this.1, by omega⟩⟩
theorem dir_ok0 {t : Tr} (h : t.kids = []) (g : Tr → List Chunk × Kid) : DirOk g t := by
  refine ⟨by simp [h], ?_, ?_, ?_, ?_⟩
  · rw [h]; intro x hx; cases hx
  · intro i hi; simp [Tr.names, h] at hi
  · rw [h]; intro x hx; cases hx
  · rw [h]; intro x hx; cases hx
end Go.Proofs.YtehfbokkcamliaaDoor
namespace Go.Proofs.YtehfbokkcamliaaDoor
open Go.RowKit Go.SL

def RPutRel (d : Bool) (u : UInt8) (ks : List Kid) (l : List HProp) (s i : Value) (wr : World) : Prop :=
  ∃ k : Nat, k ≤ ks.length ∧ i = .int .i64 k ∧ s = .string ⟨(u :: UInt8.ofNat ks.length :: kidsB d (ks.take k)).toArray⟩ ∧ Ent l wr

theorem cat (a b : List UInt8) (h : a.length + b.length ≤ 1000000) : ∃ p : List UInt8, p = a ++ b ∧ (⟨a.toArray⟩ : ByteArray) ++ ⟨b.toArray⟩ = ⟨p.toArray⟩ ∧ ¬ (9223372036854775807 < a.length + b.length) :=
  ⟨a ++ b, rfl, bytes_join a b, by omega⟩

theorem kidStr {l : List HProp} {w : World} (hE : Ent l w) (i : Nat) {b : Nat} {cs : Array Value} {T : TypeId} {fz : Nat × Nat} (hi : l[i]? = some (pt b (.cells cs T fz))) {hs : List UInt8} (h32 : hs.length = 32) (hc : ∀ j, j < 32 → cs[2 + j]? = (bvals hs)[j]?) :
    (convert 52 9 (.slice (some ⟨b, 2, none⟩) 32 32)).run Tryd.prog w = .ok (.string ⟨hs.toArray⟩) w := by
  refine bytesToString_reads Tryd.underlying52 Tryd.underlying5 Tryd.underlying9 (n := 32) (bs := hs) (reads_pt hE i hi (off := 2) (fun j u hu => ?_)) h32.symm
  have hj : j < 32 := by
    have := (List.getElem?_eq_some_iff.1 hu).1
    simpa [h32] using this
  rw [hc j hj]
  exact hu

set_option maxRecDepth 100000 in
set_option maxHeartbeats 2000000 in
attribute [-go_sem] Instr.loadAt in
theorem rPut_2 {ks : List Kid} {ao : Option Addr} {c : Nat} (hg : ∀ k ∈ ks, k.good) (h6 : ks.length ≤ 6) {l : List HProp} {w : World} (hE : Ent l w) (hk : Knows l (reads (.slice ao ks.length c) ks.length (kidCells ks))) :
    Calls Tryd.prog 87 #[.agg #[.int .u8 2, .string ⟨#[]⟩, .slice ao ks.length c]] w (Ret fun v w' => v = .string ⟨(2 :: UInt8.ofNat ks.length :: kidsB false ks).toArray⟩ ∧ Ent l w') := by
  have Hg := SL.hid hg
  
  clear hg
  have hl0 : IntKind.u64.wrap (ks.length : Int) = ks.length := wrapU_id (by omega)
  obtain ⟨y0, hy0⟩ : ∃ y, y = [UInt8.ofNat 2] := ⟨_, rfl⟩
  obtain ⟨y1, hy1⟩ : ∃ y, y = [UInt8.ofNat ks.length] := ⟨_, rfl⟩
  have hN0 : ∀ {l : List HProp} {w : World}, Ent l w → Calls Tryd.prog 110 #[.int .i64 1, .int .u64 2] w (Ret fun v w' => v = .string ⟨y0.toArray⟩ ∧ Ent l w') := fun h => by subst hy0; exact rnum1 (n := 2) (by omega) h
  have hN1 : ∀ {l : List HProp} {w : World}, Ent l w → Calls Tryd.prog 110 #[.int .i64 1, .int .u64 ks.length] w (Ret fun v w' => v = .string ⟨y1.toArray⟩ ∧ Ent l w') := fun h => by subst hy1; exact rnum1 (by omega) h
  obtain ⟨p0, e0, j0, c0⟩ := cat y0 y1 (by rw [hy0, hy1]; simp)
  have E0 := SL.hid e0
  clear e0
  have Hy0 := SL.hid hy0
  have Hy1 := SL.hid hy1
  clear hy0 hy1
  go_enter Tryd.func87, Tryd.ntmps87
  go_wp2_with (first
    | go_skip
    | (refine bxX hE ?_; clear hE; intro b1 w hE)
    | ((with_reducible (show Go.wpList _ _ _ (Go.Oper.mk _ (.load _ _) _ _ _ _ :: _) _ _)); first | (refine wpl_load1 hE 0 rfl rfl rfl rfl (by simp [go_sem]) rfl ?_) | (refine wpl_load1 hE 1 rfl rfl rfl rfl (by simp [go_sem]) rfl ?_) | (refine wpl_load1 hE 2 rfl rfl rfl rfl (by simp [go_sem]) rfl ?_) | (refine wpl_load1 hE 3 rfl rfl rfl rfl (by simp [go_sem]) rfl ?_) | (refine wpl_load1 hE 4 rfl rfl rfl rfl (by simp [go_sem]) rfl ?_) | (refine wpl_load1 hE 5 rfl rfl rfl rfl (by simp [go_sem]) rfl ?_)))
  refine wp_region_held_drew (S := (fun w' => (Instr.loadAt 5 (.pointer (some ⟨b1, 0, none⟩))).run Tryd.prog w' = .ok (.int .u8 2) w' ∧ (Instr.loadAt 118 (.pointer (some ⟨b1, 2, none⟩))).run Tryd.prog w' = .ok (.slice ao ks.length c) w')) (by kernel_rfl) ⟨atV hE.drew 0 rfl (by simp [go_sem]) rfl, atV hE.drew 0 rfl (by simp [go_sem]) rfl⟩ (fun hS => ?_)
  refine tV 0 hS ?_; refine tL 1 hS ?_; refine tV 2 hS ?_; refine tV 4 hS ?_; refine tL 5 hS ?_; refine tV 6 hS ?_; refine tV 7 hS ?_
  refine tO 3 (fun K hK => ?_)
  (go_simp; refine (hN0 hE.drew).mono ?_; rintro e w3 ⟨v, rfl, rfl, hE3⟩)
  refine tK hK ⟨atV hE3 0 rfl (by simp [go_sem]) rfl, atV hE3 0 rfl (by simp [go_sem]) rfl⟩ (fun hS => ?_); clear hK K
  refine tO 8 (fun K hK => ?_)
  (go_simp; refine (hN1 hE3).mono ?_; rintro e w4 ⟨v, rfl, rfl, hE4⟩)
  refine tK hK ⟨atV hE4 0 rfl (by simp [go_sem]) rfl, atV hE4 0 rfl (by simp [go_sem]) rfl⟩ (fun hS => ?_); clear hK K
  refine tV 9 hS ?_; refine tV 10 hS ?_
  refine wpAnyH_done (by kernel_rfl) ?_ _
  go_wp2
  simp only [show IntKind.u64.wrap 2 = (2 : Int) from rfl]
  go_loopw [3, 4] (fun s i wr => RPutRel false 2 ks (pt b1 (.cells #[.int .u8 2, .string ⟨#[]⟩, .slice ao ks.length c] 120) :: l) s i wr) (fun _ i _ => ks.length - (intOf i).toNat)
  case atStart => exact ⟨0, Nat.zero_le _, rfl, by rw [E0.out, Hy0.out, Hy1.out]; rfl, hE4⟩
  case round =>
    clear hE4 hE3 hE
    obtain ⟨k, hkl, rfl, rfl, hE⟩ := hrel
    by_cases hlt : k < ks.length
    · obtain ⟨b, off, rfl, _⟩ := reads_form (hk _ hE.tail) (by omega) (by rw [kidCells_len Hg.out]; omega)
      have hcx := kid_cells Hg.out (hk _ hE.tail) hlt
      have hlen := kidsB_len false 16 (ks.take k) (fun k hk => Hg.out k (List.mem_of_mem_take hk)) (fun _ _ h => by cases h)
      rw [List.length_take] at hlen
      have Hs := SL.hid (kidsB_snoc false hlt)
      have Hx := SL.hid (Hg.out _ (List.getElem_mem hlt))
      
      generalize ks[k] = x at *
      have Hcx := SL.hid hcx
      clear hcx
      have H36 := SL.hid (kcells_len Hx.out)
      have Hone := SL.hid (kcells_one x)
      have K2 := SL.hid (kc2 Hx.out)
      have K34 := SL.hid (kc34 Hx.out)
      have K35 := SL.hid (kc35 Hx.out)
      have K0 := SL.hid (kc0 x)
      have K1 := SL.hid (kc1 x)
      have H32 := SL.hid (show (bvals x.hash).length = 32 by rw [bvals_length, Hx.out.1])
      have Hh := SL.hid Hx.out.1
      have Hbg := SL.hid x.height.toNat_lt
      have hwg : IntKind.u64.wrap (x.height.toNat : Int) = x.height.toNat := wrapU_id (by have := x.height.toNat_lt; omega)
      have hws : IntKind.u64.wrap (x.size : Int) = x.size := wrapU_id (by have := Hx.out.2; omega)
      have Hsz := SL.hid Hx.out.2
      have Hkb := SL.hid (show kidB false x = x.hash ++ [UInt8.ofNat x.height.toNat] ++ be 4 x.size by simp [kidB])
      have hbl : (kidsB false (ks.take k)).length ≤ 1000 := by omega
      clear hlen
      generalize hpre : (2 :: UInt8.ofNat ks.length :: kidsB false (ks.take k)) = pre
      have hpl : pre.length ≤ 1002 := by rw [← hpre]; simp; omega
      have Hpre := SL.hid hpre
      clear hpre
      generalize x.height.toNat = g at *
      generalize x.size = sz at *
      generalize x.hash = hs at *
      generalize x.name = nm at *
      generalize x.dir = dr at *
      generalize kcells x = xs at *
      obtain ⟨yg, hyg⟩ : ∃ y, y = [UInt8.ofNat g] := ⟨_, rfl⟩
      have hNg : ∀ {l : List HProp} {w : World}, Ent l w → Calls Tryd.prog 110 #[.int .i64 1, .int .u64 g] w (Ret fun v w' => v = .string ⟨yg.toArray⟩ ∧ Ent l w') := fun h => by subst hyg; exact rnum1 Hbg.out h
      have Hlg := SL.hid (show yg.length = 1 by rw [hyg]; rfl)
      have Hyg := SL.hid hyg
      clear hyg
      obtain ⟨yz, hyz⟩ : ∃ y, y = be 4 sz := ⟨_, rfl⟩
      have hNz : ∀ {l : List HProp} {w : World}, Ent l w → Calls Tryd.prog 110 #[.int .i64 4, .int .u64 sz] w (Ret fun v w' => v = .string ⟨yz.toArray⟩ ∧ Ent l w') := fun h => by subst hyz; exact rnum4 Hsz.out h
      have Hlz := SL.hid (show yz.length = 4 by rw [hyz, be_length])
      have Hyz := SL.hid hyz
      clear hyz
      obtain ⟨p4, e4, j4, c4⟩ := cat pre hs (by rw [Hh.out]; omega)
      obtain ⟨p5, e5, j5, c5⟩ := cat p4 yg (by rw [e4, List.length_append, Hh.out, Hlg.out]; omega)
      obtain ⟨p6, e6, j6, c6⟩ := cat p5 yz (by rw [e5, e4, List.length_append, List.length_append, Hh.out, Hlg.out, Hlz.out]; omega)
      have E4 := SL.hid e4
      have E5 := SL.hid e5
      have E6 := SL.hid e6
      clear e4 e5 e6
      go_wp2_with (first
        | go_skip
        | ((with_reducible (show Go.wpList _ _ _ (Go.Oper.mk _ (.load 78 _) _ _ _ _ :: _) _ _)); refine wpl_loadC rfl rfl rfl Tryd.isAgg78 Tryd.sizeOf78 xs H36.out Hcx.out ?_)
        | ((with_reducible (show Go.wpList _ _ _ (Go.Oper.mk _ (.alloc _) _ _ _ _ :: _) _ _)); refine wpl_allocN hE rfl rfl (n := 36) (by kernel_rfl) ?_; clear hE; intro b6 cs w1 hq hE6)
        | ((with_reducible (show Go.wpList _ _ _ (Go.Oper.mk _ (.store _ _ _) _ _ _ _ :: _) _ _)); refine wpl_storeN hE6 0 rfl rfl rfl rfl rfl Tryd.sizeOf78 H36.out Hone.out hq ?_; clear hE6; intro w1 hE7; simp only [List.set_cons_zero] at hE7)
        | ((with_reducible (show Go.wpList _ _ _ (Go.Oper.mk _ (.load 4 _) _ _ _ _ :: _) _ _)); refine wpl_load1 hE7 0 rfl rfl rfl rfl (by simp [go_sem]) K1.out ?_)
        | ((with_reducible (show Go.wpList _ _ _ (Go.Oper.mk _ (.load _ _) _ _ _ _ :: _) _ _)); refine wpl_load1 hE7 1 rfl rfl rfl rfl (by simp [go_sem]) rfl ?_)
        | ((with_reducible (show Go.wpList _ _ _ (Go.Oper.mk _ (.load _ _) _ _ _ _ :: _) _ _)); first | (refine wpl_load1 hE 0 rfl rfl rfl rfl (by simp [go_sem]) rfl ?_) | (refine wpl_load1 hE 1 rfl rfl rfl rfl (by simp [go_sem]) rfl ?_) | (refine wpl_load1 hE 2 rfl rfl rfl rfl (by simp [go_sem]) rfl ?_) | (refine wpl_load1 hE 3 rfl rfl rfl rfl (by simp [go_sem]) rfl ?_) | (refine wpl_load1 hE 4 rfl rfl rfl rfl (by simp [go_sem]) rfl ?_) | (refine wpl_load1 hE 5 rfl rfl rfl rfl (by simp [go_sem]) rfl ?_)))
      refine wp_region_held_drew (S := (fun w' => (convert 52 9 (.slice (some ⟨b6, 2, none⟩) 32 32)).run Tryd.prog w' = .ok (.string ⟨hs.toArray⟩) w' ∧ (Instr.loadAt 5 (.pointer (some ⟨b6, 34, none⟩))).run Tryd.prog w' = .ok (.int .u8 g) w' ∧ (Instr.loadAt 53 (.pointer (some ⟨b6, 35, none⟩))).run Tryd.prog w' = .ok (.int .u32 sz) w')) (by kernel_rfl) ⟨kidStr hE7.drew 0 rfl Hh.out K2.out, atV hE7.drew 0 rfl (by simp [go_sem]) K34.out, atV hE7.drew 0 rfl (by simp [go_sem]) K35.out⟩ (fun hS => ?_)
      refine tV 0 hS ?_; refine tV 1 hS ?_; refine tV 2 hS ?_; refine tV 3 hS ?_; refine tV 4 hS ?_; refine tV 5 hS ?_; refine tL 6 hS ?_; refine tV 7 hS ?_; refine tV 10 hS ?_; refine tL 11 hS ?_; refine tV 12 hS ?_
      refine tO 8 (fun K hK => ?_)
      (go_simp; refine (hNg hE7.drew).mono ?_; rintro e w8 ⟨v, rfl, rfl, hE8⟩)
      refine tK hK ⟨kidStr hE8 0 rfl Hh.out K2.out, atV hE8 0 rfl (by simp [go_sem]) K34.out, atV hE8 0 rfl (by simp [go_sem]) K35.out⟩ (fun hS => ?_); clear hK K
      refine tV 9 hS ?_
      refine tO 13 (fun K hK => ?_)
      (go_simp; refine (hNz hE8).mono ?_; rintro e w9 ⟨v, rfl, rfl, hE9⟩)
      refine tK hK ⟨kidStr hE9 0 rfl Hh.out K2.out, atV hE9 0 rfl (by simp [go_sem]) K34.out, atV hE9 0 rfl (by simp [go_sem]) K35.out⟩ (fun hS => ?_); clear hK K
      refine tV 14 hS ?_; refine tV 15 hS ?_
      refine wpAnyH_done (by kernel_rfl) ?_ _
      go_wp2
      go_roundw
      case rel => exact ⟨k + 1, hlt, by simp, by rw [E6.out, E5.out, E4.out, Hs.out, Hkb.out, ← Hyg.out, ← Hyz.out, ← Hpre.out]; simp, hE9.tail⟩
      case measure => simp [intOf]; omega
    · have E2 : ks.take k = ks := by rw [show k = ks.length by omega, List.take_length]
      rw [E2]
      clear E2
      go_wp2_with (first
        | go_skip
        | ((with_reducible (show Go.wpList _ _ _ (Go.Oper.mk _ (.load _ _) _ _ _ _ :: _) _ _)); first | (refine wpl_load1 hE 0 rfl rfl rfl rfl (by simp [go_sem]) rfl ?_) | (refine wpl_load1 hE 1 rfl rfl rfl rfl (by simp [go_sem]) rfl ?_) | (refine wpl_load1 hE 2 rfl rfl rfl rfl (by simp [go_sem]) rfl ?_) | (refine wpl_load1 hE 3 rfl rfl rfl rfl (by simp [go_sem]) rfl ?_) | (refine wpl_load1 hE 4 rfl rfl rfl rfl (by simp [go_sem]) rfl ?_) | (refine wpl_load1 hE 5 rfl rfl rfl rfl (by simp [go_sem]) rfl ?_)))
      go_ret
      exact ⟨_, rfl, rfl, hE.tail⟩

set_option maxRecDepth 100000 in
set_option maxHeartbeats 2000000 in
attribute [-go_sem] Instr.loadAt in
theorem rPut_3 {ks : List Kid} {ao : Option Addr} {c : Nat} (hg : ∀ k ∈ ks, k.good) (h6 : ks.length ≤ 6) (hnm : ∀ k ∈ ks, k.name.length ≤ 16) {l : List HProp} {w : World} (hE : Ent l w) (hk : Knows l (reads (.slice ao ks.length c) ks.length (kidCells ks))) :
    Calls Tryd.prog 87 #[.agg #[.int .u8 3, .string ⟨#[]⟩, .slice ao ks.length c]] w (Ret fun v w' => v = .string ⟨(3 :: UInt8.ofNat ks.length :: kidsB true ks).toArray⟩ ∧ Ent l w') := by
  have Hg := SL.hid hg
  have Hnm := SL.hid hnm
  clear hg hnm
  have hl0 : IntKind.u64.wrap (ks.length : Int) = ks.length := wrapU_id (by omega)
  obtain ⟨y0, hy0⟩ : ∃ y, y = [UInt8.ofNat 3] := ⟨_, rfl⟩
  obtain ⟨y1, hy1⟩ : ∃ y, y = [UInt8.ofNat ks.length] := ⟨_, rfl⟩
  have hN0 : ∀ {l : List HProp} {w : World}, Ent l w → Calls Tryd.prog 110 #[.int .i64 1, .int .u64 3] w (Ret fun v w' => v = .string ⟨y0.toArray⟩ ∧ Ent l w') := fun h => by subst hy0; exact rnum1 (n := 3) (by omega) h
  have hN1 : ∀ {l : List HProp} {w : World}, Ent l w → Calls Tryd.prog 110 #[.int .i64 1, .int .u64 ks.length] w (Ret fun v w' => v = .string ⟨y1.toArray⟩ ∧ Ent l w') := fun h => by subst hy1; exact rnum1 (by omega) h
  obtain ⟨p0, e0, j0, c0⟩ := cat y0 y1 (by rw [hy0, hy1]; simp)
  have E0 := SL.hid e0
  clear e0
  have Hy0 := SL.hid hy0
  have Hy1 := SL.hid hy1
  clear hy0 hy1
  go_enter Tryd.func87, Tryd.ntmps87
  go_wp2_with (first
    | go_skip
    | (refine bxX hE ?_; clear hE; intro b1 w hE)
    | ((with_reducible (show Go.wpList _ _ _ (Go.Oper.mk _ (.load _ _) _ _ _ _ :: _) _ _)); first | (refine wpl_load1 hE 0 rfl rfl rfl rfl (by simp [go_sem]) rfl ?_) | (refine wpl_load1 hE 1 rfl rfl rfl rfl (by simp [go_sem]) rfl ?_) | (refine wpl_load1 hE 2 rfl rfl rfl rfl (by simp [go_sem]) rfl ?_) | (refine wpl_load1 hE 3 rfl rfl rfl rfl (by simp [go_sem]) rfl ?_) | (refine wpl_load1 hE 4 rfl rfl rfl rfl (by simp [go_sem]) rfl ?_) | (refine wpl_load1 hE 5 rfl rfl rfl rfl (by simp [go_sem]) rfl ?_)))
  refine wp_region_held_drew (S := (fun w' => (Instr.loadAt 5 (.pointer (some ⟨b1, 0, none⟩))).run Tryd.prog w' = .ok (.int .u8 3) w' ∧ (Instr.loadAt 118 (.pointer (some ⟨b1, 2, none⟩))).run Tryd.prog w' = .ok (.slice ao ks.length c) w')) (by kernel_rfl) ⟨atV hE.drew 0 rfl (by simp [go_sem]) rfl, atV hE.drew 0 rfl (by simp [go_sem]) rfl⟩ (fun hS => ?_)
  refine tV 0 hS ?_; refine tL 1 hS ?_; refine tV 2 hS ?_; refine tV 4 hS ?_; refine tL 5 hS ?_; refine tV 6 hS ?_; refine tV 7 hS ?_
  refine tO 3 (fun K hK => ?_)
  (go_simp; refine (hN0 hE.drew).mono ?_; rintro e w3 ⟨v, rfl, rfl, hE3⟩)
  refine tK hK ⟨atV hE3 0 rfl (by simp [go_sem]) rfl, atV hE3 0 rfl (by simp [go_sem]) rfl⟩ (fun hS => ?_); clear hK K
  refine tO 8 (fun K hK => ?_)
  (go_simp; refine (hN1 hE3).mono ?_; rintro e w4 ⟨v, rfl, rfl, hE4⟩)
  refine tK hK ⟨atV hE4 0 rfl (by simp [go_sem]) rfl, atV hE4 0 rfl (by simp [go_sem]) rfl⟩ (fun hS => ?_); clear hK K
  refine tV 9 hS ?_; refine tV 10 hS ?_
  refine wpAnyH_done (by kernel_rfl) ?_ _
  go_wp2
  simp only [show IntKind.u64.wrap 3 = (3 : Int) from rfl]
  go_loopw [3, 4] (fun s i wr => RPutRel true 3 ks (pt b1 (.cells #[.int .u8 3, .string ⟨#[]⟩, .slice ao ks.length c] 120) :: l) s i wr) (fun _ i _ => ks.length - (intOf i).toNat)
  case atStart => exact ⟨0, Nat.zero_le _, rfl, by rw [E0.out, Hy0.out, Hy1.out]; rfl, hE4⟩
  case round =>
    clear hE4 hE3 hE
    obtain ⟨k, hkl, rfl, rfl, hE⟩ := hrel
    by_cases hlt : k < ks.length
    · obtain ⟨b, off, rfl, _⟩ := reads_form (hk _ hE.tail) (by omega) (by rw [kidCells_len Hg.out]; omega)
      have hcx := kid_cells Hg.out (hk _ hE.tail) hlt
      have hlen := kidsB_len true 16 (ks.take k) (fun k hk => Hg.out k (List.mem_of_mem_take hk)) (fun k hk _ => Hnm.out k (List.mem_of_mem_take hk))
      rw [List.length_take] at hlen
      have Hs := SL.hid (kidsB_snoc true hlt)
      have Hx := SL.hid (Hg.out _ (List.getElem_mem hlt))
      have hnl := Hnm.out _ (List.getElem_mem hlt)
      generalize ks[k] = x at *
      have Hcx := SL.hid hcx
      clear hcx
      have H36 := SL.hid (kcells_len Hx.out)
      have Hone := SL.hid (kcells_one x)
      have K2 := SL.hid (kc2 Hx.out)
      have K34 := SL.hid (kc34 Hx.out)
      have K35 := SL.hid (kc35 Hx.out)
      have K0 := SL.hid (kc0 x)
      have K1 := SL.hid (kc1 x)
      have H32 := SL.hid (show (bvals x.hash).length = 32 by rw [bvals_length, Hx.out.1])
      have Hh := SL.hid Hx.out.1
      have Hbg := SL.hid x.height.toNat_lt
      have hwg : IntKind.u64.wrap (x.height.toNat : Int) = x.height.toNat := wrapU_id (by have := x.height.toNat_lt; omega)
      have hws : IntKind.u64.wrap (x.size : Int) = x.size := wrapU_id (by have := Hx.out.2; omega)
      have Hsz := SL.hid Hx.out.2
      have Hkb := SL.hid (show kidB true x = (if x.dir then [1] else [0]) ++ [UInt8.ofNat x.name.length] ++ x.name ++ x.hash ++ [UInt8.ofNat x.height.toNat] ++ be 4 x.size by cases h : x.dir <;> simp [kidB, h])
      have hbl : (kidsB true (ks.take k)).length ≤ 1000 := by omega
      clear hlen
      generalize hpre : (3 :: UInt8.ofNat ks.length :: kidsB true (ks.take k)) = pre
      have hpl : pre.length ≤ 1002 := by rw [← hpre]; simp; omega
      have Hpre := SL.hid hpre
      clear hpre
      generalize x.height.toNat = g at *
      generalize x.size = sz at *
      generalize x.hash = hs at *
      generalize x.name = nm at *
      generalize x.dir = dr at *
      generalize kcells x = xs at *
      obtain ⟨yg, hyg⟩ : ∃ y, y = [UInt8.ofNat g] := ⟨_, rfl⟩
      have hNg : ∀ {l : List HProp} {w : World}, Ent l w → Calls Tryd.prog 110 #[.int .i64 1, .int .u64 g] w (Ret fun v w' => v = .string ⟨yg.toArray⟩ ∧ Ent l w') := fun h => by subst hyg; exact rnum1 Hbg.out h
      have Hlg := SL.hid (show yg.length = 1 by rw [hyg]; rfl)
      have Hyg := SL.hid hyg
      clear hyg
      obtain ⟨yz, hyz⟩ : ∃ y, y = be 4 sz := ⟨_, rfl⟩
      have hNz : ∀ {l : List HProp} {w : World}, Ent l w → Calls Tryd.prog 110 #[.int .i64 4, .int .u64 sz] w (Ret fun v w' => v = .string ⟨yz.toArray⟩ ∧ Ent l w') := fun h => by subst hyz; exact rnum4 Hsz.out h
      have Hlz := SL.hid (show yz.length = 4 by rw [hyz, be_length])
      have Hyz := SL.hid hyz
      clear hyz
      obtain ⟨yn, hyn⟩ : ∃ y, y = [UInt8.ofNat nm.length] := ⟨_, rfl⟩
      have hNn : ∀ {l : List HProp} {w : World}, Ent l w → Calls Tryd.prog 110 #[.int .i64 1, .int .u64 nm.length] w (Ret fun v w' => v = .string ⟨yn.toArray⟩ ∧ Ent l w') := fun h => by subst hyn; exact rnum1 (by omega) h
      have Hln := SL.hid (show yn.length = 1 by rw [hyn]; rfl)
      have Hyn := SL.hid hyn
      clear hyn
      have hwn : IntKind.u64.wrap (nm.length : Int) = nm.length := wrapU_id (by omega)
      obtain ⟨p1, hp1⟩ : ∃ y, y = pre ++ (if dr then [1] else [0]) := ⟨_, rfl⟩
      have hlp : p1.length ≤ 1003 := by rw [hp1, List.length_append]; cases dr <;> simp <;> omega
      cases dr with
      | true =>
        have hjp : (⟨pre.toArray⟩ : ByteArray) ++ ⟨#[1]⟩ = ⟨p1.toArray⟩ := by rw [hp1]; exact bytes_join pre [1]
        have cjp : ¬ (9223372036854775807 < pre.length + 1) := by omega
        obtain ⟨p2, e2, j2, c2⟩ := cat p1 yn (by rw [Hln.out]; omega)
        obtain ⟨p3, e3, j3, c3⟩ := cat p2 nm (by rw [e2, List.length_append, Hln.out]; omega)
        have hl3 : p3.length ≤ 1100 := by rw [e3, e2, List.length_append, List.length_append, Hln.out]; omega
        have E2 := SL.hid e2
        have E3 := SL.hid e3
        clear e2 e3
        obtain ⟨p4, e4, j4, c4⟩ := cat p3 hs (by rw [Hh.out]; omega)
        obtain ⟨p5, e5, j5, c5⟩ := cat p4 yg (by rw [e4, List.length_append, Hh.out, Hlg.out]; omega)
        obtain ⟨p6, e6, j6, c6⟩ := cat p5 yz (by rw [e5, e4, List.length_append, List.length_append, Hh.out, Hlg.out, Hlz.out]; omega)
        have E4 := SL.hid e4
        have E5 := SL.hid e5
        have E6 := SL.hid e6
        clear e4 e5 e6
        have Hp1 := SL.hid hp1
        clear hp1
        go_wp2_with (first
          | go_skip
          | ((with_reducible (show Go.wpList _ _ _ (Go.Oper.mk _ (.load 78 _) _ _ _ _ :: _) _ _)); refine wpl_loadC rfl rfl rfl Tryd.isAgg78 Tryd.sizeOf78 xs H36.out Hcx.out ?_)
          | ((with_reducible (show Go.wpList _ _ _ (Go.Oper.mk _ (.alloc _) _ _ _ _ :: _) _ _)); refine wpl_allocN hE rfl rfl (n := 36) (by kernel_rfl) ?_; clear hE; intro b6 cs w1 hq hE6)
          | ((with_reducible (show Go.wpList _ _ _ (Go.Oper.mk _ (.store _ _ _) _ _ _ _ :: _) _ _)); refine wpl_storeN hE6 0 rfl rfl rfl rfl rfl Tryd.sizeOf78 H36.out Hone.out hq ?_; clear hE6; intro w1 hE7; simp only [List.set_cons_zero] at hE7)
          | ((with_reducible (show Go.wpList _ _ _ (Go.Oper.mk _ (.load 4 _) _ _ _ _ :: _) _ _)); refine wpl_load1 hE7 0 rfl rfl rfl rfl (by simp [go_sem]) K1.out ?_)
          | ((with_reducible (show Go.wpList _ _ _ (Go.Oper.mk _ (.load _ _) _ _ _ _ :: _) _ _)); refine wpl_load1 hE7 1 rfl rfl rfl rfl (by simp [go_sem]) rfl ?_)
          | ((with_reducible (show Go.wpList _ _ _ (Go.Oper.mk _ (.load _ _) _ _ _ _ :: _) _ _)); first | (refine wpl_load1 hE 0 rfl rfl rfl rfl (by simp [go_sem]) rfl ?_) | (refine wpl_load1 hE 1 rfl rfl rfl rfl (by simp [go_sem]) rfl ?_) | (refine wpl_load1 hE 2 rfl rfl rfl rfl (by simp [go_sem]) rfl ?_) | (refine wpl_load1 hE 3 rfl rfl rfl rfl (by simp [go_sem]) rfl ?_) | (refine wpl_load1 hE 4 rfl rfl rfl rfl (by simp [go_sem]) rfl ?_) | (refine wpl_load1 hE 5 rfl rfl rfl rfl (by simp [go_sem]) rfl ?_)))

        refine wp_region_held_drew (S := (fun w' => (Instr.loadAt 9 (.pointer (some ⟨b6, 0, none⟩))).run Tryd.prog w' = .ok (.string ⟨nm.toArray⟩) w')) (by kernel_rfl) (atV hE7.drew 0 rfl (by simp [go_sem]) K0.out) (fun hS => ?_)
        refine tV 0 hS ?_; refine tV 1 hS ?_; refine tL 2 hS ?_; refine tV 3 hS ?_; refine tV 4 hS ?_; refine tV 7 hS ?_; refine tL 8 hS ?_
        refine tO 5 (fun K hK => ?_)
        (go_simp; refine (hNn hE7.drew).mono ?_; rintro e wb ⟨v, rfl, rfl, hEb⟩)
        refine tK hK (atV hEb 0 rfl (by simp [go_sem]) K0.out) (fun hS => ?_); clear hK K
        refine tV 6 hS ?_; refine tV 9 hS ?_; refine tV 10 hS ?_
        refine wpAnyH_done (by kernel_rfl) ?_ _
        clear hE7
        go_wp2
        refine wp_region_held_drew (S := (fun w' => (convert 52 9 (.slice (some ⟨b6, 2, none⟩) 32 32)).run Tryd.prog w' = .ok (.string ⟨hs.toArray⟩) w' ∧ (Instr.loadAt 5 (.pointer (some ⟨b6, 34, none⟩))).run Tryd.prog w' = .ok (.int .u8 g) w' ∧ (Instr.loadAt 53 (.pointer (some ⟨b6, 35, none⟩))).run Tryd.prog w' = .ok (.int .u32 sz) w')) (by kernel_rfl) ⟨kidStr hEb.drew 0 rfl Hh.out K2.out, atV hEb.drew 0 rfl (by simp [go_sem]) K34.out, atV hEb.drew 0 rfl (by simp [go_sem]) K35.out⟩ (fun hS => ?_)
        refine tV 0 hS ?_; refine tV 1 hS ?_; refine tV 2 hS ?_; refine tV 3 hS ?_; refine tV 4 hS ?_; refine tV 5 hS ?_; refine tL 6 hS ?_; refine tV 7 hS ?_; refine tV 10 hS ?_; refine tL 11 hS ?_; refine tV 12 hS ?_
        refine tO 8 (fun K hK => ?_)
        (go_simp; refine (hNg hEb.drew).mono ?_; rintro e w8 ⟨v, rfl, rfl, hE8⟩)
        refine tK hK ⟨kidStr hE8 0 rfl Hh.out K2.out, atV hE8 0 rfl (by simp [go_sem]) K34.out, atV hE8 0 rfl (by simp [go_sem]) K35.out⟩ (fun hS => ?_); clear hK K
        refine tV 9 hS ?_
        refine tO 13 (fun K hK => ?_)
        (go_simp; refine (hNz hE8).mono ?_; rintro e w9 ⟨v, rfl, rfl, hE9⟩)
        refine tK hK ⟨kidStr hE9 0 rfl Hh.out K2.out, atV hE9 0 rfl (by simp [go_sem]) K34.out, atV hE9 0 rfl (by simp [go_sem]) K35.out⟩ (fun hS => ?_); clear hK K
        refine tV 14 hS ?_; refine tV 15 hS ?_
        refine wpAnyH_done (by kernel_rfl) ?_ _
        go_wp2
        go_roundw
        case rel => exact ⟨k + 1, hlt, by simp, by rw [E6.out, E5.out, E4.out, E3.out, E2.out, Hp1.out, Hyn.out, Hs.out, Hkb.out, ← Hyg.out, ← Hyz.out, ← Hpre.out]; simp, hE9.tail⟩
        case measure => simp [intOf]; omega
      | false =>
        have hjp : (⟨pre.toArray⟩ : ByteArray) ++ ⟨#[0]⟩ = ⟨p1.toArray⟩ := by rw [hp1]; exact bytes_join pre [0]
        have cjp : ¬ (9223372036854775807 < pre.length + 1) := by omega
        obtain ⟨p2, e2, j2, c2⟩ := cat p1 yn (by rw [Hln.out]; omega)
        obtain ⟨p3, e3, j3, c3⟩ := cat p2 nm (by rw [e2, List.length_append, Hln.out]; omega)
        have hl3 : p3.length ≤ 1100 := by rw [e3, e2, List.length_append, List.length_append, Hln.out]; omega
        have E2 := SL.hid e2
        have E3 := SL.hid e3
        clear e2 e3
        obtain ⟨p4, e4, j4, c4⟩ := cat p3 hs (by rw [Hh.out]; omega)
        obtain ⟨p5, e5, j5, c5⟩ := cat p4 yg (by rw [e4, List.length_append, Hh.out, Hlg.out]; omega)
        obtain ⟨p6, e6, j6, c6⟩ := cat p5 yz (by rw [e5, e4, List.length_append, List.length_append, Hh.out, Hlg.out, Hlz.out]; omega)
        have E4 := SL.hid e4
        have E5 := SL.hid e5
        have E6 := SL.hid e6
        clear e4 e5 e6
        have Hp1 := SL.hid hp1
        clear hp1
        go_wp2_with (first
          | go_skip
          | ((with_reducible (show Go.wpList _ _ _ (Go.Oper.mk _ (.load 78 _) _ _ _ _ :: _) _ _)); refine wpl_loadC rfl rfl rfl Tryd.isAgg78 Tryd.sizeOf78 xs H36.out Hcx.out ?_)
          | ((with_reducible (show Go.wpList _ _ _ (Go.Oper.mk _ (.alloc _) _ _ _ _ :: _) _ _)); refine wpl_allocN hE rfl rfl (n := 36) (by kernel_rfl) ?_; clear hE; intro b6 cs w1 hq hE6)
          | ((with_reducible (show Go.wpList _ _ _ (Go.Oper.mk _ (.store _ _ _) _ _ _ _ :: _) _ _)); refine wpl_storeN hE6 0 rfl rfl rfl rfl rfl Tryd.sizeOf78 H36.out Hone.out hq ?_; clear hE6; intro w1 hE7; simp only [List.set_cons_zero] at hE7)
          | ((with_reducible (show Go.wpList _ _ _ (Go.Oper.mk _ (.load 4 _) _ _ _ _ :: _) _ _)); refine wpl_load1 hE7 0 rfl rfl rfl rfl (by simp [go_sem]) K1.out ?_)
          | ((with_reducible (show Go.wpList _ _ _ (Go.Oper.mk _ (.load _ _) _ _ _ _ :: _) _ _)); refine wpl_load1 hE7 1 rfl rfl rfl rfl (by simp [go_sem]) rfl ?_)
          | ((with_reducible (show Go.wpList _ _ _ (Go.Oper.mk _ (.load _ _) _ _ _ _ :: _) _ _)); first | (refine wpl_load1 hE 0 rfl rfl rfl rfl (by simp [go_sem]) rfl ?_) | (refine wpl_load1 hE 1 rfl rfl rfl rfl (by simp [go_sem]) rfl ?_) | (refine wpl_load1 hE 2 rfl rfl rfl rfl (by simp [go_sem]) rfl ?_) | (refine wpl_load1 hE 3 rfl rfl rfl rfl (by simp [go_sem]) rfl ?_) | (refine wpl_load1 hE 4 rfl rfl rfl rfl (by simp [go_sem]) rfl ?_) | (refine wpl_load1 hE 5 rfl rfl rfl rfl (by simp [go_sem]) rfl ?_)))

        refine wp_region_held_drew (S := (fun w' => (Instr.loadAt 9 (.pointer (some ⟨b6, 0, none⟩))).run Tryd.prog w' = .ok (.string ⟨nm.toArray⟩) w')) (by kernel_rfl) (atV hE7.drew 0 rfl (by simp [go_sem]) K0.out) (fun hS => ?_)
        refine tV 0 hS ?_; refine tV 1 hS ?_; refine tL 2 hS ?_; refine tV 3 hS ?_; refine tV 4 hS ?_; refine tV 7 hS ?_; refine tL 8 hS ?_
        refine tO 5 (fun K hK => ?_)
        (go_simp; refine (hNn hE7.drew).mono ?_; rintro e wb ⟨v, rfl, rfl, hEb⟩)
        refine tK hK (atV hEb 0 rfl (by simp [go_sem]) K0.out) (fun hS => ?_); clear hK K
        refine tV 6 hS ?_; refine tV 9 hS ?_; refine tV 10 hS ?_
        refine wpAnyH_done (by kernel_rfl) ?_ _
        clear hE7
        go_wp2
        refine wp_region_held_drew (S := (fun w' => (convert 52 9 (.slice (some ⟨b6, 2, none⟩) 32 32)).run Tryd.prog w' = .ok (.string ⟨hs.toArray⟩) w' ∧ (Instr.loadAt 5 (.pointer (some ⟨b6, 34, none⟩))).run Tryd.prog w' = .ok (.int .u8 g) w' ∧ (Instr.loadAt 53 (.pointer (some ⟨b6, 35, none⟩))).run Tryd.prog w' = .ok (.int .u32 sz) w')) (by kernel_rfl) ⟨kidStr hEb.drew 0 rfl Hh.out K2.out, atV hEb.drew 0 rfl (by simp [go_sem]) K34.out, atV hEb.drew 0 rfl (by simp [go_sem]) K35.out⟩ (fun hS => ?_)
        refine tV 0 hS ?_; refine tV 1 hS ?_; refine tV 2 hS ?_; refine tV 3 hS ?_; refine tV 4 hS ?_; refine tV 5 hS ?_; refine tL 6 hS ?_; refine tV 7 hS ?_; refine tV 10 hS ?_; refine tL 11 hS ?_; refine tV 12 hS ?_
        refine tO 8 (fun K hK => ?_)
        (go_simp; refine (hNg hEb.drew).mono ?_; rintro e w8 ⟨v, rfl, rfl, hE8⟩)
        refine tK hK ⟨kidStr hE8 0 rfl Hh.out K2.out, atV hE8 0 rfl (by simp [go_sem]) K34.out, atV hE8 0 rfl (by simp [go_sem]) K35.out⟩ (fun hS => ?_); clear hK K
        refine tV 9 hS ?_
        refine tO 13 (fun K hK => ?_)
        (go_simp; refine (hNz hE8).mono ?_; rintro e w9 ⟨v, rfl, rfl, hE9⟩)
        refine tK hK ⟨kidStr hE9 0 rfl Hh.out K2.out, atV hE9 0 rfl (by simp [go_sem]) K34.out, atV hE9 0 rfl (by simp [go_sem]) K35.out⟩ (fun hS => ?_); clear hK K
        refine tV 14 hS ?_; refine tV 15 hS ?_
        refine wpAnyH_done (by kernel_rfl) ?_ _
        go_wp2
        go_roundw
        case rel => exact ⟨k + 1, hlt, by simp, by rw [E6.out, E5.out, E4.out, E3.out, E2.out, Hp1.out, Hyn.out, Hs.out, Hkb.out, ← Hyg.out, ← Hyz.out, ← Hpre.out]; simp, hE9.tail⟩
        case measure => simp [intOf]; omega
    · have E2 : ks.take k = ks := by rw [show k = ks.length by omega, List.take_length]
      rw [E2]
      clear E2
      go_wp2_with (first
        | go_skip
        | ((with_reducible (show Go.wpList _ _ _ (Go.Oper.mk _ (.load _ _) _ _ _ _ :: _) _ _)); first | (refine wpl_load1 hE 0 rfl rfl rfl rfl (by simp [go_sem]) rfl ?_) | (refine wpl_load1 hE 1 rfl rfl rfl rfl (by simp [go_sem]) rfl ?_) | (refine wpl_load1 hE 2 rfl rfl rfl rfl (by simp [go_sem]) rfl ?_) | (refine wpl_load1 hE 3 rfl rfl rfl rfl (by simp [go_sem]) rfl ?_) | (refine wpl_load1 hE 4 rfl rfl rfl rfl (by simp [go_sem]) rfl ?_) | (refine wpl_load1 hE 5 rfl rfl rfl rfl (by simp [go_sem]) rfl ?_)))
      go_ret
      exact ⟨_, rfl, rfl, hE.tail⟩
end Go.Proofs.YtehfbokkcamliaaDoor
namespace Go.Proofs.YtehfbokkcamliaaDoor

def known1 : List UInt8 := [186, 120, 22, 191, 143, 1, 207, 234, 65, 65, 64, 222, 93, 174, 34, 35, 176, 3, 97, 163, 150, 23, 122, 156, 180, 16, 255, 97, 242, 0, 21, 173]
def known2 : List UInt8 := [227, 176, 196, 66, 152, 252, 28, 20, 154, 251, 244, 200, 153, 111, 185, 36, 39, 174, 65, 228, 100, 155, 147, 76, 164, 149, 153, 27, 120, 82, 184, 85]
def text3 : List UInt8 := [97, 98, 99, 100, 98, 99, 100, 101, 99, 100, 101, 102, 100, 101, 102, 103, 101, 102, 103, 104, 102, 103, 104, 105, 103, 104, 105, 106, 104, 105, 106, 107, 105, 106, 107, 108, 106, 107, 108, 109, 107, 108, 109, 110, 108, 109, 110, 111, 109, 110, 111, 112, 110, 111, 112, 113]
def known3 : List UInt8 := [36, 141, 106, 97, 210, 6, 56, 184, 229, 192, 38, 147, 12, 62, 96, 57, 163, 60, 228, 89, 100, 255, 33, 103, 246, 236, 237, 212, 25, 219, 6, 193]
def known4 : List UInt8 := [205, 199, 110, 92, 153, 20, 251, 146, 129, 161, 199, 226, 132, 215, 62, 103, 241, 128, 154, 72, 164, 151, 32, 14, 4, 109, 57, 204, 199, 17, 44, 208]
set_option maxRecDepth 100000 in
theorem sha_abc : shaV [97, 98, 99] = known1 := by decide +kernel
set_option maxRecDepth 100000 in
theorem sha_nil : shaV [] = known2 := by decide +kernel
set_option maxRecDepth 100000 in
theorem sha_56 : shaV text3 = known3 := by decide +kernel

/-! ## one block, over and over -/
def rrN (x p q : Nat) : Nat := Nat.lor (Nat.mod (Nat.mul x p) 4294967296) (Nat.div x q)
def stepN (kw a b c d e f g h : Nat) (k : Nat → Nat → Nat → Nat → Nat → Nat → Nat → Nat → Nat) : Nat :=
  (fun t1 => k (Nat.mod (Nat.add t1 (Nat.add (Nat.xor (Nat.xor (rrN a 1073741824 4) (rrN a 524288 8192)) (rrN a 1024 4194304)) (Nat.xor (Nat.xor (Nat.land a b) (Nat.land a c)) (Nat.land b c)))) 4294967296) a b c (Nat.mod (Nat.add d t1) 4294967296) e f g)
    (Nat.add (Nat.add (Nat.add h (Nat.xor (Nat.xor (rrN e 67108864 64) (rrN e 2097152 2048)) (rrN e 128 33554432))) (Nat.xor (Nat.land e f) (Nat.land (Nat.sub 4294967295 e) g))) kw)
noncomputable def runN (kws : List Nat) : Nat → Nat → Nat → Nat → Nat → Nat → Nat → Nat → (Nat → Nat → Nat → Nat → Nat → Nat → Nat → Nat → Nat) → Nat :=
  List.rec (fun a b c d e f g h k => k a b c d e f g h) (fun kw _ ih a b c d e f g h k => stepN kw a b c d e f g h (fun a b c d e f g h => ih a b c d e f g h k)) kws
def KWA : List Nat := [2750124281, 3533219314, 388128048, 1259814150, 2595759036, 3142742866, 4087407621, 209567798, 963185657, 1944370274, 2240997151, 3060653860, 3558850261, 3795850079, 4248659976, 587027157, 3667503101, 3854337474, 1109373709, 1449834259, 1332383432, 1811277571, 1402599420, 41923541, 356419487, 2728937732, 4167673427, 1780128268, 3506461443, 1927923708, 3100717738, 957412701, 3211936012, 2525724465, 897656708, 2750766458, 3733122911, 1490448492, 1007131835, 215170638, 199900175, 3051847127, 2546784594, 1198467073, 1121424104, 1993824782, 4206943767, 1385611443, 2838015846, 320495253, 2870002303, 616322403, 3868675357, 810932918, 4192983651, 4114851946, 2567787456, 3518289627, 3043469264, 3431775655, 2875437985, 3700493388, 2838780141, 3572068108]
def dg (S p : Nat) : Nat := Nat.mod (Nat.div S p) 4294967296
def pk (a b c d e f g h : Nat) : Nat := Nat.add (Nat.mul (Nat.add (Nat.mul (Nat.add (Nat.mul (Nat.add (Nat.mul (Nat.add (Nat.mul (Nat.add (Nat.mul (Nat.add (Nat.mul a 4294967296) b) 4294967296) c) 4294967296) d) 4294967296) e) 4294967296) f) 4294967296) g) 4294967296) h
def adN (x y : Nat) : Nat := Nat.mod (Nat.add x y) 4294967296
noncomputable def blk8 (a b c d e f g h : Nat) : Nat := runN KWA a b c d e f g h (fun a' b' c' d' e' f' g' h' => pk (adN a a') (adN b b') (adN c c') (adN d d') (adN e e') (adN f f') (adN g g') (adN h h'))
noncomputable def blkN (S : Nat) : Nat := blk8 (dg S 26959946667150639794667015087019630673637144422540572481103610249216) (dg S 6277101735386680763835789423207666416102355444464034512896) (dg S 1461501637330902918203684832716283019655932542976) (dg S 340282366920938463463374607431768211456) (dg S 79228162514264337593543950336) (dg S 18446744073709551616) (dg S 4294967296) (dg S 1)
noncomputable def itG (f : Nat → Nat) (n : Nat) : Nat → Nat := Nat.rec (fun S => S) (fun _ ih S => Nat.rec (motive := fun _ => Nat) (ih 0) (fun m _ => ih (Nat.succ m)) (f S)) n
noncomputable def itN (n : Nat) : Nat → Nat := itG blkN n

def blkA : List UInt8 := List.replicate 64 97
def itW : Nat → W8 → W8
  | 0, v => v
  | n + 1, v => eat (itW n v) blkA
def pkW (v : W8) : Nat := pk v.a v.b v.c v.d v.e v.f v.g v.h

theorem pk_is (a b c d e f g h : Nat) : pk a b c d e f g h = ((((((a * 4294967296 + b) * 4294967296 + c) * 4294967296 + d) * 4294967296 + e) * 4294967296 + f) * 4294967296 + g) * 4294967296 + h := rfl
theorem div_step {x y : Nat} (p : Nat) (h : y < 4294967296) : (x * 4294967296 + y) / (4294967296 * p) = x / p := by
  rw [← Nat.div_div_eq_div_mul, Nat.mul_comm x, Nat.mul_add_div (by decide), Nat.div_eq_of_lt h, Nat.add_zero]
theorem mod_step {x y : Nat} (h : y < 4294967296) : (x * 4294967296 + y) % 4294967296 = y := by omega
structure Dg (v : W8) (S : Nat) : Prop where
  a : dg S 26959946667150639794667015087019630673637144422540572481103610249216 = v.a
  b : dg S 6277101735386680763835789423207666416102355444464034512896 = v.b
  c : dg S 1461501637330902918203684832716283019655932542976 = v.c
  d : dg S 340282366920938463463374607431768211456 = v.d
  e : dg S 79228162514264337593543950336 = v.e
  f : dg S 18446744073709551616 = v.f
  g : dg S 4294967296 = v.g
  h : dg S 1 = v.h
theorem dg_is (S p : Nat) : dg S p = S / p % 4294967296 := rfl
theorem dg_pk {v : W8} (o : v.ok) : Dg v (pkW v) := by
  obtain ⟨a, b, c, d, e, f, g, h⟩ := v
  obtain ⟨ha, hb, hc, hd, he, hf, hg, hh⟩ := o
  simp only at ha hb hc hd he hf hg hh
  unfold pkW
  constructor <;> simp only [dg_is, pk_is]
  · rw [show 26959946667150639794667015087019630673637144422540572481103610249216 = 4294967296 * 6277101735386680763835789423207666416102355444464034512896 by decide +kernel, div_step _ hh, show 6277101735386680763835789423207666416102355444464034512896 = 4294967296 * 1461501637330902918203684832716283019655932542976 by decide +kernel, div_step _ hg, show 1461501637330902918203684832716283019655932542976 = 4294967296 * 340282366920938463463374607431768211456 by decide +kernel, div_step _ hf, show 340282366920938463463374607431768211456 = 4294967296 * 79228162514264337593543950336 by decide +kernel, div_step _ he, show 79228162514264337593543950336 = 4294967296 * 18446744073709551616 by decide +kernel, div_step _ hd, show 18446744073709551616 = 4294967296 * 4294967296 by decide +kernel, div_step _ hc, show 4294967296 = 4294967296 * 1 by decide +kernel, div_step _ hb, Nat.div_one, Nat.mul_one, Nat.mod_eq_of_lt ha]
  · rw [show 6277101735386680763835789423207666416102355444464034512896 = 4294967296 * 1461501637330902918203684832716283019655932542976 by decide +kernel, div_step _ hh, show 1461501637330902918203684832716283019655932542976 = 4294967296 * 340282366920938463463374607431768211456 by decide +kernel, div_step _ hg, show 340282366920938463463374607431768211456 = 4294967296 * 79228162514264337593543950336 by decide +kernel, div_step _ hf, show 79228162514264337593543950336 = 4294967296 * 18446744073709551616 by decide +kernel, div_step _ he, show 18446744073709551616 = 4294967296 * 4294967296 by decide +kernel, div_step _ hd]
    have := div_step (x := (a * 4294967296 + b)) (y := c) 1 hc
    rw [Nat.mul_one, Nat.div_one] at this
    rw [this, mod_step hb]
  · rw [show 1461501637330902918203684832716283019655932542976 = 4294967296 * 340282366920938463463374607431768211456 by decide +kernel, div_step _ hh, show 340282366920938463463374607431768211456 = 4294967296 * 79228162514264337593543950336 by decide +kernel, div_step _ hg, show 79228162514264337593543950336 = 4294967296 * 18446744073709551616 by decide +kernel, div_step _ hf, show 18446744073709551616 = 4294967296 * 4294967296 by decide +kernel, div_step _ he]
    have := div_step (x := ((a * 4294967296 + b) * 4294967296 + c)) (y := d) 1 hd
    rw [Nat.mul_one, Nat.div_one] at this
    rw [this, mod_step hc]
  · rw [show 340282366920938463463374607431768211456 = 4294967296 * 79228162514264337593543950336 by decide +kernel, div_step _ hh, show 79228162514264337593543950336 = 4294967296 * 18446744073709551616 by decide +kernel, div_step _ hg, show 18446744073709551616 = 4294967296 * 4294967296 by decide +kernel, div_step _ hf]
    have := div_step (x := (((a * 4294967296 + b) * 4294967296 + c) * 4294967296 + d)) (y := e) 1 he
    rw [Nat.mul_one, Nat.div_one] at this
    rw [this, mod_step hd]
  · rw [show 79228162514264337593543950336 = 4294967296 * 18446744073709551616 by decide +kernel, div_step _ hh, show 18446744073709551616 = 4294967296 * 4294967296 by decide +kernel, div_step _ hg]
    have := div_step (x := ((((a * 4294967296 + b) * 4294967296 + c) * 4294967296 + d) * 4294967296 + e)) (y := f) 1 hf
    rw [Nat.mul_one, Nat.div_one] at this
    rw [this, mod_step he]
  · rw [show 18446744073709551616 = 4294967296 * 4294967296 by decide +kernel, div_step _ hh]
    have := div_step (x := (((((a * 4294967296 + b) * 4294967296 + c) * 4294967296 + d) * 4294967296 + e) * 4294967296 + f)) (y := g) 1 hg
    rw [Nat.mul_one, Nat.div_one] at this
    rw [this, mod_step hf]
  · have := div_step (x := ((((((a * 4294967296 + b) * 4294967296 + c) * 4294967296 + d) * 4294967296 + e) * 4294967296 + f) * 4294967296 + g)) (y := h) 1 hh
    rw [Nat.mul_one, Nat.div_one] at this
    rw [this, mod_step hg]
  · rw [Nat.div_one, mod_step hh]
theorem pkW_inj {u v : W8} (hu : u.ok) (hv : v.ok) (h : pkW u = pkW v) : u = v := by
  have a := dg_pk hu
  have b := dg_pk hv
  rw [h] at a
  obtain ⟨u1, u2, u3, u4, u5, u6, u7, u8⟩ := u
  obtain ⟨v1, v2, v3, v4, v5, v6, v7, v8⟩ := v
  have h1 := a.a.symm.trans b.a
  have h2 := a.b.symm.trans b.b
  have h3 := a.c.symm.trans b.c
  have h4 := a.d.symm.trans b.d
  have h5 := a.e.symm.trans b.e
  have h6 := a.f.symm.trans b.f
  have h7 := a.g.symm.trans b.g
  have h8 := a.h.symm.trans b.h
  simp only at h1 h2 h3 h4 h5 h6 h7 h8
  subst h1 h2 h3 h4 h5 h6 h7 h8
  rfl

def rndF (v : W8) (kw : Nat) : W8 := ⟨((v.h + bS1 v.e + chs v.e v.f v.g + kw) + (bS0 v.a + maj v.a v.b v.c)) % 4294967296, v.a, v.b, v.c, (v.d + (v.h + bS1 v.e + chs v.e v.f v.g + kw)) % 4294967296, v.e, v.f, v.g⟩
theorem rndF_is (v : W8) (k w : Nat) : rndF v ((k + w) % 4294967296) = rnd v k w := by
  unfold rndF rnd t1 t2
  generalize bS1 v.e = s1
  generalize chs v.e v.f v.g = c
  generalize bS0 v.a = s0
  generalize maj v.a v.b v.c = m
  congr 1 <;> omega
theorem stepN_is (kw : Nat) (v : W8) (k : Nat → Nat → Nat → Nat → Nat → Nat → Nat → Nat → Nat) : stepN kw v.a v.b v.c v.d v.e v.f v.g v.h k = k (rndF v kw).a (rndF v kw).b (rndF v kw).c (rndF v kw).d (rndF v kw).e (rndF v kw).f (rndF v kw).g (rndF v kw).h := by
  have e1 : ∀ x, rrN x 1073741824 4 = rr x 2 := fun _ => rfl
  have e2 : ∀ x, rrN x 524288 8192 = rr x 13 := fun _ => rfl
  have e3 : ∀ x, rrN x 1024 4194304 = rr x 22 := fun _ => rfl
  have e4 : ∀ x, rrN x 67108864 64 = rr x 6 := fun _ => rfl
  have e5 : ∀ x, rrN x 2097152 2048 = rr x 11 := fun _ => rfl
  have e6 : ∀ x, rrN x 128 33554432 = rr x 25 := fun _ => rfl
  unfold stepN
  rw [e1, e2, e3, e4, e5, e6]
  rfl
theorem runN_cons (kw : Nat) (kws : List Nat) (a b c d e f g h : Nat) (k : Nat → Nat → Nat → Nat → Nat → Nat → Nat → Nat → Nat) : runN (kw :: kws) a b c d e f g h k = stepN kw a b c d e f g h (fun a b c d e f g h => runN kws a b c d e f g h k) := rfl
theorem runN_is (kws : List Nat) (k : Nat → Nat → Nat → Nat → Nat → Nat → Nat → Nat → Nat) : ∀ (v : W8), runN kws v.a v.b v.c v.d v.e v.f v.g v.h k = k (kws.foldl rndF v).a (kws.foldl rndF v).b (kws.foldl rndF v).c (kws.foldl rndF v).d (kws.foldl rndF v).e (kws.foldl rndF v).f (kws.foldl rndF v).g (kws.foldl rndF v).h := by
  induction kws with
  | nil => intro v; rfl
  | cons kw kws ih =>
    intro v
    rw [runN_cons, stepN_is, List.foldl_cons]
    exact ih (rndF v kw)
def ringSeq (bs : List UInt8) : Nat → List Nat
  | 0 => ring0 bs
  | i + 1 => ringAt (ringSeq bs i) i
def nextW (bs : List UInt8) (i : Nat) : Nat := (ringAt (ringSeq bs i) i).getD (i % 16) 0
theorem rounds_is (bs : List UInt8) (v : W8) : ∀ n, rounds bs v n = (((List.range n).map fun i => (kTab.getD i 0 + nextW bs i) % 4294967296).foldl rndF v, ringSeq bs n)
  | 0 => rfl
  | n + 1 => by
    rw [List.range_succ, List.map_append, List.foldl_append, rounds, rounds_is bs v n]
    simp only [List.map_cons, List.map_nil, List.foldl_cons, List.foldl_nil, rndF_is]
    rfl
set_option maxRecDepth 100000 in
theorem KWA_is : ((List.range 64).map fun i => (kTab.getD i 0 + nextW blkA i) % 4294967296) = KWA := by decide +kernel
theorem blkN_is {v : W8} (hv : v.ok) : blkN (pkW v) = pkW (eat v blkA) := by
  have h := dg_pk hv
  unfold blkN
  rw [h.a, h.b, h.c, h.d, h.e, h.f, h.g, h.h]
  unfold blk8
  rw [runN_is KWA _ v]
  unfold eat
  rw [rounds_is, KWA_is]
  generalize List.foldl rndF v KWA = u
  generalize ringSeq blkA 64 = r
  rfl
theorem itG_succ (f : Nat → Nat) (n S : Nat) : itG f (n + 1) S = itG f n (f S) := by
  have key : ∀ x, Nat.rec (motive := fun _ => Nat) (itG f n 0) (fun m _ => itG f n (Nat.succ m)) x = itG f n x := fun x => by cases x <;> rfl
  exact key (f S)
theorem itN_succ (n S : Nat) : itN (n + 1) S = itN n (blkN S) := itG_succ blkN n S
theorem itW_ok : ∀ n {v : W8}, v.ok → (itW n v).ok
  | 0, _, h => h
  | _ + 1, _, _ => eat_ok _ _
theorem itN_is {v : W8} (hv : v.ok) : ∀ (n k : Nat), itN n (pkW (itW k v)) = pkW (itW (k + n) v)
  | 0, _ => rfl
  | n + 1, k => by
    rw [itN_succ, blkN_is (itW_ok k hv)]
    rw [show eat (itW k v) blkA = itW (k + 1) v from rfl, itN_is hv n (k + 1), show k + 1 + n = k + (n + 1) by omega]
structure Step (S T : Nat) : Prop where
  is : Nat.beq (itN 625 S) T = true
theorem step625 {k S T : Nat} (h : pkW (itW k hFirst) = S) (hc : Nat.beq (itN 625 S) T = true) : pkW (itW (k + 625) hFirst) = T := by
  rw [← itN_is hFirst_ok, h]
  exact Nat.eq_of_beq_eq_true hc
theorem eatAll_left : ∀ (n : Nat) (v : W8) {xs ys : List UInt8}, xs.length = 64 * n → eatAll v (xs ++ ys) n = eatAll v xs n
  | 0, _, _, _, _ => rfl
  | n + 1, v, xs, ys, h => by
    rw [eatAll, eatAll, List.take_append_of_le_length (by omega), List.drop_append_of_le_length (by omega)]
    exact eatAll_left n _ (by rw [List.length_drop]; omega)
theorem eatAll_rep : ∀ (n : Nat) (v : W8), eatAll v (List.replicate (64 * n) 97) n = itW n v
  | 0, _ => rfl
  | n + 1, v => by
    rw [eatAll_snoc, itW]
    have h1 : (List.replicate (64 * (n + 1)) (97 : UInt8)).drop (64 * n) = List.replicate 64 97 := by
      rw [List.drop_replicate]; congr 1; omega
    have h2 : eatAll v (List.replicate (64 * (n + 1)) 97) n = eatAll v (List.replicate (64 * n) 97) n := by
      rw [show 64 * (n + 1) = 64 * n + 64 by omega, ← List.replicate_append_replicate]
      exact eatAll_left n v (by simp)
    rw [h1, h2, eatAll_rep n v]
    rfl
end Go.Proofs.YtehfbokkcamliaaDoor
namespace Go.Proofs.YtehfbokkcamliaaDoor
open Go.RowKit Go.SL

theorem rotr_2 (x : Nat) (hx : x < 4294967296) (w : World) : Calls Tryd.prog 112 #[.int .u32 (x : Int), .int .i64 2] w (Ret fun v w' => v = .int .u32 ((rr x 2 : Nat) : Int) ∧ ∀ l, Ent l w → Ent l w') := by
  have h4 : bits .or .u32 ((x : Int) / 4) (IntKind.u32.wrap ((x : Int) * 1073741824)) = ((rr x 2 : Nat) : Int) := by
    rw [IntKind.wrap_u32']
    have := u32_or_nat (x / 4) (x * 1073741824 % 4294967296) (by omega) (by omega)
    rw [Nat.or_comm] at this
    simpa [rr] using this
  have h5 : bits .or .u32 ((x : Int) / 4) ((x : Int) * 1073741824 % 4294967296) = ((rr x 2 : Nat) : Int) := by
    rw [← h4, IntKind.wrap_u32']
  have h6 : IntKind.i64.wrap 30 = 30 := by decide
  go_enter Tryd.func112, Tryd.ntmps112
  go_wp2_with (first | go_skip)
  refine wp_region_held_drew (S := (fun _ => True)) (by kernel_rfl) trivial (fun hS => ?_)
  refine tV 0 hS ?_; refine tV 1 hS ?_; refine tV 2 hS ?_; refine tV 3 hS ?_; refine tV 4 hS ?_; refine tV 5 hS ?_; refine tV 6 hS ?_; refine tV 7 hS ?_; refine tV 8 hS ?_
  refine wpAnyH_done (by kernel_rfl) ?_ _
  go_wp2_with (first | go_skip)
  go_ret
  exact ⟨_, rfl, by simp, fun l hE => hE.drew⟩

theorem rotr_6 (x : Nat) (hx : x < 4294967296) (w : World) : Calls Tryd.prog 112 #[.int .u32 (x : Int), .int .i64 6] w (Ret fun v w' => v = .int .u32 ((rr x 6 : Nat) : Int) ∧ ∀ l, Ent l w → Ent l w') := by
  have h4 : bits .or .u32 ((x : Int) / 64) (IntKind.u32.wrap ((x : Int) * 67108864)) = ((rr x 6 : Nat) : Int) := by
    rw [IntKind.wrap_u32']
    have := u32_or_nat (x / 64) (x * 67108864 % 4294967296) (by omega) (by omega)
    rw [Nat.or_comm] at this
    simpa [rr] using this
  have h5 : bits .or .u32 ((x : Int) / 64) ((x : Int) * 67108864 % 4294967296) = ((rr x 6 : Nat) : Int) := by
    rw [← h4, IntKind.wrap_u32']
  have h6 : IntKind.i64.wrap 26 = 26 := by decide
  go_enter Tryd.func112, Tryd.ntmps112
  go_wp2_with (first | go_skip)
  refine wp_region_held_drew (S := (fun _ => True)) (by kernel_rfl) trivial (fun hS => ?_)
  refine tV 0 hS ?_; refine tV 1 hS ?_; refine tV 2 hS ?_; refine tV 3 hS ?_; refine tV 4 hS ?_; refine tV 5 hS ?_; refine tV 6 hS ?_; refine tV 7 hS ?_; refine tV 8 hS ?_
  refine wpAnyH_done (by kernel_rfl) ?_ _
  go_wp2_with (first | go_skip)
  go_ret
  exact ⟨_, rfl, by simp, fun l hE => hE.drew⟩

theorem rotr_7 (x : Nat) (hx : x < 4294967296) (w : World) : Calls Tryd.prog 112 #[.int .u32 (x : Int), .int .i64 7] w (Ret fun v w' => v = .int .u32 ((rr x 7 : Nat) : Int) ∧ ∀ l, Ent l w → Ent l w') := by
  have h4 : bits .or .u32 ((x : Int) / 128) (IntKind.u32.wrap ((x : Int) * 33554432)) = ((rr x 7 : Nat) : Int) := by
    rw [IntKind.wrap_u32']
    have := u32_or_nat (x / 128) (x * 33554432 % 4294967296) (by omega) (by omega)
    rw [Nat.or_comm] at this
    simpa [rr] using this
  have h5 : bits .or .u32 ((x : Int) / 128) ((x : Int) * 33554432 % 4294967296) = ((rr x 7 : Nat) : Int) := by
    rw [← h4, IntKind.wrap_u32']
  have h6 : IntKind.i64.wrap 25 = 25 := by decide
  go_enter Tryd.func112, Tryd.ntmps112
  go_wp2_with (first | go_skip)
  refine wp_region_held_drew (S := (fun _ => True)) (by kernel_rfl) trivial (fun hS => ?_)
  refine tV 0 hS ?_; refine tV 1 hS ?_; refine tV 2 hS ?_; refine tV 3 hS ?_; refine tV 4 hS ?_; refine tV 5 hS ?_; refine tV 6 hS ?_; refine tV 7 hS ?_; refine tV 8 hS ?_
  refine wpAnyH_done (by kernel_rfl) ?_ _
  go_wp2_with (first | go_skip)
  go_ret
  exact ⟨_, rfl, by simp, fun l hE => hE.drew⟩

theorem rotr_11 (x : Nat) (hx : x < 4294967296) (w : World) : Calls Tryd.prog 112 #[.int .u32 (x : Int), .int .i64 11] w (Ret fun v w' => v = .int .u32 ((rr x 11 : Nat) : Int) ∧ ∀ l, Ent l w → Ent l w') := by
  have h4 : bits .or .u32 ((x : Int) / 2048) (IntKind.u32.wrap ((x : Int) * 2097152)) = ((rr x 11 : Nat) : Int) := by
    rw [IntKind.wrap_u32']
    have := u32_or_nat (x / 2048) (x * 2097152 % 4294967296) (by omega) (by omega)
    rw [Nat.or_comm] at this
    simpa [rr] using this
  have h5 : bits .or .u32 ((x : Int) / 2048) ((x : Int) * 2097152 % 4294967296) = ((rr x 11 : Nat) : Int) := by
    rw [← h4, IntKind.wrap_u32']
  have h6 : IntKind.i64.wrap 21 = 21 := by decide
  go_enter Tryd.func112, Tryd.ntmps112
  go_wp2_with (first | go_skip)
  refine wp_region_held_drew (S := (fun _ => True)) (by kernel_rfl) trivial (fun hS => ?_)
  refine tV 0 hS ?_; refine tV 1 hS ?_; refine tV 2 hS ?_; refine tV 3 hS ?_; refine tV 4 hS ?_; refine tV 5 hS ?_; refine tV 6 hS ?_; refine tV 7 hS ?_; refine tV 8 hS ?_
  refine wpAnyH_done (by kernel_rfl) ?_ _
  go_wp2_with (first | go_skip)
  go_ret
  exact ⟨_, rfl, by simp, fun l hE => hE.drew⟩

theorem rotr_13 (x : Nat) (hx : x < 4294967296) (w : World) : Calls Tryd.prog 112 #[.int .u32 (x : Int), .int .i64 13] w (Ret fun v w' => v = .int .u32 ((rr x 13 : Nat) : Int) ∧ ∀ l, Ent l w → Ent l w') := by
  have h4 : bits .or .u32 ((x : Int) / 8192) (IntKind.u32.wrap ((x : Int) * 524288)) = ((rr x 13 : Nat) : Int) := by
    rw [IntKind.wrap_u32']
    have := u32_or_nat (x / 8192) (x * 524288 % 4294967296) (by omega) (by omega)
    rw [Nat.or_comm] at this
    simpa [rr] using this
  have h5 : bits .or .u32 ((x : Int) / 8192) ((x : Int) * 524288 % 4294967296) = ((rr x 13 : Nat) : Int) := by
    rw [← h4, IntKind.wrap_u32']
  have h6 : IntKind.i64.wrap 19 = 19 := by decide
  go_enter Tryd.func112, Tryd.ntmps112
  go_wp2_with (first | go_skip)
  refine wp_region_held_drew (S := (fun _ => True)) (by kernel_rfl) trivial (fun hS => ?_)
  refine tV 0 hS ?_; refine tV 1 hS ?_; refine tV 2 hS ?_; refine tV 3 hS ?_; refine tV 4 hS ?_; refine tV 5 hS ?_; refine tV 6 hS ?_; refine tV 7 hS ?_; refine tV 8 hS ?_
  refine wpAnyH_done (by kernel_rfl) ?_ _
  go_wp2_with (first | go_skip)
  go_ret
  exact ⟨_, rfl, by simp, fun l hE => hE.drew⟩

theorem rotr_17 (x : Nat) (hx : x < 4294967296) (w : World) : Calls Tryd.prog 112 #[.int .u32 (x : Int), .int .i64 17] w (Ret fun v w' => v = .int .u32 ((rr x 17 : Nat) : Int) ∧ ∀ l, Ent l w → Ent l w') := by
  have h4 : bits .or .u32 ((x : Int) / 131072) (IntKind.u32.wrap ((x : Int) * 32768)) = ((rr x 17 : Nat) : Int) := by
    rw [IntKind.wrap_u32']
    have := u32_or_nat (x / 131072) (x * 32768 % 4294967296) (by omega) (by omega)
    rw [Nat.or_comm] at this
    simpa [rr] using this
  have h5 : bits .or .u32 ((x : Int) / 131072) ((x : Int) * 32768 % 4294967296) = ((rr x 17 : Nat) : Int) := by
    rw [← h4, IntKind.wrap_u32']
  have h6 : IntKind.i64.wrap 15 = 15 := by decide
  go_enter Tryd.func112, Tryd.ntmps112
  go_wp2_with (first | go_skip)
  refine wp_region_held_drew (S := (fun _ => True)) (by kernel_rfl) trivial (fun hS => ?_)
  refine tV 0 hS ?_; refine tV 1 hS ?_; refine tV 2 hS ?_; refine tV 3 hS ?_; refine tV 4 hS ?_; refine tV 5 hS ?_; refine tV 6 hS ?_; refine tV 7 hS ?_; refine tV 8 hS ?_
  refine wpAnyH_done (by kernel_rfl) ?_ _
  go_wp2_with (first | go_skip)
  go_ret
  exact ⟨_, rfl, by simp, fun l hE => hE.drew⟩

theorem rotr_18 (x : Nat) (hx : x < 4294967296) (w : World) : Calls Tryd.prog 112 #[.int .u32 (x : Int), .int .i64 18] w (Ret fun v w' => v = .int .u32 ((rr x 18 : Nat) : Int) ∧ ∀ l, Ent l w → Ent l w') := by
  have h4 : bits .or .u32 ((x : Int) / 262144) (IntKind.u32.wrap ((x : Int) * 16384)) = ((rr x 18 : Nat) : Int) := by
    rw [IntKind.wrap_u32']
    have := u32_or_nat (x / 262144) (x * 16384 % 4294967296) (by omega) (by omega)
    rw [Nat.or_comm] at this
    simpa [rr] using this
  have h5 : bits .or .u32 ((x : Int) / 262144) ((x : Int) * 16384 % 4294967296) = ((rr x 18 : Nat) : Int) := by
    rw [← h4, IntKind.wrap_u32']
  have h6 : IntKind.i64.wrap 14 = 14 := by decide
  go_enter Tryd.func112, Tryd.ntmps112
  go_wp2_with (first | go_skip)
  refine wp_region_held_drew (S := (fun _ => True)) (by kernel_rfl) trivial (fun hS => ?_)
  refine tV 0 hS ?_; refine tV 1 hS ?_; refine tV 2 hS ?_; refine tV 3 hS ?_; refine tV 4 hS ?_; refine tV 5 hS ?_; refine tV 6 hS ?_; refine tV 7 hS ?_; refine tV 8 hS ?_
  refine wpAnyH_done (by kernel_rfl) ?_ _
  go_wp2_with (first | go_skip)
  go_ret
  exact ⟨_, rfl, by simp, fun l hE => hE.drew⟩

theorem rotr_19 (x : Nat) (hx : x < 4294967296) (w : World) : Calls Tryd.prog 112 #[.int .u32 (x : Int), .int .i64 19] w (Ret fun v w' => v = .int .u32 ((rr x 19 : Nat) : Int) ∧ ∀ l, Ent l w → Ent l w') := by
  have h4 : bits .or .u32 ((x : Int) / 524288) (IntKind.u32.wrap ((x : Int) * 8192)) = ((rr x 19 : Nat) : Int) := by
    rw [IntKind.wrap_u32']
    have := u32_or_nat (x / 524288) (x * 8192 % 4294967296) (by omega) (by omega)
    rw [Nat.or_comm] at this
    simpa [rr] using this
  have h5 : bits .or .u32 ((x : Int) / 524288) ((x : Int) * 8192 % 4294967296) = ((rr x 19 : Nat) : Int) := by
    rw [← h4, IntKind.wrap_u32']
  have h6 : IntKind.i64.wrap 13 = 13 := by decide
  go_enter Tryd.func112, Tryd.ntmps112
  go_wp2_with (first | go_skip)
  refine wp_region_held_drew (S := (fun _ => True)) (by kernel_rfl) trivial (fun hS => ?_)
  refine tV 0 hS ?_; refine tV 1 hS ?_; refine tV 2 hS ?_; refine tV 3 hS ?_; refine tV 4 hS ?_; refine tV 5 hS ?_; refine tV 6 hS ?_; refine tV 7 hS ?_; refine tV 8 hS ?_
  refine wpAnyH_done (by kernel_rfl) ?_ _
  go_wp2_with (first | go_skip)
  go_ret
  exact ⟨_, rfl, by simp, fun l hE => hE.drew⟩

theorem rotr_22 (x : Nat) (hx : x < 4294967296) (w : World) : Calls Tryd.prog 112 #[.int .u32 (x : Int), .int .i64 22] w (Ret fun v w' => v = .int .u32 ((rr x 22 : Nat) : Int) ∧ ∀ l, Ent l w → Ent l w') := by
  have h4 : bits .or .u32 ((x : Int) / 4194304) (IntKind.u32.wrap ((x : Int) * 1024)) = ((rr x 22 : Nat) : Int) := by
    rw [IntKind.wrap_u32']
    have := u32_or_nat (x / 4194304) (x * 1024 % 4294967296) (by omega) (by omega)
    rw [Nat.or_comm] at this
    simpa [rr] using this
  have h5 : bits .or .u32 ((x : Int) / 4194304) ((x : Int) * 1024 % 4294967296) = ((rr x 22 : Nat) : Int) := by
    rw [← h4, IntKind.wrap_u32']
  have h6 : IntKind.i64.wrap 10 = 10 := by decide
  go_enter Tryd.func112, Tryd.ntmps112
  go_wp2_with (first | go_skip)
  refine wp_region_held_drew (S := (fun _ => True)) (by kernel_rfl) trivial (fun hS => ?_)
  refine tV 0 hS ?_; refine tV 1 hS ?_; refine tV 2 hS ?_; refine tV 3 hS ?_; refine tV 4 hS ?_; refine tV 5 hS ?_; refine tV 6 hS ?_; refine tV 7 hS ?_; refine tV 8 hS ?_
  refine wpAnyH_done (by kernel_rfl) ?_ _
  go_wp2_with (first | go_skip)
  go_ret
  exact ⟨_, rfl, by simp, fun l hE => hE.drew⟩

theorem rotr_25 (x : Nat) (hx : x < 4294967296) (w : World) : Calls Tryd.prog 112 #[.int .u32 (x : Int), .int .i64 25] w (Ret fun v w' => v = .int .u32 ((rr x 25 : Nat) : Int) ∧ ∀ l, Ent l w → Ent l w') := by
  have h4 : bits .or .u32 ((x : Int) / 33554432) (IntKind.u32.wrap ((x : Int) * 128)) = ((rr x 25 : Nat) : Int) := by
    rw [IntKind.wrap_u32']
    have := u32_or_nat (x / 33554432) (x * 128 % 4294967296) (by omega) (by omega)
    rw [Nat.or_comm] at this
    simpa [rr] using this
  have h5 : bits .or .u32 ((x : Int) / 33554432) ((x : Int) * 128 % 4294967296) = ((rr x 25 : Nat) : Int) := by
    rw [← h4, IntKind.wrap_u32']
  have h6 : IntKind.i64.wrap 7 = 7 := by decide
  go_enter Tryd.func112, Tryd.ntmps112
  go_wp2_with (first | go_skip)
  refine wp_region_held_drew (S := (fun _ => True)) (by kernel_rfl) trivial (fun hS => ?_)
  refine tV 0 hS ?_; refine tV 1 hS ?_; refine tV 2 hS ?_; refine tV 3 hS ?_; refine tV 4 hS ?_; refine tV 5 hS ?_; refine tV 6 hS ?_; refine tV 7 hS ?_; refine tV 8 hS ?_
  refine wpAnyH_done (by kernel_rfl) ?_ _
  go_wp2_with (first | go_skip)
  go_ret
  exact ⟨_, rfl, by simp, fun l hE => hE.drew⟩
end Go.Proofs.YtehfbokkcamliaaDoor
namespace Go.SL
section
variable {P : Program} {ops : Array Oper} {rest : List Oper} {o : Oper} {a : Act} {Q : Exit → Act → World → Prop} {w : World} {l : List HProp}
/-- a new block whose cells are known -/
theorem wpl_allocL (hE : Ent l w) {t : TypeId} (ho : o.op = .alloc t) (hw : Region.wanted o (yielded ops a.tmps) = true) {zs : List Value} {size bytes : Nat} (hz : zeroList P t = some (zs, size, bytes))
    (h : ∀ b w', Ent (pt b (.cells zs.toArray t) :: l) w' → wpList P ops Q rest (a.put o.dst (.pointer (some ⟨b, 0, none⟩))) w') : wpList P ops Q (o :: rest) a w := by
  obtain ⟨i, z, h1, h2, _, _, h5⟩ := zeroList_parts hz
  refine wpl_alloc hE ho hw (v := z) (fun w => by simp [zeroValue, typeInfo, h1, h2]) fun b w' hE' => h b w' ?_
  rw [← h5]
  simpa using hE'
end
end Go.SL
namespace Go.Proofs.YtehfbokkcamliaaDoor
open Go.RowKit Go.SL

def u64v (n : Nat) : Value := .int .u64 (n : Int)
abbrev u64c (b : Nat) (T : TypeId) (r : List Nat) : HProp := pt b (.cells (r.map u64v).toArray T (0, 0))
theorem u64_cell {r : List Nat} {k : Nat} (h : k < r.length) : (r.map u64v).toArray[k]? = some (.int .u64 ((r.getD k 0 : Nat) : Int)) := by
  simp [h, u64v, List.getD_eq_getElem?_getD]
theorem u64_at {l : List HProp} {w : World} {b : Nat} {T : TypeId} {r : List Nat} (hE : Ent l w) (i : Nat) (hi : l[i]? = some (u64c b T r)) {k : Nat} (h : k < r.length) : w.cell? ⟨b, k, none⟩ = some (.int .u64 ((r.getD k 0 : Nat) : Int)) :=
  (hE.cell i hi k).trans (u64_cell h)
theorem u64_one (r : List Nat) : ∀ u ∈ r.map u64v, u.oneCell' = true := by
  intro u hu
  obtain ⟨_, _, rfl⟩ := List.mem_map.1 hu
  rfl
theorem u64_set (r : List Nat) (k n : Nat) : (r.map u64v).set k (.int .u64 (n : Int)) = (r.set k n).map u64v := by
  rw [List.map_set]; rfl

def zero9 : List Nat := List.replicate 9 0
/-- a number's groups, the first so many -/
def wideAt (n : Nat) : Nat → List Nat
  | 0 => zero9
  | k + 1 => (wideAt n k).set k (n / 65536 ^ k % 65536)
def wideL (n : Nat) : List Nat := wideAt n 4
theorem wideAt_len (n : Nat) : ∀ k, (wideAt n k).length = 9
  | 0 => rfl
  | k + 1 => by rw [wideAt, List.length_set, wideAt_len n k]

def WideRel (n b : Nat) (l : List HProp) (s i : Value) (wr : World) : Prop :=
  ∃ k : Nat, k ≤ 4 ∧ i = .int .i64 k ∧ s = .int .u64 ((n / 65536 ^ k : Nat) : Int) ∧ Ent (u64c b 161 (wideAt n k) :: l) wr

set_option maxRecDepth 100000 in
theorem wideN_any {l : List HProp} {w : World} (n : Nat) (hn : n < 18446744073709551616) (hE : Ent l w) :
    Calls Tryd.prog 91 #[.int .u64 (n : Int)] w (Ret fun v w' => v = .agg ((wideL n).map u64v).toArray ∧ Ent l w') := by
  go_enter Tryd.func91, Tryd.ntmps91
  go_wp2_with (first
    | go_skip
    | ((with_reducible (show Go.wpList _ _ _ (Go.Oper.mk _ (.alloc _) _ _ _ _ :: _) _ _)); refine wpl_allocL hE rfl rfl (zs := zero9.map u64v) (size := 9) (bytes := 72) (by kernel_rfl) ?_; clear hE; intro b0 w1 hE1)
    | ((with_reducible (show Go.wpList _ _ _ (Go.Oper.mk _ (.alloc _) _ _ _ _ :: _) _ _)); refine wpl_allocL hE1 rfl rfl (zs := zero9.map u64v) (size := 9) (bytes := 72) (by kernel_rfl) ?_; clear hE1; intro b w1 hE2))
  go_loopw [0, 4] (fun s i wr => WideRel n b (u64c b0 161 zero9 :: l) s i wr) (fun _ i _ => 4 - (intOf i).toNat)
  case atStart => exact ⟨0, Nat.zero_le _, rfl, by simp, hE2⟩
  case round =>
    clear hE2
    obtain ⟨k, hk, rfl, rfl, hE⟩ := hrel
    by_cases hlt : k < 4
    · have ik : (k : Int) < 4 := by omega
      have Hlen := SL.hid (wideAt_len n k)
      have Hnext : RowKit.Hid (wideAt n (k + 1) = (wideAt n k).set k (n / 65536 ^ k % 65536)) := SL.hid rfl
      have Hq : RowKit.Hid (n / 65536 ^ (k + 1) = n / 65536 ^ k / 65536) := SL.hid (by rw [Nat.pow_succ, Nat.div_div_eq_div_mul])
      have hqn : n / 65536 ^ k < 18446744073709551616 := Nat.lt_of_le_of_lt (Nat.div_le_self _ _) hn
      generalize n / 65536 ^ k = q at *
      have hwq : IntKind.u64.wrap ((q : Int) / 65536) = (q : Int) / 65536 := by rw [IntKind.wrap_u64]; omega
      go_wp2_with (first
        | go_skip
        | ((with_reducible (show Go.wpList _ _ _ (Go.Oper.mk _ (.store _ _ _) _ _ _ _ :: _) _ _)); refine wpl_set1 hE 0 rfl rfl rfl (off := k) rfl (v := .int .u64 ((q % 65536 : Nat) : Int)) rfl Tryd.sizeOf58 rfl rfl (by rw [List.length_map, Hlen.out]; omega) ?_; clear hE; intro w5 hE; simp only [List.set_cons_zero] at hE; rw [u64_set, ← Hnext.out] at hE))
      go_roundw
      case rel => exact ⟨k + 1, hlt, by simp, by rw [Hq.out]; simp, hE⟩
      case measure => simp [intOf]; omega
    · obtain rfl : k = 4 := by omega
      have Hs := SL.hid (show ((wideAt n 4).map u64v).length = 9 by rw [List.length_map, wideAt_len])
      have Hone := SL.hid (u64_one (wideAt n 4))
      go_wp2_with (first
        | go_skip
        | ((with_reducible (show Go.wpList _ _ _ (Go.Oper.mk _ (.load _ _) _ _ _ _ :: _) _ _)); refine wpl_loadW hE 0 rfl rfl rfl rfl Tryd.isAgg161 Tryd.sizeOf161 Hs.out ?_)
        | ((with_reducible (show Go.wpList _ _ _ (Go.Oper.mk _ (.store _ _ _) _ _ _ _ :: _) _ _)); refine wpl_storeN hE 1 rfl rfl rfl rfl rfl Tryd.sizeOf161 Hs.out Hone.out rfl ?_; clear hE; intro w9 hE; simp only [List.set_cons_zero, List.set_cons_succ] at hE))
      refine bodyPost_ret (results_cellA rfl hE 1 rfl rfl Tryd.isAgg161 Tryd.sizeOf161 Hs.out) rfl ⟨_, rfl, rfl, hE.tail.tail⟩
end Go.Proofs.YtehfbokkcamliaaDoor
namespace Go.Proofs.YtehfbokkcamliaaDoor
open Go.RowKit Go.SL

def tNum (o x y c : Nat) : Nat := ((o + x * y % 18446744073709551616) % 18446744073709551616 + c) % 18446744073709551616
theorem tNum_lt (o x y c : Nat) : tNum o x y c < 18446744073709551616 := Nat.mod_lt _ (by decide)
theorem tNum_int (o x y c : Nat) : IntKind.u64.wrap (IntKind.u64.wrap ((o : Int) + IntKind.u64.wrap ((x : Int) * (y : Int))) + (c : Int)) = ((tNum o x y c : Nat) : Int) := by
  simp only [IntKind.wrap_u64, tNum]
  rw [← Int.natCast_mul]
  generalize x * y = z
  omega
def tIn (a b : List Nat) (i : Nat) (s : List Nat) : Nat → List Nat × Nat
  | 0 => (s, 0)
  | k + 1 => ((tIn a b i s k).1.set (i + k) (tNum ((tIn a b i s k).1.getD (i + k) 0) (a.getD i 0) (b.getD k 0) (tIn a b i s k).2 % 65536), tNum ((tIn a b i s k).1.getD (i + k) 0) (a.getD i 0) (b.getD k 0) (tIn a b i s k).2 / 65536)
def tOut (a b : List Nat) : Nat → List Nat
  | 0 => zero9
  | i + 1 => (tIn a b i (tOut a b i) (9 - i)).1
def timesL (a b : List Nat) : List Nat := tOut a b 9
theorem tIn_len {a b s : List Nat} {i : Nat} (h : s.length = 9) : ∀ k, (tIn a b i s k).1.length = 9
  | 0 => h
  | k + 1 => by rw [tIn, List.length_set, tIn_len h k]
theorem tOut_len (a b : List Nat) : ∀ i, (tOut a b i).length = 9
  | 0 => rfl
  | i + 1 => tIn_len (tOut_len a b i) _

def lessAt (a b : List Nat) : Nat → Bool
  | 0 => false
  | i + 1 => if a.getD i 0 = b.getD i 0 then lessAt a b i else decide (a.getD i 0 < b.getD i 0)
def lessL (a b : List Nat) : Bool := lessAt a b 9

abbrev wideV (r : List Nat) : Value := .agg (r.map u64v).toArray

def TimesRel (a b : List Nat) (bo : Nat) (l : List HProp) (i : Value) (wr : World) : Prop :=
  ∃ k : Nat, k ≤ 9 ∧ i = .int .i64 k ∧ Ent (u64c bo 161 (tOut a b k) :: l) wr
def TimesIn (a b : List Nat) (bo i : Nat) (l : List HProp) (c k : Value) (wr : World) : Prop :=
  ∃ j : Nat, i + j ≤ 9 ∧ k = .int .i64 j ∧ c = .int .u64 (((tIn a b i (tOut a b i) j).2 : Nat) : Int) ∧ Ent (u64c bo 161 (tIn a b i (tOut a b i) j).1 :: l) wr

set_option maxRecDepth 100000 in
set_option maxHeartbeats 1000000 in
theorem times_any {l : List HProp} {w : World} {a b : List Nat} (ha : a.length = 9) (hb : b.length = 9) (hE : Ent l w) :
    Calls Tryd.prog 92 #[wideV a, wideV b] w (Ret fun v w' => v = wideV (timesL a b) ∧ Ent l w') := by
  have Ha := SL.hid ha
  have Hb := SL.hid hb
  have Hma : RowKit.Hid ((wideV a).cells = (a.map u64v).toArray) := SL.hid rfl
  clear ha hb
  go_enter Tryd.func92, Tryd.ntmps92
  go_wp2_with (first
    | go_skip
    | ((with_reducible (show Go.wpList _ _ _ (Go.Oper.mk _ (.box _ _) _ _ _ _ :: _) _ _)); refine wpl_box hE rfl rfl (v := wideV a) rfl ?_; clear hE; intro ba w1 hE1; simp only [Value.cells] at hE1)
    | ((with_reducible (show Go.wpList _ _ _ (Go.Oper.mk _ (.box _ _) _ _ _ _ :: _) _ _)); refine wpl_box hE1 rfl rfl (v := wideV b) rfl ?_; clear hE1; intro bb w1 hE2; simp only [Value.cells] at hE2)
    | ((with_reducible (show Go.wpList _ _ _ (Go.Oper.mk _ (.alloc _) _ _ _ _ :: _) _ _)); refine wpl_allocL hE2 rfl rfl (zs := zero9.map u64v) (size := 9) (bytes := 72) (by kernel_rfl) ?_; clear hE2; intro b0 w1 hE3)
    | ((with_reducible (show Go.wpList _ _ _ (Go.Oper.mk _ (.alloc _) _ _ _ _ :: _) _ _)); refine wpl_allocL hE3 rfl rfl (zs := zero9.map u64v) (size := 9) (bytes := 72) (by kernel_rfl) ?_; clear hE3; intro bo w1 hE))
  go_loopw [6] (fun i wr => TimesRel a b bo (u64c b0 161 zero9 :: u64c bb 161 b :: u64c ba 161 a :: l) i wr) (fun i _ => 9 - (intOf i).toNat)
  case atStart => exact ⟨0, Nat.zero_le _, rfl, hE⟩
  case round =>
    clear hE
    obtain ⟨i, hi, rfl, hE⟩ := hrel
    by_cases hlt : i < 9
    · have ii : (i : Int) < 9 := by omega
      have hI : Ent (u64c bo 161 (tIn a b i (tOut a b i) 0).1 :: u64c b0 161 zero9 :: u64c bb 161 b :: u64c ba 161 a :: l) wr := hE
      clear hE
      have Hfin : RowKit.Hid (tOut a b (i + 1) = (tIn a b i (tOut a b i) (9 - i)).1) := SL.hid rfl
      have Hsl := SL.hid (tOut_len a b i)
      go_wp2_with (first | go_skip)
      go_loopw [7, 8] (fun c k wr => TimesIn a b bo i (u64c b0 161 zero9 :: u64c bb 161 b :: u64c ba 161 a :: l) c k wr) (fun _ k _ => 9 - (intOf k).toNat)
      case atStart => exact ⟨0, by omega, rfl, rfl, hI⟩
      case round =>
        clear hI
        obtain ⟨k, hk, rfl, rfl, hE⟩ := hrel
        have Hlen := SL.hid (tIn_len (a := a) (b := b) (i := i) Hsl.out k)
        by_cases hlt2 : i + k < 9
        · have hn1 : (tIn a b i (tOut a b i) (k + 1)).1 = (tIn a b i (tOut a b i) k).1.set (i + k) (tNum ((tIn a b i (tOut a b i) k).1.getD (i + k) 0) (a.getD i 0) (b.getD k 0) (tIn a b i (tOut a b i) k).2 % 65536) := rfl
          have hn2 : (tIn a b i (tOut a b i) (k + 1)).2 = tNum ((tIn a b i (tOut a b i) k).1.getD (i + k) 0) (a.getD i 0) (b.getD k 0) (tIn a b i (tOut a b i) k).2 / 65536 := rfl
          obtain ⟨p, hp⟩ : ∃ p, p = i + k := ⟨_, rfl⟩
          rw [← hp] at hn1 hn2
          have q0 := u64_at hE.drew 0 rfl (k := p) (by rw [Hlen.out]; omega)
          have q1 := u64_at hE.drew 3 rfl (k := i) (by rw [Ha.out]; omega)
          have q2 := u64_at hE.drew 2 rfl (k := k) (by rw [Hb.out]; omega)
          generalize (tIn a b i (tOut a b i) k).1 = s at *
          generalize (tIn a b i (tOut a b i) k).2 = c at *
          have e1 := tNum_int (s.getD p 0) (a.getD i 0) (b.getD k 0) c
          have hN := tNum_lt (s.getD p 0) (a.getD i 0) (b.getD k 0) c
          generalize tNum (s.getD p 0) (a.getD i 0) (b.getD k 0) c = N at *
          generalize s.getD p 0 = v0 at *
          generalize a.getD i 0 = v1 at *
          generalize b.getD k 0 = v2 at *
          have x1 : (i : Int) + (k : Int) = (p : Int) := by omega
          have x2 : IntKind.i64.wrap (p : Int) = (p : Int) := wrap_small (by omega)
          have x3 : (p : Int) < 9 := by omega
          have x5 : p < 9 := by omega
          have x4 : (k : Int) < 9 := by omega
          have x6 : IntKind.u64.wrap ((N : Int) / 65536) = (N : Int) / 65536 := by rw [IntKind.wrap_u64]; omega
          have Hn1 := SL.hid hn1
          have Hn2 := SL.hid hn2
          clear hn1 hn2 hp
          go_wp2_with (first | go_skip)
          refine wp_region_held_drew (S := (fun w' => w'.cell? ⟨bo, p, none⟩ = some (.int .u64 (v0 : Int)) ∧ w'.cell? ⟨ba, i, none⟩ = some (.int .u64 (v1 : Int)) ∧ w'.cell? ⟨bb, k, none⟩ = some (.int .u64 (v2 : Int)))) (by kernel_rfl) ⟨q0, q1, q2⟩ (fun hS => ?_)
          refine tV 0 hS ?_; refine tV 1 hS ?_; refine tV 2 hS ?_; refine tV 3 hS ?_; refine tL 4 hS ?_; refine tV 5 hS ?_; refine tV 6 hS ?_; refine tL 7 hS ?_; refine tV 8 hS ?_; refine tV 9 hS ?_; refine tL 10 hS ?_; refine tV 11 hS ?_; refine tV 12 hS ?_; refine tV 13 hS ?_; refine tV 14 hS ?_; refine tV 15 hS ?_
          refine wpAnyH_done (by kernel_rfl) ?_ _
          clear q0 q1 q2 e1 hS
          have hE2 := hE.drew
          clear hE
          go_wp2_with (first
            | go_skip
            | ((with_reducible (show Go.wpList _ _ _ (Go.Oper.mk _ (.store _ _ _) _ _ _ _ :: _) _ _)); refine wpl_set1 hE2 0 rfl rfl rfl (off := p) rfl (v := .int .u64 ((N % 65536 : Nat) : Int)) rfl Tryd.sizeOf58 rfl rfl (by rw [List.length_map, Hlen.out]; exact x5) ?_; clear hE2; intro w5 hE; simp only [List.set_cons_zero] at hE; rw [u64_set, ← Hn1.out] at hE))
          go_roundw
          case rel => exact ⟨k + 1, by omega, by simp, by rw [Hn2.out]; simp, hE⟩
          case measure => simp [intOf]; omega
        · have hk9 : k = 9 - i := by omega
          have x1 : ¬ (i : Int) + (k : Int) < 9 := by omega
          have hE2 : Ent (u64c bo 161 (tOut a b (i + 1)) :: u64c b0 161 zero9 :: u64c bb 161 b :: u64c ba 161 a :: l) wr := by rw [Hfin.out, ← hk9]; exact hE
          clear hk9 hE
          go_wp2_with (first | go_skip)
          go_roundw
          case rel => exact ⟨i + 1, hlt, by simp, hE2⟩
          case measure => simp [intOf]; omega
    · obtain rfl : i = 9 := by omega
      have Hs := SL.hid (show ((tOut a b 9).map u64v).length = 9 by rw [List.length_map, tOut_len])
      have Hone := SL.hid (u64_one (tOut a b 9))
      go_wp2_with (first
        | go_skip
        | ((with_reducible (show Go.wpList _ _ _ (Go.Oper.mk _ (.load _ _) _ _ _ _ :: _) _ _)); refine wpl_loadW hE 0 rfl rfl rfl rfl Tryd.isAgg161 Tryd.sizeOf161 Hs.out ?_)
        | ((with_reducible (show Go.wpList _ _ _ (Go.Oper.mk _ (.store _ _ _) _ _ _ _ :: _) _ _)); refine wpl_storeN hE 1 rfl rfl rfl rfl rfl Tryd.sizeOf161 Hs.out Hone.out rfl ?_; clear hE; intro w9 hE; simp only [List.set_cons_zero, List.set_cons_succ] at hE))
      refine bodyPost_ret (results_cellA rfl hE 1 rfl rfl Tryd.isAgg161 Tryd.sizeOf161 Hs.out) rfl ⟨_, rfl, rfl, hE.tail.tail.tail.tail⟩
end Go.Proofs.YtehfbokkcamliaaDoor
namespace Go.Proofs.YtehfbokkcamliaaDoor
open Go.RowKit Go.SL

def LessRel (a b : List Nat) (bb ba : Nat) (l : List HProp) (i : Value) (wr : World) : Prop :=
  ∃ z : Int, -1 ≤ z ∧ z ≤ 8 ∧ i = .int .i64 z ∧ lessL a b = lessAt a b (z + 1).toNat ∧ Ent (u64c bb 161 b :: u64c ba 161 a :: l) wr

set_option maxRecDepth 100000 in
theorem less_any {l : List HProp} {w : World} {a b : List Nat} (ha : a.length = 9) (hb : b.length = 9) (hE : Ent l w) :
    Calls Tryd.prog 93 #[wideV a, wideV b] w (Ret fun v w' => v = .bool (lessL a b) ∧ Ent l w') := by
  have Ha := SL.hid ha
  have Hb := SL.hid hb
  clear ha hb
  go_enter Tryd.func93, Tryd.ntmps93
  go_wp2_with (first
    | go_skip
    | ((with_reducible (show Go.wpList _ _ _ (Go.Oper.mk _ (.box _ _) _ _ _ _ :: _) _ _)); refine wpl_box hE rfl rfl (v := wideV a) rfl ?_; clear hE; intro ba w1 hE1; simp only [Value.cells] at hE1)
    | ((with_reducible (show Go.wpList _ _ _ (Go.Oper.mk _ (.box _ _) _ _ _ _ :: _) _ _)); refine wpl_box hE1 rfl rfl (v := wideV b) rfl ?_; clear hE1; intro bb w1 hE; simp only [Value.cells] at hE))
  go_loopw [5] (fun i wr => LessRel a b bb ba l i wr) (fun i _ => (intOf i + 1).toNat)
  case atStart => exact ⟨8, by omega, by omega, rfl, rfl, hE⟩
  case round =>
    clear hE
    obtain ⟨z, hz1, hz2, rfl, hl, hE⟩ := hrel
    by_cases hz : 0 ≤ z
    · obtain ⟨k, rfl⟩ := Int.eq_ofNat_of_zero_le hz
      have hk : k < 9 := by omega
      have ik : (k : Int) < 9 := by omega
      rw [show ((k : Int) + 1).toNat = k + 1 from rfl] at hl
      have hl2 : lessL a b = if a.getD k 0 = b.getD k 0 then lessAt a b k else decide (a.getD k 0 < b.getD k 0) := hl
      have q0 := u64_at hE.drew 1 rfl (k := k) (by rw [Ha.out]; omega)
      have q1 := u64_at hE.drew 0 rfl (k := k) (by rw [Hb.out]; omega)
      have q2 := u64_at hE.drew.drew 1 rfl (k := k) (by rw [Ha.out]; omega)
      have q3 := u64_at hE.drew.drew 0 rfl (k := k) (by rw [Hb.out]; omega)
      clear hl
      generalize a.getD k 0 = x at *
      generalize b.getD k 0 = y at *
      by_cases hxy : x = y
      · subst hxy
        rw [if_pos rfl] at hl2
        have Hl := SL.hid hl2
        clear hl2
        go_wp2_with (first | go_skip)
        refine wp_region_held_drew (S := (fun w' => w'.cell? ⟨ba, k, none⟩ = some (.int .u64 (x : Int)) ∧ w'.cell? ⟨bb, k, none⟩ = some (.int .u64 (x : Int)))) (by kernel_rfl) ⟨q0, q1⟩ (fun hS => ?_)
        refine tV 0 hS ?_; refine tV 1 hS ?_; refine tL 2 hS ?_; refine tV 3 hS ?_; refine tV 4 hS ?_; refine tL 5 hS ?_; refine tV 6 hS ?_
        refine wpAnyH_done (by kernel_rfl) ?_ _
        have hE2 := hE.drew
        clear hE q0 q1 q2 q3 hS
        go_wp2_with (first | go_skip)
        go_roundw
        case rel => exact ⟨(k : Int) - 1, by omega, by omega, rfl, by rw [Hl.out, (show ((k : Int) - 1 + 1).toNat = k by omega)], hE2⟩
        case measure => simp [intOf]
      · rw [if_neg hxy] at hl2
        have hne : (x : Int) ≠ (y : Int) := by omega
        have hb1 : ((x : Int) != (y : Int)) = true := by simpa using hne
        have Hl := SL.hid hl2
        clear hl2
        go_wp2_with (first | go_skip)
        refine wp_region_held_drew (S := (fun w' => w'.cell? ⟨ba, k, none⟩ = some (.int .u64 (x : Int)) ∧ w'.cell? ⟨bb, k, none⟩ = some (.int .u64 (y : Int)))) (by kernel_rfl) ⟨q0, q1⟩ (fun hS => ?_)
        refine tV 0 hS ?_; refine tV 1 hS ?_; refine tL 2 hS ?_; refine tV 3 hS ?_; refine tV 4 hS ?_; refine tL 5 hS ?_; refine tV 6 hS ?_
        refine wpAnyH_done (by kernel_rfl) ?_ _
        clear hS
        go_wp2_with (first | go_skip)
        refine wp_region_held_drew (S := (fun w' => w'.cell? ⟨ba, k, none⟩ = some (.int .u64 (x : Int)) ∧ w'.cell? ⟨bb, k, none⟩ = some (.int .u64 (y : Int)))) (by kernel_rfl) ⟨q2, q3⟩ (fun hS => ?_)
        refine tV 0 hS ?_; refine tV 1 hS ?_; refine tL 2 hS ?_; refine tV 3 hS ?_; refine tV 4 hS ?_; refine tL 5 hS ?_; refine tV 6 hS ?_; refine tV 7 hS ?_
        refine wpAnyH_done (by kernel_rfl) ?_ _
        clear hS q0 q1 q2 q3
        go_wp2_with (first | go_skip)
        go_ret
        exact ⟨_, rfl, by rw [Hl.out]; simp, hE.drew.drew.tail.tail⟩
    · obtain rfl : z = -1 := by omega
      have Hl : RowKit.Hid (lessL a b = false) := SL.hid hl
      clear hl
      go_wp2_with (first | go_skip)
      go_ret
      exact ⟨_, rfl, by rw [Hl.out]; rfl, hE.tail.tail⟩

def rootN (prime power : Nat) : List Nat := zero9.set (2 * power) prime
def powL (x : List Nat) : Nat → List Nat
  | 0 => x
  | k + 1 => timesL (powL x k) x
def bitAt (j : Nat) : Nat := 68719476736 / 2 ^ j
def rSum (out bit : Nat) : Nat := (out + bit) % 18446744073709551616
def rStep (prime power out bit : Nat) : Nat := if lessL (rootN prime power) (powL (wideL (rSum out bit)) (power - 1)) then out else rSum out bit
def rootAt (prime power : Nat) : Nat → Nat
  | 0 => 0
  | j + 1 => rStep prime power (rootAt prime power j) (bitAt j)
def rootV (prime power : Nat) : Nat := rootAt prime power 37 % 4294967296
theorem wideL_len (n : Nat) : (wideL n).length = 9 := wideAt_len n 4
theorem powL_len {x : List Nat} (h : x.length = 9) : ∀ k, (powL x k).length = 9
  | 0 => h
  | k + 1 => tOut_len _ _ 9
theorem rSum_lt (a b : Nat) : rSum a b < 18446744073709551616 := Nat.mod_lt _ (by decide)
theorem rootAt_lt (prime power : Nat) : ∀ j, rootAt prime power j < 18446744073709551616
  | 0 => by simp [rootAt]
  | j + 1 => by
    rw [rootAt, rStep]
    split
    · exact rootAt_lt prime power j
    · exact rSum_lt _ _
theorem bit_pos : ∀ j, j < 37 → 0 < bitAt j := by decide
theorem bit_lt (j : Nat) : bitAt j ≤ 68719476736 := Nat.div_le_self _ _
theorem bit_next (j : Nat) : bitAt (j + 1) = bitAt j / 2 := by
  unfold bitAt
  rw [Nat.pow_succ, Nat.div_div_eq_div_mul]

def RootRel (prime power bn : Nat) (l : List HProp) (o b : Value) (wr : World) : Prop :=
  ∃ j : Nat, j ≤ 37 ∧ o = .int .u64 ((rootAt prime power j : Nat) : Int) ∧ b = .int .u64 ((bitAt j : Nat) : Int) ∧ Ent (u64c bn 161 (rootN prime power) :: l) wr
def PowRel (x : List Nat) (power bp : Nat) (l : List HProp) (i : Value) (wr : World) : Prop :=
  ∃ k : Nat, k + 1 ≤ power ∧ i = .int .i64 ((k + 1 : Nat) : Int) ∧ Ent (u64c bp 161 (powL x k) :: l) wr

set_option maxRecDepth 100000 in
set_option maxHeartbeats 1000000 in
theorem Root_any {l : List HProp} {w : World} (prime power : Nat) (hpr : prime < 18446744073709551616) (hp1 : 1 ≤ power) (hp4 : power ≤ 4) (hE : Ent l w) :
    Calls Tryd.prog 59 #[.int .u64 (prime : Int), .int .i64 (power : Int)] w (Ret fun v w' => v = .int .u32 ((rootV prime power : Nat) : Int) ∧ Ent l w') := by
  obtain ⟨p2, hp2⟩ : ∃ p, p = 2 * power := ⟨_, rfl⟩
  have x1 : 2 * (power : Int) = (p2 : Int) := by omega
  have x2 : IntKind.i64.wrap (p2 : Int) = (p2 : Int) := wrap_small (by omega)
  have x3 : (p2 : Int) < 9 := by omega
  have x5 : p2 < 9 := by omega
  have hn0 : rootN prime power = zero9.set p2 prime := by rw [hp2]; rfl
  have Hn0 := SL.hid hn0
  have Hnl : RowKit.Hid ((rootN prime power).length = 9) := SL.hid (by rw [hn0, List.length_set]; rfl)
  clear hn0 hp2
  go_enter Tryd.func59, Tryd.ntmps59
  go_wp2_with (first
    | go_skip
    | ((with_reducible (show Go.wpList _ _ _ (Go.Oper.mk _ (.alloc _) _ _ _ _ :: _) _ _)); refine wpl_allocL hE rfl rfl (zs := zero9.map u64v) (size := 9) (bytes := 72) (by kernel_rfl) ?_; clear hE; intro bn w1 hE1)
    | ((with_reducible (show Go.wpList _ _ _ (Go.Oper.mk _ (.store _ _ _) _ _ _ _ :: _) _ _)); refine wpl_set1 hE1 0 rfl rfl rfl (off := p2) rfl (v := .int .u64 (prime : Int)) rfl Tryd.sizeOf58 rfl rfl (by rw [List.length_map]; exact x5) ?_; clear hE1; intro w5 hE2; simp only [List.set_cons_zero] at hE2; rw [u64_set, ← Hn0.out] at hE2))
  clear x1 x2 x3 x5
  go_loopw [6, 7] (fun o b wr => RootRel prime power bn l o b wr) (fun _ b _ => (intOf b).toNat)
  case atStart => exact ⟨0, Nat.zero_le _, rfl, rfl, hE2⟩
  case round =>
    clear hE2
    obtain ⟨j, hj, rfl, rfl, hE⟩ := hrel
    by_cases hlt : j < 37
    · have hbp := bit_pos j hlt
      have hbl := bit_lt j
      have hol := rootAt_lt prime power j
      have hsl := rSum_lt (rootAt prime power j) (bitAt j)
      have hs1 : IntKind.u64.wrap (((rootAt prime power j : Nat) : Int) + ((bitAt j : Nat) : Int)) = ((rSum (rootAt prime power j) (bitAt j) : Nat) : Int) := by
        rw [IntKind.wrap_u64, rSum]; omega
      have Hnx : RowKit.Hid (rootAt prime power (j + 1) = if lessL (rootN prime power) (powL (wideL (rSum (rootAt prime power j) (bitAt j))) (power - 1)) then rootAt prime power j else rSum (rootAt prime power j) (bitAt j)) := SL.hid rfl
      have Hbn := SL.hid (bit_next j)
      generalize rSum (rootAt prime power j) (bitAt j) = sm at *
      generalize rootAt prime power j = out at *
      generalize bitAt j = bt at *
      have hb2 : IntKind.u64.wrap ((bt : Int) / 2) = (bt : Int) / 2 := by rw [IntKind.wrap_u64]; omega
      have hb3 : (0 : Int) < (bt : Int) := by omega
      have hs2 : ((out : Int) + (bt : Int)) % 18446744073709551616 = (sm : Int) := by rw [← hs1, IntKind.wrap_u64]
      have Hwl := SL.hid (show ((wideL sm).map u64v).length = 9 by rw [List.length_map, wideL_len])
      have Hw9 := SL.hid (wideL_len sm)
      have Hwo := SL.hid (u64_one (wideL sm))
      generalize hx : wideL sm = x at *
      have Hx := SL.hid hx
      clear hx
      go_wp2_with (first
        | go_skip
        | (go_at_call 91; have H := wideN_any sm hsl hE; rw [Hx.out] at H; refine H.mono ?_; clear H hE; rintro e w2 ⟨v, rfl, rfl, hE0⟩)
        | ((with_reducible (show Go.wpList _ _ _ (Go.Oper.mk _ (.alloc _) _ _ _ _ :: _) _ _)); refine wpl_allocN hE0 rfl rfl (n := 9) (by kernel_rfl) ?_; clear hE0; intro bx cs w1 hq hE1)
        | ((with_reducible (show Go.wpList _ _ _ (Go.Oper.mk _ (.store _ _ _) _ _ _ _ :: _) _ _)); refine wpl_storeN hE1 0 rfl rfl rfl (xs := x.map u64v) rfl rfl Tryd.sizeOf161 Hwl.out Hwo.out hq ?_; clear hE1; intro w9 hE2; simp only [List.set_cons_zero] at hE2)
        | ((with_reducible (show Go.wpList _ _ _ (Go.Oper.mk _ (.load _ _) _ _ _ _ :: _) _ _)); refine wpl_loadW hE2 0 rfl rfl rfl rfl Tryd.isAgg161 Tryd.sizeOf161 Hwl.out ?_)
        | ((with_reducible (show Go.wpList _ _ _ (Go.Oper.mk _ (.alloc _) _ _ _ _ :: _) _ _)); refine wpl_allocN hE2 rfl rfl (n := 9) (by kernel_rfl) ?_; clear hE2; intro bp cs2 w1 hq2 hE3)
        | ((with_reducible (show Go.wpList _ _ _ (Go.Oper.mk _ (.store _ _ _) _ _ _ _ :: _) _ _)); refine wpl_storeN hE3 0 rfl rfl rfl (xs := x.map u64v) rfl rfl Tryd.sizeOf161 Hwl.out Hwo.out hq2 ?_; clear hE3; intro w9 hE4; simp only [List.set_cons_zero] at hE4))
      clear hq hq2
      go_loopw [10] (fun i wr => PowRel x power bp (u64c bx 161 x :: u64c bn 161 (rootN prime power) :: l) i wr) (fun i _ => power - (intOf i).toNat)
      case atStart => exact ⟨0, hp1, rfl, hE4⟩
      case round =>
        clear hE4
        obtain ⟨k, hk, rfl, hE⟩ := hrel
        have Hp9 := SL.hid (powL_len Hw9.out k)
        have Hpl := SL.hid (show ((powL x k).map u64v).length = 9 by rw [List.length_map, powL_len Hw9.out])
        by_cases hk2 : k + 1 < power
        · have ik : ((k + 1 : Nat) : Int) < (power : Int) := by omega
          have Hpn : RowKit.Hid (powL x (k + 1) = timesL (powL x k) x) := SL.hid rfl
          have Hpl2 := SL.hid (show ((powL x (k + 1)).map u64v).length = 9 by rw [List.length_map, powL_len Hw9.out])
          have Hpo := SL.hid (u64_one (powL x (k + 1)))
          have hkk : ((k + 1 : Nat) : Int) + 1 = ((k + 1 + 1 : Nat) : Int) := by omega
          have Hkk := SL.hid hkk
          clear hkk
          generalize k + 1 = k1 at *
          generalize powL x k = pk0 at *
          generalize hpk1 : powL x k1 = pk1 at *
          have Hpk1 := SL.hid hpk1
          clear hpk1
          go_wp2_with (first
            | go_skip
            | ((with_reducible (show Go.wpList _ _ _ (Go.Oper.mk _ (.load _ (.tmp 9)) _ _ _ _ :: _) _ _)); refine wpl_loadW hE 0 rfl rfl rfl rfl Tryd.isAgg161 Tryd.sizeOf161 Hpl.out ?_)
            | ((with_reducible (show Go.wpList _ _ _ (Go.Oper.mk _ (.load _ (.tmp 8)) _ _ _ _ :: _) _ _)); refine wpl_loadW hE 1 rfl rfl rfl rfl Tryd.isAgg161 Tryd.sizeOf161 Hwl.out ?_)
            | (go_at_call 92; have H := times_any Hp9.out Hw9.out hE; rw [← Hpn.out] at H; refine H.mono ?_; clear H hE; rintro e w2 ⟨v, rfl, rfl, hE1⟩)
            | ((with_reducible (show Go.wpList _ _ _ (Go.Oper.mk _ (.store _ _ _) _ _ _ _ :: _) _ _)); refine wpl_storeN hE1 0 rfl rfl rfl (xs := pk1.map u64v) rfl rfl Tryd.sizeOf161 Hpl2.out Hpo.out Hpl.out ?_; clear hE1; intro w9 hE2; simp only [List.set_cons_zero] at hE2))
          go_roundw
          case rel => exact ⟨k1, by omega, by rw [← Hkk.out], by rw [Hpk1.out]; exact hE2⟩
          case measure => simp [intOf]; omega
        · have hpk : k + 1 = power := by omega
          have hpk2 : power - 1 = k := by omega
          have Hlt := SL.hid (powL_len Hw9.out k)
          generalize hpx : powL x k = px at *
          have hcond : rootAt prime power (j + 1) = if lessL (rootN prime power) px then out else sm := by rw [Hnx.out, hpk2, hpx]
          have Hrl := SL.hid (show ((rootN prime power).map u64v).length = 9 by rw [List.length_map, Hnl.out])
          clear hpx hpk2
          rw [hpk]
          clear hpk hk hk2 k
          cases hls : lessL (rootN prime power) px with
          | true =>
            rw [hls] at hcond
            have Hc : RowKit.Hid (rootAt prime power (j + 1) = out) := SL.hid hcond
            have Hls := SL.hid hls
            clear hcond hls
            go_wp2_with (first
              | go_skip
              | ((with_reducible (show Go.wpList _ _ _ (Go.Oper.mk _ (.load _ (.tmp 5)) _ _ _ _ :: _) _ _)); refine wpl_loadW hE 2 rfl rfl rfl rfl Tryd.isAgg161 Tryd.sizeOf161 Hrl.out ?_)
              | ((with_reducible (show Go.wpList _ _ _ (Go.Oper.mk _ (.load _ (.tmp 9)) _ _ _ _ :: _) _ _)); refine wpl_loadW hE 0 rfl rfl rfl rfl Tryd.isAgg161 Tryd.sizeOf161 Hpl.out ?_)
              | (go_at_call 93; have H := less_any Hnl.out Hlt.out hE; rw [Hls.out] at H; refine H.mono ?_; clear H hE; rintro e w2 ⟨v, rfl, rfl, hE1⟩))
            go_roundw
            case rel => exact ⟨j + 1, hlt, by rw [Hc.out], by rw [Hbn.out]; simp, hE1.tail.tail⟩
            case measure => simp [intOf]; omega
          | false =>
            rw [hls] at hcond
            have Hc : RowKit.Hid (rootAt prime power (j + 1) = sm) := SL.hid hcond
            have Hls := SL.hid hls
            clear hcond hls
            go_wp2_with (first
              | go_skip
              | ((with_reducible (show Go.wpList _ _ _ (Go.Oper.mk _ (.load _ (.tmp 5)) _ _ _ _ :: _) _ _)); refine wpl_loadW hE 2 rfl rfl rfl rfl Tryd.isAgg161 Tryd.sizeOf161 Hrl.out ?_)
              | ((with_reducible (show Go.wpList _ _ _ (Go.Oper.mk _ (.load _ (.tmp 9)) _ _ _ _ :: _) _ _)); refine wpl_loadW hE 0 rfl rfl rfl rfl Tryd.isAgg161 Tryd.sizeOf161 Hpl.out ?_)
              | (go_at_call 93; have H := less_any Hnl.out Hlt.out hE; rw [Hls.out] at H; refine H.mono ?_; clear H hE; rintro e w2 ⟨v, rfl, rfl, hE1⟩))
            go_roundw
            case rel => exact ⟨j + 1, hlt, by rw [Hc.out], by rw [Hbn.out]; simp, hE1.tail.tail⟩
            case measure => simp [intOf]; omega
    · obtain rfl : j = 37 := by omega
      have hb0 : bitAt 37 = 0 := by decide
      have hrl := rootAt_lt prime power 37
      have Hv : RowKit.Hid (rootV prime power = rootAt prime power 37 % 4294967296) := SL.hid rfl
      generalize rootAt prime power 37 = r at *
      have c1 : IntKind.u32.wrap ((r : Int) % 4294967296) = (r : Int) % 4294967296 := by rw [IntKind.wrap_u32']; omega
      go_wp2_with (first | go_skip)
      go_ret
      exact ⟨_, rfl, by rw [Hv.out]; simp, hE.tail⟩
end Go.Proofs.YtehfbokkcamliaaDoor
namespace Go.Proofs.YtehfbokkcamliaaDoor
open Go.RowKit Go.SL

def primesAt : Nat → List Nat
  | 0 => []
  | j + 1 => if (primesAt j).all (fun p => n_mod (2 + j) p) then primesAt j ++ [2 + j] else primesAt j
where n_mod (n p : Nat) : Bool := n % p != 0
theorem primesAt_succ (j : Nat) : primesAt (j + 1) = if (primesAt j).all (fun p => primesAt.n_mod (2 + j) p) then primesAt j ++ [2 + j] else primesAt j := rfl
theorem primesAt_pos : ∀ j, ∀ p ∈ primesAt j, 0 < p ∧ p ≤ 1 + j
  | 0, p, h => by cases h
  | j + 1, p, h => by
    rw [primesAt_succ] at h
    split at h
    · simp only [List.mem_append, List.mem_singleton] at h
      rcases h with h | rfl
      · have := primesAt_pos j p h; omega
      · omega
    · have := primesAt_pos j p h; omega
theorem primesAt_mono : ∀ j, (primesAt j).length ≤ (primesAt (j + 1)).length := fun j => by
  rw [primesAt_succ]
  split
  · simp
  · exact Nat.le_refl _
theorem primesAt_le (j : Nat) : ∀ d, (primesAt j).length ≤ (primesAt (j + d)).length
  | 0 => Nat.le_refl _
  | d + 1 => Nat.le_trans (primesAt_le j d) (primesAt_mono _)
def primes64 : List Nat := [2, 3, 5, 7, 11, 13, 17, 19, 23, 29, 31, 37, 41, 43, 47, 53, 59, 61, 67, 71, 73, 79, 83, 89, 97, 101, 103, 107, 109, 113, 127, 131, 137, 139, 149, 151, 157, 163, 167, 173, 179, 181, 191, 193, 197, 199, 211, 223, 227, 229, 233, 239, 241, 251, 257, 263, 269, 271, 277, 281, 283, 293, 307, 311]
set_option maxRecDepth 100000 in
theorem primes_310 : primesAt 310 = primes64 := by decide +kernel
set_option maxRecDepth 100000 in
theorem primes_309 : (primesAt 309).length = 63 := by decide +kernel
theorem primes_few {j : Nat} (h : j < 310) : (primesAt j).length < 64 := by
  have := primesAt_le j (309 - j)
  rw [show j + (309 - j) = 309 by omega, primes_309] at this
  omega

theorem info64 : elemInfo Tryd.prog 58 = some (some 1, 1, 8) := by kernel_rfl

def PrRel (l : List HProp) (s n : Value) (wr : World) : Prop :=
  ∃ (j : Nat) (ao : Option Addr) (c : Nat), j ≤ 310 ∧ s = .slice ao (primesAt j).length c ∧ n = .int .u64 ((2 + j : Nat) : Int) ∧ Ent (row 58 1 (.slice ao (primesAt j).length c) (primesAt j).length ((primesAt j).map u64v) :: l) wr
def IsRel (ps : List Nat) (n : Nat) (L : List HProp) (b i : Value) (wr : World) : Prop :=
  ∃ (k : Nat) (f : Bool), k ≤ ps.length ∧ i = .int .i64 k ∧ b = .bool f ∧ f = (ps.take k).all (fun p => primesAt.n_mod n p) ∧ Ent L wr

set_option maxRecDepth 100000 in
set_option maxHeartbeats 1000000 in
theorem Primes_64 {l : List HProp} {w : World} (hE : Ent l w) :
    Calls Tryd.prog 58 #[.int .i64 64] w (Ret fun v w' => ∃ ao c, v = .slice ao 64 c ∧ Ent (row 58 1 (.slice ao 64 c) 64 (primes64.map u64v) :: l) w') := by
  go_enter Tryd.func58, Tryd.ntmps58
  go_wp2_with (first | go_skip)
  go_loopw [3, 4] (fun s n wr => PrRel l s n wr) (fun _ n _ => 312 - (intOf n).toNat)
  case atStart => exact ⟨0, none, 0, Nat.zero_le _, rfl, rfl, hE.nil _ _⟩
  case round =>
    clear hE
    obtain ⟨j, ao, c, hj, rfl, rfl, hE⟩ := hrel
    by_cases hlt : j < 310
    · have hfew := primes_few hlt
      have hpos := primesAt_pos j
      have hsucc := primesAt_succ j
      have hfi : ((primesAt j).length : Int) < 64 := by omega
      have Hpos := SL.hid hpos
      have Hsucc := SL.hid hsucc
      clear hpos hsucc
      have hn1 : (((2 + j : Nat) : Int)) + 1 = ((2 + (j + 1) : Nat) : Int) := by omega
      have hnl : 2 + j < 1000 := by omega
      have Hn1 := SL.hid hn1
      have hnj : 2 + j ≤ 311 := by omega
      generalize hps : primesAt j = ps at *
      obtain ⟨n, hn⟩ : ∃ n, n = 2 + j := ⟨_, rfl⟩
      rw [← hn] at Hn1 Hsucc hnl hnj ⊢
      have Hps := SL.hid hps
      have Hn := SL.hid hn
      clear hps hn1 hn
      go_wp2_with (first | go_skip)
      go_loopw [5, 6] (fun b i wr => IsRel ps n (row 58 1 (.slice ao ps.length c) ps.length (ps.map u64v) :: l) b i wr) (fun _ i _ => ps.length - (intOf i).toNat)
      case atStart => exact ⟨0, true, Nat.zero_le _, rfl, rfl, rfl, hE⟩
      case round =>
        clear hE
        obtain ⟨k, f, hk, rfl, rfl, hf, hE⟩ := hrel
        have Hf := SL.hid hf
        clear hf
        by_cases hk2 : k < ps.length
        · have ik : (k : Int) < (ps.length : Int) := by omega
          have hnext : (ps.take (k + 1)).all (fun p => primesAt.n_mod n p) = (f && primesAt.n_mod n (ps.getD k 0)) := by
            rw [List.take_add_one, List.all_append, ← Hf.out, List.getD_eq_getElem?_getD, List.getElem?_eq_getElem hk2]; simp
          obtain ⟨g, rfl, _, _⟩ := hE.rowIs 0 rfl (by omega)
          have c0 := hE.rowCell 0 rfl (j := k) (u := .int .u64 ((ps.getD k 0 : Nat) : Int)) (by simp [hk2, u64v, List.getD_eq_getElem?_getD])
          have hp0 : 0 < ps.getD k 0 ∧ ps.getD k 0 ≤ 1 + j := by
            rw [List.getD_eq_getElem?_getD, List.getElem?_eq_getElem hk2]
            exact Hpos.out _ (List.getElem_mem hk2)
          generalize ps.getD k 0 = p at *
          have hp1 : (p : Int) ≠ 0 := by omega
          have hp2 : ((p : Int) == 0) = false := by simpa using hp1
          have hmod : ((n : Int)).tmod (p : Int) = ((n % p : Nat) : Int) := by simp [Int.tmod_eq_emod_of_nonneg]
          have hmod2 : ((n : Int)) % (p : Int) = ((n % p : Nat) : Int) := by simp
          have hnm : primesAt.n_mod n p = (n % p != 0) := rfl
          have hlm : n % p < 1000 := Nat.lt_of_le_of_lt (Nat.mod_le _ _) hnl
          generalize n % p = m at *
          have hmb : ((m : Int) != 0) = (m != 0) := by rw [Bool.eq_iff_iff]; simp
          have Hmb := SL.hid hmb
          clear hmb
          have hw : IntKind.u64.wrap (m : Int) = (m : Int) := by rw [IntKind.wrap_u64]; omega
          have Hnext := SL.hid hnext
          have Hnm := SL.hid hnm
          clear hnext hnm
          cases f with
          | false =>
            go_wp2_with (first | go_skip)
            go_roundw
            case rel => exact ⟨k + 1, false, hk2, by simp, rfl, by rw [Hnext.out]; rfl, hE⟩
            case measure => simp [intOf]; omega
          | true =>
            go_wp2_with (first | go_skip)
            go_roundw
            case rel => exact ⟨k + 1, m != 0, hk2, by simp, by rw [Hmb.out], by rw [Hnext.out, Hnm.out]; rfl, hE⟩
            case measure => simp [intOf]; omega
        · obtain rfl : k = ps.length := by omega
          have hall : f = ps.all (fun p => primesAt.n_mod n p) := by rw [Hf.out, List.take_length]
          rw [← hall] at Hsucc
          clear hall hk hk2
          have ik : ¬ (ps.length : Int) < (ps.length : Int) := by omega
          cases f with
          | false =>
            have Hs : RowKit.Hid (primesAt (j + 1) = ps) := SL.hid Hsucc.out
            go_wp2_with (first | go_skip)
            go_roundw
            case rel => exact ⟨j + 1, ao, c, hlt, by rw [Hs.out], by rw [← Hn1.out], by rw [Hs.out]; exact hE⟩
            case measure => simp [intOf]; omega
          | true =>
            have Hs : RowKit.Hid (primesAt (j + 1) = ps ++ [n]) := SL.hid Hsucc.out
            go_wp2_with (first
              | go_skip
              | ((with_reducible (show Go.wpList _ _ _ (Go.Oper.mk _ (.call _) _ _ _ _ :: _) _ _)); refine wpl_appendG (hE.alloc _) 1 rfl rfl rfl rfl rfl Tryd.underlying123 info64 (by decide) (m := 1) (news := [.int .u64 (n : Int)]) (reads_pt (hE.alloc _) 0 rfl (off := 0) (fun j u hu => by simpa using hu)) rfl (by simp [Value.oneCell']) (by omega) (by omega) ?_; clear hE; intro ao2 c2 w2 hE; simp only [List.set_cons_succ, List.set_cons_zero] at hE))
            go_roundw
            case rel => exact ⟨j + 1, ao2, c2, hlt, by rw [Hs.out, List.length_append]; rfl, by rw [← Hn1.out], by rw [Hs.out, List.length_append, List.map_append]; exact hE.tail⟩
            case measure => simp [intOf]; omega
    · obtain rfl : j = 310 := by omega
      have hl64 : (primesAt 310).length = 64 := by rw [primes_310]; rfl
      rw [hl64, primes_310] at hE
      rw [hl64]
      clear hl64 hlt hj
      go_wp2_with (first | go_skip)
      go_ret
      exact ⟨_, rfl, ao, c, rfl, hE⟩
end Go.Proofs.YtehfbokkcamliaaDoor
namespace Go.Proofs.YtehfbokkcamliaaDoor
open Go.RowKit Go.SL

def pr (i : Nat) : Nat := primes64.getD i 0
def tabAt : Nat → List Nat
  | 0 => List.replicate 72 0
  | i + 1 => if i < 8 then ((tabAt i).set i (rootV (pr i) 3)).set (64 + i) (rootV (pr i) 2) else (tabAt i).set i (rootV (pr i) 3)
theorem tabAt_len : ∀ i, (tabAt i).length = 72
  | 0 => rfl
  | i + 1 => by
    rw [tabAt]
    split <;> simp [tabAt_len i]
theorem pr_lt (i : Nat) : pr i < 1000 := by
  unfold pr
  rw [List.getD_eq_getElem?_getD]
  cases h : primes64[i]? with
  | none => simp
  | some x =>
    have : ∀ x ∈ primes64, x < 1000 := by decide
    exact this x (List.mem_of_getElem? h)
abbrev tabV (r : List Nat) : Value := .agg (r.map u32v).toArray
theorem u32_set (r : List Nat) (k n : Nat) : (r.map u32v).set k (.int .u32 (n : Int)) = (r.set k n).map u32v := by
  rw [List.map_set]; rfl
theorem u32_one (r : List Nat) : ∀ u ∈ r.map u32v, u.oneCell' = true := by
  intro u hu
  obtain ⟨_, _, rfl⟩ := List.mem_map.1 hu
  rfl
def TabRel (bt : Nat) (l : List HProp) (i : Value) (wr : World) : Prop :=
  ∃ k : Nat, k ≤ 64 ∧ i = .int .i64 k ∧ Ent (pt bt (.cells ((tabAt k).map u32v).toArray 85 (0, 0)) :: l) wr

set_option maxRecDepth 100000 in
set_option maxHeartbeats 1000000 in
theorem Tables_any {l : List HProp} {w : World} (hE : Ent l w) :
    Calls Tryd.prog 28 #[] w (Ret fun v w' => v = tabV (tabAt 64) ∧ Ent l w') := by
  go_enter Tryd.func28, Tryd.ntmps28
  go_wp2_with (first
    | go_skip
    | ((with_reducible (show Go.wpList _ _ _ (Go.Oper.mk _ (.alloc _) _ _ _ _ :: _) _ _)); refine wpl_allocL hE rfl rfl (zs := (List.replicate 72 0).map u32v) (size := 72) (bytes := 288) (by kernel_rfl) ?_; clear hE; intro b0 w1 hE1)
    | ((with_reducible (show Go.wpList _ _ _ (Go.Oper.mk _ (.alloc _) _ _ _ _ :: _) _ _)); refine wpl_allocL hE1 rfl rfl (zs := (List.replicate 72 0).map u32v) (size := 72) (bytes := 288) (by kernel_rfl) ?_; clear hE1; intro bt w1 hE2)
    | (go_at_call 58; refine (Primes_64 hE2).mono ?_; clear hE2; rintro e w2 ⟨v, rfl, ao, c, rfl, hE3⟩))
  obtain ⟨g, rfl, _, _⟩ := hE3.rowIs 0 rfl (by omega)
  have hE4 : Ent (pt bt (.cells ((tabAt 0).map u32v).toArray 85 (0, 0)) :: row 58 1 (.slice (some ⟨g, 0, none⟩) 64 c) 64 (primes64.map u64v) :: u32c b0 85 (List.replicate 72 0) :: l) w2 := hE3.front 1 rfl
  clear hE3
  go_loopw [3] (fun i wr => TabRel bt (row 58 1 (.slice (some ⟨g, 0, none⟩) 64 c) 64 (primes64.map u64v) :: u32c b0 85 (List.replicate 72 0) :: l) i wr) (fun i _ => 64 - (intOf i).toNat)
  case atStart => exact ⟨0, Nat.zero_le _, rfl, hE4⟩
  case round =>
    clear hE4
    obtain ⟨k, hk, rfl, hE⟩ := hrel
    have Htl := SL.hid (tabAt_len k)
    by_cases hlt : k < 64
    · have ik : (k : Int) < 64 := by omega
      have hpk : (primes64.map u64v)[k]? = some (.int .u64 ((pr k : Nat) : Int)) := by
        have : k < primes64.length := hlt
        simp [this, u64v, pr, List.getD_eq_getElem?_getD]
      have c0 := hE.rowCell 1 rfl hpk
      have hprl := pr_lt k
      have Hn : RowKit.Hid (tabAt (k + 1) = if k < 8 then ((tabAt k).set k (rootV (pr k) 3)).set (64 + k) (rootV (pr k) 2) else (tabAt k).set k (rootV (pr k) 3)) := SL.hid rfl
      generalize tabAt k = t0 at *
      generalize pr k = p at *
      have Hpk := SL.hid hpk
      clear hpk
      have hR3 : ∀ (w : World) (L : List HProp), Ent L w → Calls Tryd.prog 59 #[.int .u64 (p : Int), .int .i64 3] w (Ret fun v w' => v = .int .u32 ((rootV p 3 : Nat) : Int) ∧ Ent L w') := fun w L h => Root_any p 3 (by omega) (by omega) (by omega) h
      have hR2 : ∀ (w : World) (L : List HProp), Ent L w → Calls Tryd.prog 59 #[.int .u64 (p : Int), .int .i64 2] w (Ret fun v w' => v = .int .u32 ((rootV p 2 : Nat) : Int) ∧ Ent L w') := fun w L h => Root_any p 2 (by omega) (by omega) (by omega) h
      generalize rootV p 3 = v3 at *
      generalize rootV p 2 = v2 at *
      have HR3 := SL.hid hR3
      have HR2 := SL.hid hR2
      clear hR3 hR2
      by_cases hk8 : k < 8
      · have ik8 : (k : Int) < 8 := by omega
        have hn1 := Hn.out
        rw [if_pos hk8] at hn1
        have Hn1 := SL.hid hn1
        have Ht2 := SL.hid (show (t0.set k v3).length = 72 by rw [List.length_set, Htl.out])
        clear hn1 Hn
        go_wp2_with (first
          | go_skip
          | (go_at_call 59; have HH := HR3.out _ _ hE; refine HH.mono ?_; clear HH; clear hE c0; rintro e w2 ⟨v, rfl, rfl, hE1⟩)
          | ((with_reducible (show Go.wpList _ _ _ (Go.Oper.mk _ (.store _ _ _) _ _ _ _ :: _) _ _)); refine wpl_set1 hE1 0 rfl rfl rfl (off := k) rfl (v := .int .u32 (v3 : Int)) rfl Tryd.sizeOf53 rfl rfl (by rw [List.length_map, Htl.out]; omega) ?_; clear hE1; intro w5 hE2; simp only [List.set_cons_zero] at hE2; rw [u32_set] at hE2; have c0 := hE2.rowCell 1 rfl Hpk.out)
          | (go_at_call 59; have HH := HR2.out _ _ hE2; refine HH.mono ?_; clear HH; clear hE2 c0; rintro e w2 ⟨v, rfl, rfl, hE3⟩)
          | ((with_reducible (show Go.wpList _ _ _ (Go.Oper.mk _ (.store _ _ _) _ _ _ _ :: _) _ _)); refine wpl_set1 hE3 0 rfl rfl rfl (off := 64 + k) rfl (v := .int .u32 (v2 : Int)) rfl Tryd.sizeOf53 rfl rfl (by rw [List.length_map, Ht2.out]; omega) ?_; clear hE3; intro w5 hE4; simp only [List.set_cons_zero] at hE4; rw [u32_set, ← Hn1.out] at hE4))
        go_roundw
        case rel => exact ⟨k + 1, hlt, by simp, hE4⟩
        case measure => simp [intOf]; omega
      · have ik8 : ¬ (k : Int) < 8 := by omega
        have hn1 := Hn.out
        rw [if_neg hk8] at hn1
        have Hn1 := SL.hid hn1
        clear hn1 Hn
        go_wp2_with (first
          | go_skip
          | (go_at_call 59; have HH := HR3.out _ _ hE; refine HH.mono ?_; clear HH; clear hE c0; rintro e w2 ⟨v, rfl, rfl, hE1⟩)
          | ((with_reducible (show Go.wpList _ _ _ (Go.Oper.mk _ (.store _ _ _) _ _ _ _ :: _) _ _)); refine wpl_set1 hE1 0 rfl rfl rfl (off := k) rfl (v := .int .u32 (v3 : Int)) rfl Tryd.sizeOf53 rfl rfl (by rw [List.length_map, Htl.out]; omega) ?_; clear hE1; intro w5 hE2; simp only [List.set_cons_zero] at hE2; rw [u32_set, ← Hn1.out] at hE2))
        go_roundw
        case rel => exact ⟨k + 1, hlt, by simp, hE2⟩
        case measure => simp [intOf]; omega
    · obtain rfl : k = 64 := by omega
      simp only [show ((64 : Nat) : Int) = 64 from rfl]
      have Hs := SL.hid (show ((tabAt 64).map u32v).length = 72 by rw [List.length_map, Htl.out])
      have Hone := SL.hid (u32_one (tabAt 64))
      generalize hts : (tabAt 64).map u32v = ts at *
      have Hts := SL.hid hts
      clear hts
      go_wp2_with (first
        | go_skip
        | ((with_reducible (show Go.wpList _ _ _ (Go.Oper.mk _ (.load _ _) _ _ _ _ :: _) _ _)); refine wpl_loadW hE 0 rfl rfl rfl rfl Tryd.isAgg85 Tryd.sizeOf85 Hs.out ?_)
        | ((with_reducible (show Go.wpList _ _ _ (Go.Oper.mk _ (.store _ _ _) _ _ _ _ :: _) _ _)); refine wpl_storeN hE 2 rfl rfl rfl (xs := ts) rfl rfl Tryd.sizeOf85 Hs.out Hone.out rfl ?_; clear hE; intro w9 hE; simp only [List.set_cons_zero, List.set_cons_succ] at hE))
      refine bodyPost_ret (results_cellA rfl hE 2 rfl rfl Tryd.isAgg85 Tryd.sizeOf85 Hs.out) rfl ⟨_, rfl, by rw [← Hts.out], hE.tail.tail.tail⟩
end Go.Proofs.YtehfbokkcamliaaDoor
namespace Go.Proofs.YtehfbokkcamliaaDoor
open Go.RowKit Go.SL

theorem bytes_add3 (a b : List UInt8) : (⟨a.toArray⟩ : ByteArray) ++ ⟨b.toArray⟩ = ⟨(a ++ b).toArray⟩ := by
  apply ByteArray.ext
  simp [ByteArray.data_append]
theorem run_index_str {P : Program} {t : TypeId} (h : P.underlying t = some .string) {bs : List UInt8} {k : Nat} (hk : k < bs.length) (w : World) :
    (Instr.index t (.string ⟨bs.toArray⟩) (.int .i64 (k : Int))).run P w = .ok (.int .u8 ((bs.getD k 0).toNat : Int)) w := by
  have h1 : (⟨bs.toArray⟩ : ByteArray)[k]? = some (bs.getD k 0) := by
    rw [List.getD_eq_getElem?_getD, List.getElem?_eq_getElem hk]
    have : k < (⟨bs.toArray⟩ : ByteArray).size := by simpa [ByteArray.size] using hk
    rw [getElem?_pos (⟨bs.toArray⟩ : ByteArray) k this]
    simp [ByteArray.getElem_eq_getElem_data]
  simp [Instr.index, asIntOf, run_underlying h, h1]

def zNeed (n : Nat) : Nat := (119 - n % 64) % 64
def padB (bs : List UInt8) (z : Nat) : List UInt8 := bs ++ [128] ++ List.replicate z 0
def padR (bs : List UInt8) : List UInt8 := padB bs (zNeed bs.length) ++ lastOf8 (bs.length * 8)
theorem padB_len (bs : List UInt8) (z : Nat) : (padB bs z).length = bs.length + 1 + z := by simp [padB]; omega
theorem padR_len (bs : List UInt8) : (padR bs).length = bs.length + 9 + zNeed bs.length := by
  rw [padR, List.length_append, padB_len, lastOf8_len]; omega
theorem padR_64 (bs : List UInt8) : (padR bs).length % 64 = 0 := by
  rw [padR_len, zNeed]; omega
theorem padB_next (bs : List UInt8) (z : Nat) : padB bs z ++ [0] = padB bs (z + 1) := by
  unfold padB
  rw [List.append_assoc, ← List.replicate_succ']
theorem last_at {N k : Nat} (hk : k < 8) : (lastOf8 N).take k ++ [UInt8.ofNat (N / 2 ^ (8 * (7 - k)))] = (lastOf8 N).take (k + 1) := by
  rw [List.take_add_one]
  congr 1
  unfold lastOf8
  rw [List.getElem?_map, List.getElem?_range hk]
  rfl

theorem info32 : elemInfo Tryd.prog 53 = some (some 1, 1, 4) := by kernel_rfl
theorem mul_wide (c : UInt8) (k : Nat) (h : k ≤ 16777216) : IntKind.u32.wrap (((c.toNat : Nat) : Int) * (k : Int)) = ((c.toNat * k : Nat) : Int) := shl_wide c k h
theorem word_sum (a b c d : UInt8) (w : Nat) (h : w = a.toNat * 16777216 + b.toNat * 65536 + c.toNat * 256 + d.toNat) : ∃ y0 y1 y2 y3 y4 : Nat,
    IntKind.u32.wrap (((a.toNat : Nat) : Int) * 16777216) = (y0 : Int) ∧ IntKind.u32.wrap (((b.toNat : Nat) : Int) * 65536) = (y1 : Int) ∧ IntKind.u32.wrap (((c.toNat : Nat) : Int) * 256) = (y2 : Int) ∧
    IntKind.u32.wrap ((y0 : Int) + (y1 : Int)) = (y3 : Int) ∧ IntKind.u32.wrap ((y3 : Int) + (y2 : Int)) = (y4 : Int) ∧ IntKind.u32.wrap ((y4 : Int) + ((d.toNat : Nat) : Int)) = (w : Int) := by
  have ha := a.toNat_lt
  have hb := b.toNat_lt
  have hc := c.toNat_lt
  have hd := d.toNat_lt
  refine ⟨a.toNat * 16777216, b.toNat * 65536, c.toNat * 256, a.toNat * 16777216 + b.toNat * 65536, a.toNat * 16777216 + b.toNat * 65536 + c.toNat * 256, shl_wide a 16777216 (by omega), shl_wide b 65536 (by omega), shl_wide c 256 (by omega), ?_, ?_, ?_⟩ <;> rw [IntKind.wrap_u32'] <;> omega

def lenS : Value → Nat
  | .string b => b.size
  | _ => 0
def ZRel (bs : List UInt8) (l : List HProp) (s : Value) (wr : World) : Prop :=
  ∃ z : Nat, z ≤ zNeed bs.length ∧ s = .string ⟨(padB bs z).toArray⟩ ∧ Ent l wr
def LRel (bs : List UInt8) (N : Nat) (l : List HProp) (s i : Value) (wr : World) : Prop :=
  ∃ k : Nat, k ≤ 8 ∧ i = .int .i64 (7 - (k : Int)) ∧ s = .string ⟨(padB bs (zNeed bs.length) ++ (lastOf8 N).take k).toArray⟩ ∧ Ent l wr
def wordsOf (p : List UInt8) (k : Nat) : List Nat := (List.range k).map (wordOf p)
def BRel (p : List UInt8) (l : List HProp) (s i : Value) (wr : World) : Prop :=
  ∃ (k : Nat) (ao : Option Addr) (c : Nat), 4 * k ≤ p.length ∧ i = .int .i64 ((4 * k : Nat) : Int) ∧ s = .slice ao k c ∧ Ent (row 53 1 (.slice ao k c) k ((wordsOf p k).map u32v) :: l) wr

set_option maxRecDepth 100000 in
set_option maxHeartbeats 1000000 in
theorem Blocks_any {l : List HProp} {w : World} {bs : List UInt8} (hb : bs.length ≤ 1000000) (hE : Ent l w) :
    Calls Tryd.prog 111 #[.string ⟨bs.toArray⟩] w (Ret fun v w' => ∃ ao c, v = .slice ao ((padR bs).length / 4) c ∧ Ent (row 53 1 (.slice ao ((padR bs).length / 4) c) ((padR bs).length / 4) ((wordsOf (padR bs) ((padR bs).length / 4)).map u32v) :: l) w') := by
  obtain ⟨N, hN⟩ : ∃ N, N = bs.length * 8 := ⟨_, rfl⟩
  have hpr : padR bs = padB bs (zNeed bs.length) ++ lastOf8 N := by rw [hN]; rfl
  have z1 : IntKind.u64.wrap (bs.length : Int) = (bs.length : Int) := by rw [IntKind.wrap_u64]; omega
  have z2 : IntKind.u64.wrap ((bs.length : Int) * 8) = (N : Int) := by rw [IntKind.wrap_u64, hN]; omega
  have hsz : (⟨bs.toArray⟩ : ByteArray).size = bs.length := by simp [ByteArray.size]
  have hNs : N ≤ 8000000 := by omega
  have Hpr := SL.hid hpr
  clear hpr hN
  have hp0 : (⟨bs.toArray⟩ : ByteArray) ++ ⟨#[128]⟩ = ⟨(padB bs 0).toArray⟩ := by rw [show (#[128] : Array UInt8) = [128].toArray from rfl, bytes_add3]; simp [padB]
  go_enter Tryd.func111, Tryd.ntmps111
  go_wp2_with (first | go_skip)
  have Hz := SL.hid hsz
  clear z1 z2 hsz hp0
  go_loopw [0] (fun s wr => ZRel bs l s wr) (fun s _ => 2000000 - lenS s)
  case atStart => exact ⟨0, Nat.zero_le _, rfl, hE⟩
  case round =>
    clear hE
    obtain ⟨z, hz, rfl, hE⟩ := hrel
    have hs1 : (⟨(padB bs z).toArray⟩ : ByteArray).size = bs.length + 1 + z := by rw [← padB_len bs z]; simp [ByteArray.size]
    have hs2 : (⟨(padB bs z).toArray⟩ : ByteArray) ++ ⟨#[0]⟩ = ⟨(padB bs (z + 1)).toArray⟩ := by rw [show (#[0] : Array UInt8) = [0].toArray from rfl, bytes_add3, padB_next]
    have hs3 : (⟨(padB bs (z + 1)).toArray⟩ : ByteArray).size = bs.length + 1 + (z + 1) := by rw [← padB_len bs (z + 1)]; simp [ByteArray.size]
    have hz64 : zNeed bs.length < 64 := Nat.mod_lt _ (by decide)
    by_cases hlt : z < zNeed bs.length
    · have hr : (bs.length + 1 + z) % 64 ≠ 56 := by unfold zNeed at hlt; omega
      obtain ⟨L, hL⟩ : ∃ L, L = bs.length + 1 + z := ⟨_, rfl⟩
      rw [← hL] at hs1 hr
      have m1 : ((L : Int)).tmod 64 = ((L % 64 : Nat) : Int) := by simp [Int.tmod_eq_emod_of_nonneg]
      have m2 : ((L : Int)) % 64 = ((L % 64 : Nat) : Int) := by simp
      generalize L % 64 = r at *
      have hr2 : ¬ (r : Int) = 56 := by omega
      have hr3 : ((r : Int) != 56) = true := by simpa using hr2
      have hr4 : ((r : Int) == 56) = false := by simpa using hr2
      have HL := SL.hid hL
      have Hs3 := SL.hid hs3
      clear hL hs3
      generalize hS : (⟨(padB bs z).toArray⟩ : ByteArray) = S at *
      generalize hS2 : (⟨(padB bs (z + 1)).toArray⟩ : ByteArray) = S2 at *
      have HS2 := SL.hid hS2
      have Hs1 := SL.hid hs1
      clear hS hS2
      have hL6 : L ≤ 1000100 := by rw [HL.out]; omega
      go_wp2_with (first | go_skip)
      go_roundw
      case rel => exact ⟨z + 1, hlt, by rw [HS2.out], hE⟩
      case measure => show 2000000 - S2.size < 2000000 - S.size; rw [Hs3.out, Hs1.out, HL.out]; omega
    · have hzz : z = zNeed bs.length := by omega
      have hr : (bs.length + 1 + z) % 64 = 56 := by rw [hzz]; unfold zNeed; omega
      clear hs2 hs3
      obtain ⟨L, hL⟩ : ∃ L, L = bs.length + 1 + z := ⟨_, rfl⟩
      rw [← hL] at hs1 hr
      have m1 : ((L : Int)).tmod 64 = 56 := by rw [Int.tmod_eq_emod_of_nonneg (by omega)]; omega
      have m2 : ((L : Int)) % 64 = 56 := by omega
      clear hr
      have hE0 : Ent l wr := hE
      have hrel0 : LRel bs N l (.string ⟨(padB bs z).toArray⟩) (.int .i64 7) wr := ⟨0, by omega, rfl, by rw [hzz]; simp, hE⟩
      generalize hS : (⟨(padB bs z).toArray⟩ : ByteArray) = S at *
      have Hrel0 := SL.hid hrel0
      clear hrel0 hS hzz hlt hz hL hE hE0
      go_wp2_with (first | go_skip)
      clear m1 m2 hs1
      go_loopw [0, 4] (fun s i wr => LRel bs N l s i wr) (fun _ i _ => (intOf i + 1).toNat)
      case atStart => exact Hrel0.out
      case round =>
        clear Hrel0
        obtain ⟨k, hk, rfl, rfl, hE⟩ := hrel
        by_cases hk8 : k < 8
        · have i0 : (0 : Int) ≤ 7 - (k : Int) := by omega
          obtain ⟨d, hd⟩ : ∃ d : Nat, d = 7 - k := ⟨_, rfl⟩
          have hd1 : 7 - (k : Int) = (d : Int) := by omega
          have hd8 : d < 8 := by omega
          have hla := last_at (N := N) hk8
          rw [← hd] at hla
          have hsh := fun w => shr_u64 (P := Tryd.prog) (N := N) hd8 w
          have hsh2 : (N : Int) / 2 ^ (8 * d) = ((N / 2 ^ (8 * d) : Nat) : Int) := by simp
          have c1 := byte_of (N / 2 ^ (8 * d))
          have c2 := byte_of' (N / 2 ^ (8 * d))
          generalize UInt8.ofNat (N / 2 ^ (8 * d)) = xb at *
          generalize N / 2 ^ (8 * d) = sh at *
          have hsz1 : (⟨(padB bs (zNeed bs.length) ++ (lastOf8 N).take k).toArray⟩ : ByteArray).size ≤ 1000200 := by
            have hz64 : zNeed bs.length < 64 := Nat.mod_lt _ (by decide)
            have : (⟨(padB bs (zNeed bs.length) ++ (lastOf8 N).take k).toArray⟩ : ByteArray).size = (padB bs (zNeed bs.length) ++ (lastOf8 N).take k).length := by simp [ByteArray.size]
            rw [this, List.length_append, padB_len, List.length_take]; omega
          have hsz2 : (⟨#[xb]⟩ : ByteArray).size = 1 := rfl
          have hcat : (⟨(padB bs (zNeed bs.length) ++ (lastOf8 N).take k).toArray⟩ : ByteArray) ++ ⟨[xb].toArray⟩ = ⟨(padB bs (zNeed bs.length) ++ (lastOf8 N).take (k + 1)).toArray⟩ := by rw [bytes_add3, List.append_assoc, hla]
          generalize (⟨(padB bs (zNeed bs.length) ++ (lastOf8 N).take k).toArray⟩ : ByteArray) = S at *
          generalize hS2 : (⟨(padB bs (zNeed bs.length) ++ (lastOf8 N).take (k + 1)).toArray⟩ : ByteArray) = S2 at *
          have HS2 := SL.hid hS2
          have Hcat := SL.hid hcat
          rw [hd1]
          have Hd1 := SL.hid hd1
          clear hS2 hla hd hd1 hcat
          go_wp2_with (first
            | go_skip
            | ((with_reducible (show Go.wpList _ _ _ (Go.Oper.mk _ (.convert 52 9 _) _ _ _ _ :: _) _ _)); refine wpl_bytesStr (bs := [xb]) rfl rfl rfl Tryd.underlying52 Tryd.underlying5 Tryd.underlying9 (reads_pt (hE.alloc _) 0 rfl (off := 0) (fun j u hu => by simpa using hu)) rfl ?_; have hE1 := (hE.alloc (.cells #[.int .u8 (xb.toNat : Int)] 5)).tail; clear hE))
          go_roundw
          case rel => exact ⟨k + 1, hk8, by rw [← Hd1.out]; congr 1; omega, by rw [show (⟨#[xb]⟩ : ByteArray) = ⟨[xb].toArray⟩ from rfl, Hcat.out, HS2.out], hE1⟩
          case measure => simp [intOf]
        · have hk88 : k = 8 := by omega
          have hfin : padB bs (zNeed bs.length) ++ (lastOf8 N).take k = padR bs := by rw [hk88, List.take_of_length_le (by rw [lastOf8_len]; omega), ← Hpr.out]
          rw [hfin]
          have hneg : 7 - (k : Int) = -1 := by omega
          rw [hneg]
          clear hneg hfin hk88 hk hk8 k
          have hpl := padR_len bs
          have hp64 := padR_64 bs
          have hzn : zNeed bs.length < 64 := Nat.mod_lt _ (by decide)
          have hps : (⟨(padR bs).toArray⟩ : ByteArray).size = (padR bs).length := by simp [ByteArray.size]
          have hple : (padR bs).length ≤ 1000200 := by omega
          have Hout : RowKit.Hid (∀ p, padR bs = p → ∀ (v : Value) (w' : World), (∃ ao c, v = .slice ao (p.length / 4) c ∧ Ent (row 53 1 (.slice ao (p.length / 4) c) (p.length / 4) ((wordsOf p (p.length / 4)).map u32v) :: l) w') → (∃ ao c, v = .slice ao ((padR bs).length / 4) c ∧ Ent (row 53 1 (.slice ao ((padR bs).length / 4) c) ((padR bs).length / 4) ((wordsOf (padR bs) ((padR bs).length / 4)).map u32v) :: l) w')) := SL.hid (fun p hp v w' h => by rw [hp]; exact h)
          clear hpl
          generalize hp : padR bs = p at hp64 hps hple ⊢
          have Hp := SL.hid hp
          have Hp64 := SL.hid hp64
          have Hps := SL.hid hps
          have hpsB := hps
          clear hp hp64 hzn
          go_wp2_with (first | go_skip)
          go_loopw [5, 6] (fun s i wr => BRel p l s i wr) (fun _ i _ => p.length - (intOf i).toNat)
          case atStart => exact ⟨0, none, 0, by omega, rfl, rfl, hE.nil _ _⟩
          case round =>
            clear hE
            obtain ⟨k, ao, c, hk, rfl, rfl, hE⟩ := hrel
            by_cases hlt : 4 * k < p.length
            · have h4 : 4 * (k + 1) ≤ p.length := by have := Hp64.out; omega
              have hw : wordsOf p (k + 1) = wordsOf p k ++ [wordOf p k] := by unfold wordsOf; rw [List.range_succ, List.map_append]; rfl
              have hwd : wordOf p k = (p.getD (4 * k) 0).toNat * 16777216 + (p.getD (4 * k + 1) 0).toNat * 65536 + (p.getD (4 * k + 2) 0).toNat * 256 + (p.getD (4 * k + 3) 0).toNat := rfl
              have ix0 := fun w => run_index_str (P := Tryd.prog) Tryd.underlying9 (bs := p) (k := 4 * k) (by omega) w
              have ix1 := fun w => run_index_str (P := Tryd.prog) Tryd.underlying9 (bs := p) (k := 4 * k + 1) (by omega) w
              have ix2 := fun w => run_index_str (P := Tryd.prog) Tryd.underlying9 (bs := p) (k := 4 * k + 2) (by omega) w
              have ix3 := fun w => run_index_str (P := Tryd.prog) Tryd.underlying9 (bs := p) (k := 4 * k + 3) (by omega) w
              have m1 : IntKind.i64.wrap (((4 * k : Nat) : Int) + 1) = ((4 * k + 1 : Nat) : Int) := by rw [wrap_small (by omega)]; omega
              have m2 : IntKind.i64.wrap (((4 * k : Nat) : Int) + 2) = ((4 * k + 2 : Nat) : Int) := by rw [wrap_small (by omega)]; omega
              have m3 : IntKind.i64.wrap (((4 * k : Nat) : Int) + 3) = ((4 * k + 3 : Nat) : Int) := by rw [wrap_small (by omega)]; omega
              have m4 : ((4 * k : Nat) : Int) + 4 = ((4 * (k + 1) : Nat) : Int) := by omega
              have hlt2 : ((4 * k : Nat) : Int) < (p.length : Int) := by omega
              have hk6 : 4 * k ≤ 1000200 := by omega
              obtain ⟨y0, y1, y2, y3, y4, e0, e1, e2, e3, e4, e5⟩ := word_sum _ _ _ _ _ hwd
              have v0 := u8_wide (p.getD (4 * k) 0)
              have v1 := u8_wide (p.getD (4 * k + 1) 0)
              have v2 := u8_wide (p.getD (4 * k + 2) 0)
              have v3 := u8_wide (p.getD (4 * k + 3) 0)
              clear hwd
              generalize p.getD (4 * k) 0 = x0 at *
              generalize p.getD (4 * k + 1) 0 = x1 at *
              generalize p.getD (4 * k + 2) 0 = x2 at *
              generalize p.getD (4 * k + 3) 0 = x3 at *
              generalize 4 * k + 1 = q1 at *
              generalize 4 * k + 2 = q2 at *
              generalize 4 * k + 3 = q3 at *
              have Hm4 := SL.hid m4
              have Hw := SL.hid hw
              clear m4 hw hps
              generalize wordOf p k = wd at *
              generalize 4 * k = q0 at *
              generalize hP : (⟨p.toArray⟩ : ByteArray) = P at *
              clear hP
              go_wp2_with (first | go_skip)
              refine wp_region_held_drew (S := (fun _ => True)) (by kernel_rfl) trivial (fun hS => ?_)
              refine tV 0 hS ?_; refine tV 1 hS ?_; refine tV 2 hS ?_; refine tV 3 hS ?_; refine tV 4 hS ?_; refine tV 5 hS ?_; refine tV 6 hS ?_; refine tV 7 hS ?_; refine tV 8 hS ?_; refine tV 9 hS ?_; refine tV 10 hS ?_; refine tV 11 hS ?_; refine tV 12 hS ?_; refine tV 13 hS ?_; refine tV 14 hS ?_; refine tV 15 hS ?_; refine tV 16 hS ?_; refine tV 17 hS ?_; refine tV 18 hS ?_; refine tV 19 hS ?_
              refine tV 20 hS ?_; refine tV 21 hS ?_; refine tV 22 hS ?_; refine tV 23 hS ?_; refine tV 24 hS ?_; refine tV 25 hS ?_
              refine tO 26 (fun K hK => ?_)
              (go_simp; have hE9 := (hE.alloc (.cells #[.int .u32 (wd : Int)] 53)).drew; generalize (wr.alloc (.cells #[.int .u32 (wd : Int)] 53)).drew = w7 at hE9 ⊢)
              refine tK hK trivial (fun hS => ?_); clear hK K
              refine tO 27 (fun K hK => ?_)
              (refine step_appendG hE9 1 rfl (by rfl) (by rfl) (by rfl) (by rfl) Tryd.underlying180 info32 (by decide) (m := 1) (news := [.int .u32 (wd : Int)]) (reads_pt hE9 0 rfl (off := 0) (fun j u hu => by simpa using hu)) rfl (by simp [Value.oneCell']) (by omega) (by omega) ?_; intro ao' c' w8 hE10; simp only [List.set_cons_succ, List.set_cons_zero] at hE10)
              refine tK hK trivial (fun hS => ?_); clear hK K
              refine tV 28 hS ?_
              refine wpAnyH_done (by kernel_rfl) ?_ _
              clear ix0 ix1 ix2 ix3 m1 m2 m3 e0 e1 e2 e3 e4 e5 v0 v1 v2 v3 hS
              go_wp2_with (first | go_skip)
              go_roundw
              case rel => exact ⟨k + 1, ao', c', h4, by rw [Hm4.out], rfl, by rw [Hw.out, List.map_append]; exact hE10.tail⟩
              case measure => simp [intOf]; omega
            · have hk4 : p.length / 4 = k := by omega
              have hneg : ¬ ((4 * k : Nat) : Int) < (p.length : Int) := by omega
              generalize 4 * k = q0 at *
              have Hk4 := SL.hid hk4
              have hpsC := Hps.out
              generalize hP : (⟨p.toArray⟩ : ByteArray) = P at *
              clear hP hk4
              go_wp2_with (first | go_skip)
              go_ret
              exact ⟨_, rfl, Hout.out p Hp.out _ _ ⟨ao, c, by rw [Hk4.out]; rfl, by rw [Hk4.out]; exact hE⟩⟩
end Go.Proofs.YtehfbokkcamliaaDoor
namespace Go.Proofs.YtehfbokkcamliaaDoor

theorem ringSeq_low (bs : List UInt8) : ∀ i, i ≤ 16 → ringSeq bs i = ring0 bs
  | 0, _ => rfl
  | i + 1, h => by
    rw [ringSeq, ringSeq_low bs i (by omega)]
    unfold ringAt
    rw [if_pos (by omega)]
theorem ringSeq_len (bs : List UInt8) : ∀ i, (ringSeq bs i).length = 16
  | 0 => ring0_len bs
  | i + 1 => by rw [ringSeq, ringAt_len, ringSeq_len bs i]
theorem ring0_get (bs : List UInt8) {i : Nat} (h : i < 16) : (ring0 bs).getD i 0 = wordOf bs i := by
  simp [ring0, List.getD_eq_getElem?_getD, h]
theorem nextW_low {bs : List UInt8} {i : Nat} (h : i < 16) : nextW bs i = wordOf bs i := by
  unfold nextW
  rw [ringSeq_low bs i (by omega)]
  unfold ringAt
  rw [if_pos h, Nat.mod_eq_of_lt h, ring0_get bs h]
theorem ring_has (bs : List UInt8) : ∀ d m, m < 16 + d → d ≤ m → (ringSeq bs (16 + d)).getD (m % 16) 0 = nextW bs m
  | 0, m, h1, _ => by
    rw [ringSeq_low bs _ (by omega), Nat.mod_eq_of_lt (by omega), ring0_get bs (by omega), nextW_low (by omega)]
  | d + 1, m, h1, h2 => by
    have e : ringSeq bs (16 + (d + 1)) = ringAt (ringSeq bs (16 + d)) (16 + d) := rfl
    rw [e]
    by_cases hm : m = 16 + d
    · subst hm; rfl
    · rw [← ring_has bs d m (by omega) (by omega)]
      unfold ringAt
      rw [if_neg (by omega), List.getD_eq_getElem?_getD, List.getElem?_set_ne (by omega), ← List.getD_eq_getElem?_getD]
theorem nextW_high {bs : List UInt8} {i : Nat} (h : 16 ≤ i) : nextW bs i = (nextW bs (i - 16) + (ls0 (nextW bs (i - 15)) + nextW bs (i - 7) + ls1 (nextW bs (i - 2)))) % 4294967296 := by
  obtain ⟨d, rfl⟩ : ∃ d, i = 16 + d := ⟨i - 16, by omega⟩
  have h0 := ring_has bs d d (by omega) (by omega)
  have h1 := ring_has bs d (d + 1) (by omega) (by omega)
  have h9 := ring_has bs d (d + 9) (by omega) (by omega)
  have h14 := ring_has bs d (d + 14) (by omega) (by omega)
  have e0 : (16 + d) % 16 = d % 16 := by omega
  have e1 : (16 + d + 1) % 16 = (d + 1) % 16 := by omega
  have e9 : (16 + d + 9) % 16 = (d + 9) % 16 := by omega
  have e14 : (16 + d + 14) % 16 = (d + 14) % 16 := by omega
  rw [show 16 + d - 16 = d by omega, show 16 + d - 15 = d + 1 by omega, show 16 + d - 7 = d + 9 by omega, show 16 + d - 2 = d + 14 by omega]
  rw [← h0, ← h1, ← h9, ← h14]
  have hr : ringAt (ringSeq bs (16 + d)) (16 + d) = (ringSeq bs (16 + d)).set (d % 16) (((ringSeq bs (16 + d)).getD (d % 16) 0 + (ls0 ((ringSeq bs (16 + d)).getD ((d + 1) % 16) 0) + (ringSeq bs (16 + d)).getD ((d + 9) % 16) 0 + ls1 ((ringSeq bs (16 + d)).getD ((d + 14) % 16) 0))) % 4294967296) := by
    unfold ringAt
    rw [if_neg (by omega), e0, e1, e9, e14]
  show (ringAt (ringSeq bs (16 + d)) (16 + d)).getD ((16 + d) % 16) 0 = _
  rw [e0]
  exact ring_got hr (by rw [ringSeq_len]; exact Nat.mod_lt _ (by decide))
theorem nextW_lt (bs : List UInt8) (i : Nat) : nextW bs i < 4294967296 := by
  by_cases h : i < 16
  · rw [nextW_low h]; exact wordOf_lt bs i
  · rw [nextW_high (by omega)]; exact Nat.mod_lt _ (by decide)
def wst (bs : List UInt8) : Nat → List Nat
  | 0 => List.replicate 64 0
  | i + 1 => (wst bs i).set i (nextW bs i)
theorem wst_len (bs : List UInt8) : ∀ i, (wst bs i).length = 64
  | 0 => by simp [wst]
  | i + 1 => by rw [wst, List.length_set, wst_len bs i]
theorem wst_get (bs : List UInt8) : ∀ i, i ≤ 64 → ∀ m, m < i → (wst bs i).getD m 0 = nextW bs m
  | 0, _, m, h => by omega
  | i + 1, hi, m, h => by
    rw [wst, List.getD_eq_getElem?_getD]
    by_cases hm : m = i
    · subst hm
      rw [List.getElem?_set_self (by rw [wst_len]; omega)]; rfl
    · rw [List.getElem?_set_ne (Ne.symm hm), ← List.getD_eq_getElem?_getD]
      exact wst_get bs i (by omega) m (by omega)

theorem eatAll_app : ∀ (a : Nat) (v : W8) (xs ys : List UInt8) (b : Nat), xs.length = 64 * a → eatAll v (xs ++ ys) (a + b) = eatAll (eatAll v xs a) ys b
  | 0, v, xs, ys, b, h => by
    obtain rfl : xs = [] := List.eq_nil_of_length_eq_zero (by omega)
    rw [Nat.zero_add]; rfl
  | a + 1, v, xs, ys, b, h => by
    rw [show a + 1 + b = (a + b) + 1 by omega, eatAll, eatAll, List.take_append_of_le_length (by omega), List.drop_append_of_le_length (by omega)]
    exact eatAll_app a _ _ ys b (by rw [List.length_drop]; omega)
theorem pad_whole (bs : List UInt8) : padR bs = bs.take (64 * (bs.length / 64)) ++ pad (bs.drop (64 * (bs.length / 64))) (bs.length * 8) := by
  have hr : (bs.drop (64 * (bs.length / 64))).length = bs.length % 64 := by rw [List.length_drop]; omega
  unfold padR padB pad
  rw [hr]
  simp only [← List.append_assoc, List.take_append_drop]
  congr 2
  unfold zNeed
  have := Nat.mod_lt bs.length (show 64 > 0 by decide)
  split <;> congr 1 <;> omega
theorem shaV_is (bs : List UInt8) : shaV bs = outOf (eatAll hFirst (padR bs) ((padR bs).length / 64)) := by
  have hp := pad_whole bs
  have h64 := padR_64 bs
  have hl := congrArg List.length hp
  rw [List.length_append, List.length_take] at hl
  have hq : eatAll hFirst bs (bs.length / 64) = eatAll hFirst (bs.take (64 * (bs.length / 64))) (bs.length / 64) := by
    conv => lhs; rw [← List.take_append_drop (64 * (bs.length / 64)) bs]
    rw [List.take_append_drop, ← eatAll_left (bs.length / 64) hFirst (ys := bs.drop (64 * (bs.length / 64))) (xs := bs.take (64 * (bs.length / 64))) (by rw [List.length_take]; omega), List.take_append_drop]
  have e : (padR bs).length / 64 = bs.length / 64 + (pad (bs.drop (64 * (bs.length / 64))) (bs.length * 8)).length / 64 := by omega
  have hs : shaV bs = outOf (eatAll (eatAll hFirst bs (bs.length / 64)) (pad (bs.drop (64 * (bs.length / 64))) (bs.length * 8)) ((pad (bs.drop (64 * (bs.length / 64))) (bs.length * 8)).length / 64)) := by
    rw [Nat.mul_comm 64]; rfl
  rw [hs, e, hq]
  conv => rhs; rw [hp]
  rw [eatAll_app _ _ _ _ _ (by rw [List.length_take]; omega)]
theorem word_block {p : List UInt8} {j i : Nat} (h : 64 * (j + 1) ≤ p.length) (hi : i < 16) : wordOf ((p.drop (64 * j)).take 64) i = wordOf p (16 * j + i) := by
  have key : ∀ k, k < 64 → ((p.drop (64 * j)).take 64).getD k 0 = p.getD (64 * j + k) 0 := fun k hk => by
    rw [List.getD_eq_getElem?_getD, List.getD_eq_getElem?_getD, List.getElem?_take, if_pos hk, List.getElem?_drop]
  unfold wordOf
  rw [key _ (by omega), key _ (by omega), key _ (by omega), key _ (by omega)]
  rw [show 64 * j + 4 * i = 4 * (16 * j + i) by omega, show 64 * j + (4 * i + 1) = 4 * (16 * j + i) + 1 by omega, show 64 * j + (4 * i + 2) = 4 * (16 * j + i) + 2 by omega, show 64 * j + (4 * i + 3) = 4 * (16 * j + i) + 3 by omega]
end Go.Proofs.YtehfbokkcamliaaDoor
namespace Go.Proofs.YtehfbokkcamliaaDoor
open Go.RowKit Go.SL

/-- a table, whatever its words at first -/
def tabH (v : W8) : List Nat := kTab ++ v.list
theorem tabH_len (v : W8) : (tabH v).length = 72 := rfl
theorem tabH_k (v : W8) {i : Nat} (h : i < 64) : (tabH v).getD i 0 = kTab.getD i 0 := by
  unfold tabH
  rw [List.getD_eq_getElem?_getD, List.getD_eq_getElem?_getD, List.getElem?_append_left h]

theorem words_at {p : List UInt8} {n q : Nat} (h : q < n) : ((wordsOf p n).map u32v)[q]? = some (.int .u32 ((wordOf p q : Nat) : Int)) := by
  simp [wordsOf, h, u32v]
theorem tab_cells {l : List HProp} {w : World} {b : Nat} {T : TypeId} {u : W8} (hE : Ent l w) (i : Nat) (hi : l[i]? = some (u32c b T (tabH u))) :
    w.cell? ⟨b, 64, none⟩ = some (.int .u32 (u.a : Int)) ∧ w.cell? ⟨b, 65, none⟩ = some (.int .u32 (u.b : Int)) ∧ w.cell? ⟨b, 66, none⟩ = some (.int .u32 (u.c : Int)) ∧ w.cell? ⟨b, 67, none⟩ = some (.int .u32 (u.d : Int)) ∧
    w.cell? ⟨b, 68, none⟩ = some (.int .u32 (u.e : Int)) ∧ w.cell? ⟨b, 69, none⟩ = some (.int .u32 (u.f : Int)) ∧ w.cell? ⟨b, 70, none⟩ = some (.int .u32 (u.g : Int)) ∧ w.cell? ⟨b, 71, none⟩ = some (.int .u32 (u.h : Int)) :=
  ⟨hE.cell i hi 64, hE.cell i hi 65, hE.cell i hi 66, hE.cell i hi 67, hE.cell i hi 68, hE.cell i hi 69, hE.cell i hi 70, hE.cell i hi 71⟩
theorem sum_next (a b c d : Nat) : IntKind.u32.wrap (IntKind.u32.wrap (IntKind.u32.wrap ((a : Int) + (b : Int)) + (c : Int)) + (d : Int)) = (((a + (b + c + d)) % 4294967296 : Nat) : Int) := by
  simp only [IntKind.wrap_u32']
  omega

theorem tab_get (v u : W8) {k : Nat} (h : k < 8) : (kTab ++ mix v u k).getD (64 + k) 0 = v.list.getD k 0 := by
  rw [← mix_get v u h, List.getD_eq_getElem?_getD, List.getD_eq_getElem?_getD, List.getElem?_append_right (show kTab.length ≤ 64 + k by show 64 ≤ 64 + k; omega), show 64 + k - kTab.length = k by show 64 + k - 64 = k; omega]
theorem tab_set (v u : W8) {k : Nat} (h : k < 8) : (kTab ++ mix v u k).set (64 + k) ((v.list.getD k 0 + u.list.getD k 0) % 4294967296) = kTab ++ mix v u (k + 1) := by
  rw [List.set_append_right _ _ (show kTab.length ≤ 64 + k by show 64 ≤ 64 + k; omega), show 64 + k - kTab.length = k by show 64 + k - 64 = k; omega, mix_set v u h]
theorem tab_len (v u : W8) {k : Nat} (h : k < 8) : (kTab ++ mix v u k).length = 72 := by
  rw [List.length_append, mix_len v u h]; rfl
theorem tabH_get (v : W8) {k : Nat} (h : k < 8) : (tabH v).getD (64 + k) 0 = v.list.getD k 0 := by
  unfold tabH
  rw [List.getD_eq_getElem?_getD, List.getD_eq_getElem?_getD, List.getElem?_append_right (show kTab.length ≤ 64 + k by show 64 ≤ 64 + k; omega), show 64 + k - kTab.length = k by show 64 + k - 64 = k; omega]

def ShAtRel (p : List UInt8) (bt : Nat) (l : List HProp) (i : Value) (wr : World) : Prop :=
  ∃ j : Nat, 64 * j ≤ p.length ∧ i = .int .i64 ((16 * j : Nat) : Int) ∧ Ent (u32c bt 85 (tabH (eatAll hFirst p j)) :: l) wr
def WRel (bs : List UInt8) (bw : Nat) (l : List HProp) (i : Value) (wr : World) : Prop :=
  ∃ k : Nat, k ≤ 64 ∧ i = .int .i64 k ∧ Ent (u32c bw 82 (wst bs k) :: l) wr
def VRel (bs : List UInt8) (v : W8) (L : List HProp) (a b c d e f g h i : Value) (wr : World) : Prop :=
  ∃ (k : Nat) (u : W8), k ≤ 64 ∧ i = .int .i64 k ∧ u = (rounds bs v k).1 ∧ a = .int .u32 (u.a : Int) ∧ b = .int .u32 (u.b : Int) ∧ c = .int .u32 (u.c : Int) ∧ d = .int .u32 (u.d : Int) ∧ e = .int .u32 (u.e : Int) ∧ f = .int .u32 (u.f : Int) ∧ g = .int .u32 (u.g : Int) ∧ h = .int .u32 (u.h : Int) ∧ Ent L wr
theorem rounds_next (bs : List UInt8) (v : W8) (k : Nat) : (rounds bs v (k + 1)).1 = rnd (rounds bs v k).1 (kTab.getD k 0) (nextW bs k) := by
  have h := rounds_is bs v k
  show rnd (rounds bs v k).1 (kTab.getD k 0) ((ringAt (rounds bs v k).2 k).getD (k % 16) 0) = _
  rw [show (rounds bs v k).2 = ringSeq bs k by rw [h]]
  rfl
def HRel (v u : W8) (bt : Nat) (l : List HProp) (i : Value) (wr : World) : Prop :=
  ∃ k : Nat, k ≤ 8 ∧ i = .int .i64 k ∧ Ent (u32c bt 85 (kTab ++ mix v u k) :: l) wr
def ORel (v : W8) (cs : List Value) (b : Nat) (l : List HProp) (i : Value) (wr : World) : Prop :=
  ∃ k : Nat, k ≤ 32 ∧ i = .int .i64 k ∧ Ent (pt b (.cells (ostate v cs k).toArray 46 (0, 0)) :: l) wr

set_option maxRecDepth 100000 in
set_option maxHeartbeats 2000000 in
theorem With_any {l : List HProp} {w : World} {bs : List UInt8} (hb : bs.length ≤ 1000000) (hE : Ent l w) :
    Calls Tryd.prog 88 #[tabV (tabH hFirst), .string ⟨bs.toArray⟩] w (Ret fun v w' => v = .agg (bvals (outOf (eatAll hFirst (padR bs) ((padR bs).length / 64)))).toArray ∧ Ent l w') := by
  have hpl := padR_len bs
  have hp64 := padR_64 bs
  have hzn : zNeed bs.length < 64 := Nat.mod_lt _ (by decide)
  have hple : (padR bs).length ≤ 1000200 := by omega
  have hp9 : 9 ≤ (padR bs).length := by omega
  have HB := SL.hid (fun (w : World) (L : List HProp) (h : Ent L w) => Blocks_any hb h)
  clear hpl hzn
  generalize padR bs = p at *
  have Hp64 := SL.hid hp64
  clear hp64
  go_enter Tryd.func88, Tryd.ntmps88
  go_wp2_with (first
    | go_skip
    | ((with_reducible (show Go.wpList _ _ _ (Go.Oper.mk _ (.box _ _) _ _ _ _ :: _) _ _)); refine wpl_box hE rfl rfl (v := tabV (tabH hFirst)) rfl ?_; clear hE; intro bt w1 hE1; simp only [Value.cells] at hE1)
    | ((with_reducible (show Go.wpList _ _ _ (Go.Oper.mk _ (.alloc _) _ _ _ _ :: _) _ _)); refine wpl_allocN hE1 rfl rfl (n := 32) (by kernel_rfl) ?_; clear hE1; intro br rs w1 hq hE2)
    | (go_at_call 111; have H := HB.out _ _ hE2; refine H.mono ?_; clear H hE2; rintro e w2 ⟨v, rfl, ao, c, rfl, hE3⟩))
  have Hq := SL.hid hq
  obtain ⟨n4, hn4⟩ : ∃ n4, n4 = p.length / 4 := ⟨_, rfl⟩
  rw [← hn4] at hE3 ⊢
  obtain ⟨g, rfl, _, _⟩ := hE3.rowIs 0 rfl (by have := Hp64.out; omega)
  have Hn4 := SL.hid hn4
  have hE4 : Ent (u32c bt 85 (tabH hFirst) :: row 53 1 (.slice (some ⟨g, 0, none⟩) n4 c) n4 ((wordsOf p n4).map u32v) :: pt br (.cells rs.toArray 46 (0, 0)) :: l) w2 := hE3.front 2 rfl
  clear hE3 hq hn4 HB
  go_wp2_with (first | go_skip)
  go_loopw [6] (fun i wr => ShAtRel p bt (row 53 1 (.slice (some ⟨g, 0, none⟩) n4 c) n4 ((wordsOf p n4).map u32v) :: pt br (.cells rs.toArray 46 (0, 0)) :: l) i wr) (fun i _ => p.length - 4 * (intOf i).toNat)
  case atStart => exact ⟨0, by omega, rfl, hE4⟩
  case round =>
    clear hE4
    obtain ⟨j, hj, rfl, hE⟩ := hrel
    have hvok := eatAll_ok hFirst_ok p j
    by_cases hlt : 64 * j < p.length
    · have h64 : 64 * (j + 1) ≤ p.length := by have := Hp64.out; omega
      have hj16 : 16 * j + 16 ≤ n4 := by rw [Hn4.out]; omega
      have hj17 : 16 * j ≤ 1000200 := by omega
      have hjn : ((16 * j : Nat) : Int) < (n4 : Int) := by omega
      have Hsn := SL.hid (eatAll_snoc j hFirst p)
      have Hwb := SL.hid (fun (i : Nat) (hi : i < 16) => (nextW_low hi).trans (word_block h64 hi))
      have Hj4 : RowKit.Hid (((16 * j : Nat) : Int) + 16 = ((16 * (j + 1) : Nat) : Int)) := SL.hid (by omega)
      have Hjm : RowKit.Hid (p.length - 4 * (16 * (j + 1)) < p.length - 4 * (16 * j)) := SL.hid (by omega)
      generalize (p.drop (64 * j)).take 64 = bj at *
      generalize eatAll hFirst p j = v at *
      generalize hj0 : 16 * j = j0 at *
      have Hj0 := SL.hid hj0
      clear hj0
      go_wp2_with (first
        | go_skip
        | ((with_reducible (show Go.wpList _ _ _ (Go.Oper.mk _ (.alloc _) _ _ _ _ :: _) _ _)); refine wpl_allocL hE rfl rfl (zs := (List.replicate 64 0).map u32v) (size := 64) (bytes := 256) (by kernel_rfl) ?_; clear hE; intro bw w1 hE1))
      go_loopw [8] (fun i wr => WRel bj bw (u32c bt 85 (tabH v) :: row 53 1 (.slice (some ⟨g, 0, none⟩) n4 c) n4 ((wordsOf p n4).map u32v) :: pt br (.cells rs.toArray 46 (0, 0)) :: l) i wr) (fun i _ => 64 - (intOf i).toNat)
      case atStart => exact ⟨0, Nat.zero_le _, rfl, hE1⟩
      case round =>
        clear hE1
        obtain ⟨k, hk, rfl, hE⟩ := hrel
        have Hwl := SL.hid (wst_len bj k)
        by_cases hk64 : k < 64
        · as_aux_lemma =>
          have ik : (k : Int) < 64 := by omega
          have Hnx : RowKit.Hid (wst bj (k + 1) = (wst bj k).set k (nextW bj k)) := SL.hid rfl
          have Hget := SL.hid (wst_get bj k hk)
          have hxl := nextW_lt bj
          have Hxl := SL.hid hxl
          clear hxl
          by_cases hk16 : k < 16
          · have ik16 : (k : Int) < 16 := by omega
            obtain ⟨q, hq⟩ : ∃ q, q = j0 + k := ⟨_, rfl⟩
            have x1 : (j0 : Int) + (k : Int) = (q : Int) := by omega
            have x2 : IntKind.i64.wrap (q : Int) = (q : Int) := wrap_small (by omega)
            have x3 : (q : Int) < (n4 : Int) := by omega
            have c0 := hE.rowCell 2 rfl (words_at (p := p) (n := n4) (q := q) (by omega))
            have ew : wordOf p q = nextW bj k := by rw [Hwb.out k hk16, hq, ← Hj0.out]
            rw [ew] at c0
            clear ew
            generalize nextW bj k = x at *
            clear hq
            go_wp2_with (first
              | go_skip
              | ((with_reducible (show Go.wpList _ _ _ (Go.Oper.mk _ (.store _ _ _) _ _ _ _ :: _) _ _)); refine wpl_set1 hE 0 rfl rfl rfl (off := k) rfl (v := .int .u32 (x : Int)) rfl Tryd.sizeOf53 rfl rfl (by rw [List.length_map, Hwl.out]; omega) ?_; clear hE c0; intro w5 hE; simp only [List.set_cons_zero] at hE; rw [u32_set, ← Hnx.out] at hE))
            go_roundw
            case rel => exact ⟨k + 1, hk64, by simp, hE⟩
            case measure => simp [intOf]; omega
          · have ik16 : ¬ (k : Int) < 16 := by omega
            have hhi := nextW_high (bs := bj) (i := k) (by omega)
            have g15 := Hget.out (k - 15) (by omega)
            have g2 := Hget.out (k - 2) (by omega)
            have g7 := Hget.out (k - 7) (by omega)
            have g16 := Hget.out (k - 16) (by omega)
            have l15 := Hxl.out (k - 15)
            have l2 := Hxl.out (k - 2)
            have m15 : IntKind.i64.wrap ((k : Int) - 15) = ((k - 15 : Nat) : Int) := by rw [wrap_small (by omega)]; omega
            have m2 : IntKind.i64.wrap ((k : Int) - 2) = ((k - 2 : Nat) : Int) := by rw [wrap_small (by omega)]; omega
            have m7 : IntKind.i64.wrap ((k : Int) - 7) = ((k - 7 : Nat) : Int) := by rw [wrap_small (by omega)]; omega
            have m16 : IntKind.i64.wrap ((k : Int) - 16) = ((k - 16 : Nat) : Int) := by rw [wrap_small (by omega)]; omega
            have c15 := u32_at hE.drew 0 rfl (k := k - 15) (by rw [Hwl.out]; omega)
            have b15 : ((k - 15 : Nat) : Int) < 64 := by omega
            have b2 : ((k - 2 : Nat) : Int) < 64 := by omega
            have b7 : ((k - 7 : Nat) : Int) < 64 := by omega
            have b16 : ((k - 16 : Nat) : Int) < 64 := by omega
            have N7 := SL.hid (show k - 7 ≠ k by omega)
            have N16 := SL.hid (show k - 16 ≠ k by omega)
            have L2 := SL.hid (show k - 2 < 64 by omega)
            have L7 := SL.hid (show k - 7 < 64 by omega)
            have L16 := SL.hid (show k - 16 < 64 by omega)
            have L15 := SL.hid (show k - 15 < 64 by omega)
            rw [g15] at c15
            generalize k - 15 = p15 at *
            generalize k - 2 = p2 at *
            generalize k - 7 = p7 at *
            generalize k - 16 = p16 at *
            generalize nextW bj p15 = x at *
            generalize nextW bj p2 = y at *
            generalize nextW bj p7 = z at *
            generalize nextW bj p16 = o at *
            have Hhi := SL.hid hhi
            have G2 := SL.hid g2
            have G7 := SL.hid g7
            have G16 := SL.hid g16
            have Hget15 := SL.hid g15
            clear g15 g2 g7 g16 hhi
            have e0 := ls0_int l15
            have e1 := ls1_int l2
            have e2 := sum_next o (ls0 x) z (ls1 y)
            go_wp2_with (first | go_skip)
            have hED := hE.drew
            refine wp_region_held_drew (S := (fun w' => w'.cell? ⟨bw, p15, none⟩ = some (.int .u32 (x : Int)))) (by kernel_rfl) c15 (fun hS => ?_)
            refine tV 0 hS ?_; refine tV 1 hS ?_; refine tV 2 hS ?_; refine tL 3 hS ?_; refine tV 5 hS ?_; refine tV 6 hS ?_; refine tV 7 hS ?_; refine tL 8 hS ?_; refine tV 11 hS ?_; refine tV 12 hS ?_; refine tV 13 hS ?_; refine tL 14 hS ?_; refine tV 15 hS ?_
            refine tO 4 (fun K hK => ?_)
            (go_simp; go_at_call 112; refine (rotr_7 x l15 _).mono ?_; rintro e w2 ⟨_, rfl, rfl, hk1⟩; have hE2 := hk1 _ hED; clear hk1)
            refine tK hK ((u32_at hE2 0 rfl (by rw [Hwl.out]; exact L15.out)).trans (by rw [Hget15.out])) (fun hS => ?_); clear hK K
            refine tO 9 (fun K hK => ?_)
            (go_simp; go_at_call 112; refine (rotr_18 x l15 _).mono ?_; rintro e w3 ⟨_, rfl, rfl, hk1⟩; have hE3 := hk1 _ hE2; clear hk1)
            refine tK hK ((u32_at hE3 0 rfl (by rw [Hwl.out]; exact L15.out)).trans (by rw [Hget15.out])) (fun hS => ?_); clear hK K
            refine tV 10 hS ?_; refine tV 16 hS ?_; refine tV 17 hS ?_
            refine wpAnyH_done (by kernel_rfl) ?_ _
            clear c15 m15 b15 e0 hS hE hED hE2
            have hE := hE3
            clear hE3
            have c2 : w3.drew.cell? ⟨bw, p2, none⟩ = some (.int .u32 (y : Int)) := (u32_at hE.drew 0 rfl (by rw [Hwl.out]; exact L2.out)).trans (by rw [G2.out])
            have hED := hE.drew
            go_wp2_with (first | go_skip)
            refine wp_region_held_drew (S := (fun w' => w'.cell? ⟨bw, p2, none⟩ = some (.int .u32 (y : Int)))) (by kernel_rfl) c2 (fun hS => ?_)
            refine tV 0 hS ?_; refine tV 1 hS ?_; refine tV 2 hS ?_; refine tL 3 hS ?_; refine tV 5 hS ?_; refine tV 6 hS ?_; refine tV 7 hS ?_; refine tL 8 hS ?_; refine tV 11 hS ?_; refine tV 12 hS ?_; refine tV 13 hS ?_; refine tL 14 hS ?_; refine tV 15 hS ?_
            refine tO 4 (fun K hK => ?_)
            (go_simp; go_at_call 112; refine (rotr_17 y l2 _).mono ?_; rintro e w4 ⟨_, rfl, rfl, hk1⟩; have hE2 := hk1 _ hED; clear hk1)
            refine tK hK ((u32_at hE2 0 rfl (by rw [Hwl.out]; exact L2.out)).trans (by rw [G2.out])) (fun hS => ?_); clear hK K
            refine tO 9 (fun K hK => ?_)
            (go_simp; go_at_call 112; refine (rotr_19 y l2 _).mono ?_; rintro e w5 ⟨_, rfl, rfl, hk1⟩; have hE3 := hk1 _ hE2; clear hk1)
            refine tK hK ((u32_at hE3 0 rfl (by rw [Hwl.out]; exact L2.out)).trans (by rw [G2.out])) (fun hS => ?_); clear hK K
            refine tV 10 hS ?_; refine tV 16 hS ?_; refine tV 17 hS ?_
            refine wpAnyH_done (by kernel_rfl) ?_ _
            clear c2 m2 b2 e1 hS hE hED hE2
            have hE := hE3
            clear hE3
            have c7 : w5.drew.cell? ⟨bw, p7, none⟩ = some (.int .u32 (z : Int)) := (u32_at hE.drew 0 rfl (by rw [Hwl.out]; exact L7.out)).trans (by rw [G7.out])
            have c16 : w5.drew.cell? ⟨bw, p16, none⟩ = some (.int .u32 (o : Int)) := (u32_at hE.drew 0 rfl (by rw [Hwl.out]; exact L16.out)).trans (by rw [G16.out])
            have ck := u32_at hE.drew 0 rfl (k := k) (by rw [Hwl.out]; exact hk64)
            have fk := hE.drew.frozen 0 rfl k
            generalize (wst bj k).getD k 0 = old at ck
            rw [← Hhi.out] at e2
            generalize nextW bj k = nw at *
            go_wp2_with (first | go_skip)
            refine wp_region_held_drew (S := (fun w' => w'.cell? ⟨bw, p7, none⟩ = some (.int .u32 (z : Int)) ∧ w'.cell? ⟨bw, p16, none⟩ = some (.int .u32 (o : Int)))) (by kernel_rfl) ⟨c7, c16⟩ (fun hS => ?_)
            refine tV 0 hS ?_; refine tV 1 hS ?_; refine tV 2 hS ?_; refine tV 3 hS ?_; refine tL 4 hS ?_; refine tV 5 hS ?_; refine tV 6 hS ?_; refine tV 7 hS ?_; refine tV 8 hS ?_; refine tV 9 hS ?_; refine tL 10 hS ?_; refine tV 11 hS ?_; refine tV 12 hS ?_; refine tV 13 hS ?_; refine tV 14 hS ?_
            refine tO 15 (fun K hK => ?_)
            go_simp
            refine tK hK ⟨u32_other hE (show w5.cell? ⟨bw, p7, none⟩ = _ from c7) N7.out, u32_other hE (show w5.cell? ⟨bw, p16, none⟩ = _ from c16) N16.out⟩ (fun hS => ?_); clear hK K
            refine wpAnyH_done (by kernel_rfl) ?_ _
            have hF := (hE.setCell 0 rfl k (.int .u32 (nw : Int))).drew
            simp only [List.set_cons_zero] at hF
            rw [next_ring, ← Hnx.out] at hF
            clear hS hE c7 c16 m7 m16 b7 b16 e2 ck fk
            go_wp2_with (first | go_skip)
            go_roundw
            case rel => exact ⟨k + 1, hk64, by simp, hF⟩
            case measure => simp [intOf]; omega
        · obtain rfl : k = 64 := by omega
          simp only [show ((64 : Nat) : Int) = 64 from rfl]
          have Hget := SL.hid (wst_get bj 64 (Nat.le_refl _))
          have hE0 := hE
          clear hE hk hk64
          go_wp2_with (first | go_skip)
          refine wp_region_held_drew (S := (fun w' => w'.cell? ⟨bt, 64, none⟩ = some (.int .u32 (v.a : Int)) ∧ w'.cell? ⟨bt, 65, none⟩ = some (.int .u32 (v.b : Int)) ∧ w'.cell? ⟨bt, 66, none⟩ = some (.int .u32 (v.c : Int)) ∧ w'.cell? ⟨bt, 67, none⟩ = some (.int .u32 (v.d : Int)) ∧ w'.cell? ⟨bt, 68, none⟩ = some (.int .u32 (v.e : Int)) ∧ w'.cell? ⟨bt, 69, none⟩ = some (.int .u32 (v.f : Int)) ∧ w'.cell? ⟨bt, 70, none⟩ = some (.int .u32 (v.g : Int)) ∧ w'.cell? ⟨bt, 71, none⟩ = some (.int .u32 (v.h : Int)))) (by kernel_rfl) (tab_cells hE0.drew 1 rfl) (fun hS => ?_)
          refine tV 0 hS ?_; refine tV 1 hS ?_; refine tL 2 hS ?_; refine tV 3 hS ?_; refine tV 4 hS ?_; refine tL 5 hS ?_; refine tV 6 hS ?_; refine tV 7 hS ?_; refine tL 8 hS ?_; refine tV 9 hS ?_; refine tV 10 hS ?_; refine tL 11 hS ?_; refine tV 12 hS ?_; refine tV 13 hS ?_; refine tL 14 hS ?_; refine tV 15 hS ?_; refine tV 16 hS ?_; refine tL 17 hS ?_; refine tV 18 hS ?_; refine tV 19 hS ?_; refine tL 20 hS ?_
          refine tV 21 hS ?_; refine tV 22 hS ?_; refine tL 23 hS ?_; refine tV 24 hS ?_; refine tV 25 hS ?_; refine tV 26 hS ?_; refine tV 27 hS ?_; refine tV 28 hS ?_; refine tV 29 hS ?_; refine tV 30 hS ?_; refine tV 31 hS ?_
          refine wpAnyH_done (by kernel_rfl) ?_ _
          have hE := hE0.drew
          clear hS hE0
          go_wp2_with (first | go_skip)
          go_loopw [11, 12, 13, 14, 15, 16, 17, 18, 19] (fun a b c' d e f g' h i wr => VRel bj v (u32c bw 82 (wst bj 64) :: u32c bt 85 (tabH v) :: row 53 1 (.slice (some ⟨g, 0, none⟩) n4 c) n4 ((wordsOf p n4).map u32v) :: pt br (.cells rs.toArray 46 (0, 0)) :: l) a b c' d e f g' h i wr) (fun _ _ _ _ _ _ _ _ i _ => 64 - (intOf i).toNat)
          case atStart => exact ⟨0, v, by omega, rfl, rfl, rfl, rfl, rfl, rfl, rfl, rfl, rfl, rfl, hE⟩
          case round =>
            clear hE
            obtain ⟨k, u, hk, rfl, hu, rfl, rfl, rfl, rfl, rfl, rfl, rfl, rfl, hE⟩ := hrel
            have huo : u.ok := hu ▸ (rounds_ok hvok k).1
            have Hu := SL.hid hu
            clear hu
            by_cases hk64 : k < 64
            · as_aux_lemma =>
              have ik : (k : Int) < 64 := by omega
              have hrn := rounds_next bj v k
              rw [← Hu.out] at hrn
              have Hcells : RowKit.Hid (∀ (wx : World), Ent (u32c bw 82 (wst bj 64) :: u32c bt 85 (tabH v) :: row 53 1 (.slice (some ⟨g, 0, none⟩) n4 c) n4 ((wordsOf p n4).map u32v) :: pt br (.cells rs.toArray 46 (0, 0)) :: l) wx → wx.cell? ⟨bt, k, none⟩ = some (.int .u32 ((kTab.getD k 0 : Nat) : Int)) ∧ wx.cell? ⟨bw, k, none⟩ = some (.int .u32 ((nextW bj k : Nat) : Int))) := SL.hid (fun wx hx =>
                ⟨(u32_at hx 1 rfl (k := k) (show k < 72 by omega)).trans (by rw [tabH_k v hk64]), (u32_at hx 0 rfl (k := k) (by rw [wst_len]; exact hk64)).trans (by rw [Hget.out k hk64])⟩)
              generalize kTab.getD k 0 = kc at *
              generalize nextW bj k = xw at *
              have hrd : rnd u kc xw = ⟨(t1 u kc xw + t2 u) % 4294967296, u.a, u.b, u.c, (u.d + t1 u kc xw) % 4294967296, u.e, u.f, u.g⟩ := rfl
              rw [hrd] at hrn
              have e1 := bS1_int huo.e
              have e2 : bits .xor .u32 (bits .and .u32 (u.e : Int) (u.f : Int)) (bits .and .u32 (bits .xor .u32 (if IntKind.u32.signed = true then -1 else IntKind.u32.max) (u.e : Int)) (u.g : Int)) = ((chs u.e u.f u.g : Nat) : Int) := chs_int huo.e huo.f huo.g
              have e3 := sum_t1 u kc xw
              have e4 := bS0_int huo.a
              have e5 := maj_int huo.a huo.b huo.c
              have e6 := sum_t2 u
              have g1 := sum_u32 (t1 u kc xw) (t2 u)
              have g2 := sum_u32 u.d (t1 u kc xw)
              generalize (t1 u kc xw + t2 u) % 4294967296 = na at *
              generalize (u.d + t1 u kc xw) % 4294967296 = ne at *
              generalize t1 u kc xw = T1 at *
              generalize t2 u = T2 at *
              have Hrn := SL.hid hrn
              clear hrn hrd
              go_wp2_with (first | go_skip)
              have hED := hE.drew
              refine wp_region_held_drew (S := (fun w' => w'.cell? ⟨bt, k, none⟩ = some (.int .u32 (kc : Int)) ∧ w'.cell? ⟨bw, k, none⟩ = some (.int .u32 (xw : Int)))) (by kernel_rfl) (Hcells.out _ hED) (fun hS => ?_)
              refine tV 0 hS ?_; refine tV 1 hS ?_; refine tV 3 hS ?_; refine tV 6 hS ?_; refine tV 10 hS ?_; refine tV 11 hS ?_; refine tV 12 hS ?_; refine tV 13 hS ?_; refine tV 14 hS ?_; refine tV 15 hS ?_; refine tV 16 hS ?_; refine tV 17 hS ?_; refine tV 19 hS ?_; refine tV 20 hS ?_; refine tV 21 hS ?_; refine tL 22 hS ?_; refine tV 24 hS ?_; refine tV 25 hS ?_; refine tL 26 hS ?_
              refine tO 2 (fun K hK => ?_)
              (go_simp; go_at_call 112; refine (rotr_6 u.e huo.e _).mono ?_; rintro e w4 ⟨_, rfl, rfl, hk1⟩; have hE2 := hk1 _ hED; clear hk1)
              refine tK hK (Hcells.out _ hE2) (fun hS => ?_); clear hK K
              refine tO 4 (fun K hK => ?_)
              (go_simp; go_at_call 112; refine (rotr_11 u.e huo.e _).mono ?_; rintro e w4 ⟨_, rfl, rfl, hk1⟩; have hE3 := hk1 _ hE2; clear hk1)
              refine tK hK (Hcells.out _ hE3) (fun hS => ?_); clear hK K
              refine tV 5 hS ?_
              refine tO 7 (fun K hK => ?_)
              (go_simp; go_at_call 112; refine (rotr_25 u.e huo.e _).mono ?_; rintro e w4 ⟨_, rfl, rfl, hk1⟩; have hE4 := hk1 _ hE3; clear hk1)
              refine tK hK (Hcells.out _ hE4) (fun hS => ?_); clear hK K
              refine tV 8 hS ?_; refine tV 9 hS ?_; refine tV 18 hS ?_; refine tV 23 hS ?_; refine tV 27 hS ?_; refine tV 28 hS ?_
              refine wpAnyH_done (by kernel_rfl) ?_ _
              clear e1 e2 e3 hS hE hED hE2 hE3
              go_wp2_with (first
                | go_skip
                | (go_at_call 112; (with_reducible (refine (rotr_2 u.a huo.a _).mono ?_)); rintro e w5 ⟨_, rfl, rfl, hk1⟩; have hE5 := hk1 _ hE4; clear hk1 hE4)
                | (go_at_call 112; (with_reducible (refine (rotr_13 u.a huo.a _).mono ?_)); rintro e w5 ⟨_, rfl, rfl, hk1⟩; have hE6 := hk1 _ hE5; clear hk1 hE5)
                | (go_at_call 112; (with_reducible (refine (rotr_22 u.a huo.a _).mono ?_)); rintro e w5 ⟨_, rfl, rfl, hk1⟩; have hE7 := hk1 _ hE6; clear hk1 hE6))
              go_roundw
              case rel => exact ⟨k + 1, ⟨na, u.a, u.b, u.c, ne, u.e, u.f, u.g⟩, hk64, by simp, Hrn.out.symm, rfl, rfl, rfl, rfl, rfl, rfl, rfl, rfl, hE7⟩
              case measure => simp [intOf]; omega
            · obtain rfl : k = 64 := by omega
              simp only [show ((64 : Nat) : Int) = 64 from rfl]
              have hadd : addW v u = eat v bj := by rw [Hu.out]; rfl
              have Hadd := SL.hid hadd
              clear hadd
              go_wp2_with (first
                | go_skip
                | ((with_reducible (show Go.wpList _ _ _ (Go.Oper.mk _ (.alloc _) _ _ _ _ :: _) _ _)); refine wpl_allocN hE rfl rfl (n := 8) (by kernel_rfl) ?_; clear hE; intro bl cs w6 hq8 hE1)
                | ((with_reducible (show Go.wpList _ _ _ (Go.Oper.mk _ (.store _ _ _) _ _ _ _ :: _) _ _)); refine wpl_storeN hE1 0 rfl rfl rfl (xs := u.list.map u32v) rfl rfl Tryd.sizeOf83 rfl (u32_one u.list) hq8 ?_; clear hE1 hq8; intro w7 hE2; simp only [List.set_cons_zero] at hE2))
              have hE3 : Ent (u32c bt 85 (kTab ++ mix v u 0) :: u32c bl 83 u.list :: u32c bw 82 (wst bj 64) :: row 53 1 (.slice (some ⟨g, 0, none⟩) n4 c) n4 ((wordsOf p n4).map u32v) :: pt br (.cells rs.toArray 46 (0, 0)) :: l) w7 := hE2.front 2 rfl
              clear hE2
              go_loopw [23] (fun i wr => HRel v u bt (u32c bl 83 u.list :: u32c bw 82 (wst bj 64) :: row 53 1 (.slice (some ⟨g, 0, none⟩) n4 c) n4 ((wordsOf p n4).map u32v) :: pt br (.cells rs.toArray 46 (0, 0)) :: l) i wr) (fun i _ => 8 - (intOf i).toNat)
              case atStart => exact ⟨0, by omega, rfl, hE3⟩
              case round =>
                clear hE3
                obtain ⟨k, hk, rfl, hE⟩ := hrel
                by_cases hk8 : k < 8
                · have ik : (k : Int) < 8 := by omega
                  have c0 := u32_at hE.drew 0 rfl (k := 64 + k) (by rw [tab_len v u hk8]; omega)
                  rw [tab_get v u hk8] at c0
                  have f0 := hE.drew.frozen 0 rfl (64 + k)
                  have hset := tab_set v u hk8
                  have Hx1 : RowKit.Hid (∀ (wx : World) (A : HProp) (F : List HProp), Ent (A :: u32c bl 83 u.list :: F) wx → wx.cell? ⟨bl, k, none⟩ = some (.int .u32 ((u.list.getD k 0 : Nat) : Int))) := SL.hid (fun wx A F hx => u32_at hx 1 rfl hk8)
                  have g1 := sum_u32 (v.list.getD k 0) (u.list.getD k 0)
                  generalize (v.list.getD k 0 + u.list.getD k 0) % 4294967296 = ns at *
                  generalize v.list.getD k 0 = y at *
                  generalize u.list.getD k 0 = x at *
                  have Hset := SL.hid hset
                  clear hset
                  go_wp2_with (first | go_skip)
                  refine wp_region_held_drew (S := (fun w' => w'.cell? ⟨bl, k, none⟩ = some (.int .u32 (x : Int)))) (by kernel_rfl) (Hx1.out _ _ _ hE.drew) (fun hS => ?_)
                  refine tV 0 hS ?_; refine tV 1 hS ?_; refine tV 2 hS ?_; refine tV 3 hS ?_; refine tV 5 hS ?_; refine tV 6 hS ?_; refine tL 7 hS ?_; refine tV 9 hS ?_
                  refine tO 4 (fun K hK => ?_)
                  go_simp
                  refine tK hK (Hx1.out _ _ _ hE.drew) (fun hS => ?_); clear hK K
                  refine tV 8 hS ?_; refine tV 10 hS ?_
                  refine tO 11 (fun K hK => ?_)
                  go_simp
                  refine tK hK (Hx1.out _ _ _ (hE.setCell 0 rfl (64 + k) _).drew) (fun hS => ?_); clear hK K
                  refine wpAnyH_done (by kernel_rfl) ?_ _
                  have hF := (hE.setCell 0 rfl (64 + k) (.int .u32 (ns : Int))).drew
                  simp only [List.set_cons_zero] at hF
                  rw [next_ring, Hset.out] at hF
                  clear hS c0 f0 g1 hE
                  go_wp2_with (first | go_skip)
                  go_roundw
                  case rel => exact ⟨k + 1, hk8, by simp, hF⟩
                  case measure => simp [intOf]; omega
                · obtain rfl : k = 8 := by omega
                  simp only [show ((8 : Nat) : Int) = 8 from rfl]
                  have hE3 : Ent (u32c bt 85 (tabH (eat v bj)) :: u32c bl 83 u.list :: u32c bw 82 (wst bj 64) :: row 53 1 (.slice (some ⟨g, 0, none⟩) n4 c) n4 ((wordsOf p n4).map u32v) :: pt br (.cells rs.toArray 46 (0, 0)) :: l) wr := by rw [← Hadd.out]; exact hE
                  clear hE
                  go_wp2_with (first | go_skip)
                  go_roundw
                  case rel => exact ⟨j + 1, h64, by rw [← Hj4.out], by rw [Hsn.out]; exact (hE3.erase 1).erase 1⟩
                  case measure =>
                    have h1 := Hj0.out
                    simp [intOf]; omega
    · have hjl : j = p.length / 64 := by have := Hp64.out; omega
      have hjn : ¬ ((16 * j : Nat) : Int) < (n4 : Int) := by have h1 := Hn4.out; omega
      rw [hjl] at hE
      rw [hjl] at hvok
      generalize hv0 : eatAll hFirst p (p.length / 64) = v at *
      have Hv0 := SL.hid hv0
      generalize 16 * j = j0 at *
      clear hv0 hjl hlt hj
      go_wp2_with (first
        | go_skip
        | ((with_reducible (show Go.wpList _ _ _ (Go.Oper.mk _ (.alloc _) _ _ _ _ :: _) _ _)); refine wpl_allocN hE rfl rfl (n := 32) (by kernel_rfl) ?_; clear hE; intro bo es w1 he hE1))
      have He := SL.hid he
      clear he
      have hE2 : Ent (pt bo (.cells (ostate v es 0).toArray 46 (0, 0)) :: u32c bt 85 (tabH v) :: row 53 1 (.slice (some ⟨g, 0, none⟩) n4 c) n4 ((wordsOf p n4).map u32v) :: pt br (.cells rs.toArray 46 (0, 0)) :: l) w1 := hE1
      clear hE1
      go_loopw [25] (fun i wr => ORel v es bo (u32c bt 85 (tabH v) :: row 53 1 (.slice (some ⟨g, 0, none⟩) n4 c) n4 ((wordsOf p n4).map u32v) :: pt br (.cells rs.toArray 46 (0, 0)) :: l) i wr) (fun i _ => 32 - (intOf i).toNat)
      case atStart => exact ⟨0, by omega, rfl, hE2⟩
      case round =>
        clear hE2
        obtain ⟨k, hk, rfl, hE⟩ := hrel
        by_cases hk32 : k < 32
        · have ik : (k : Int) < 32 := by omega
          obtain ⟨a, b, hab, ha8, hb4⟩ : ∃ a b, k = 4 * a + b ∧ a < 8 ∧ b < 4 := ⟨k / 4, k % 4, by omega, by omega, by omega⟩
          have q1 : ((k : Int)).tdiv 4 = (a : Int) := by rw [Int.tdiv_eq_ediv_of_nonneg (by omega)]; omega
          have q2 : (k : Int) / 4 = (a : Int) := by omega
          have q3 : ((k : Int)).tmod 4 = (b : Int) := by rw [Int.tmod_eq_emod_of_nonneg (by omega)]; omega
          have q4 : (k : Int) % 4 = (b : Int) := by omega
          have q5 : (a : Int) < 8 := by omega
          have q6 : (b : Int) < 4 := by omega
          have hset := ostate_set (v := v) He.out ha8 hb4
          rw [show 4 * a + (b + 1) = k + 1 by omega, ← hab] at hset
          have Hol := SL.hid (ostate_len (v := v) (k := k) He.out (by omega))
          have c0 := u32_at hE 1 rfl (k := 64 + a) (show 64 + a < 72 by omega)
          rw [tabH_get v ha8] at c0
          generalize v.list.getD a 0 = x at *
          have c1 := byte_of (x / 2 ^ (24 - 8 * b))
          have c2 := byte_of' (x / 2 ^ (24 - 8 * b))
          have hsh : (x : Int) / 2 ^ (24 - 8 * b) = ((x / 2 ^ (24 - 8 * b) : Nat) : Int) := by simp
          generalize UInt8.ofNat (x / 2 ^ (24 - 8 * b)) = xb at *
          generalize x / 2 ^ (24 - 8 * b) = sh at *
          have Hset := SL.hid hset
          clear hset hab
          go_wp2_with (first
            | go_skip
            | ((with_reducible (show Go.wpList _ _ _ (Go.Oper.mk _ (.store _ _ _) _ _ _ _ :: _) _ _)); refine wpl_set1 hE 0 rfl rfl rfl (off := k) rfl (v := bval xb) rfl Tryd.sizeOf5 rfl rfl (by rw [Hol.out]; exact hk32) ?_; clear hE c0; intro w5 hE; simp only [List.set_cons_zero] at hE; rw [Hset.out] at hE))
          go_roundw
          case rel => exact ⟨k + 1, hk32, by simp, hE⟩
          case measure => simp [intOf]; omega
        · obtain rfl : k = 32 := by omega
          simp only [show ((32 : Nat) : Int) = 32 from rfl]
          have hfin : ostate v es 32 = bvals (outOf v) := by
            unfold ostate
            rw [List.take_of_length_le (by rw [outOf_len]; omega), List.drop_of_length_le (by rw [He.out]; omega), List.append_nil]
          rw [hfin] at hE
          have hsl : (bvals (outOf v)).length = 32 := by rw [bvals_length]; rfl
          have hone := bvals_one (outOf v)
          generalize hys : bvals (outOf v) = ys at *
          have Hys := SL.hid hys
          have Hsl := SL.hid hsl
          have Hone := SL.hid hone
          clear hfin hsl hone hys
          go_wp2_with (first
            | go_skip
            | ((with_reducible (show Go.wpList _ _ _ (Go.Oper.mk _ (.load _ _) _ _ _ _ :: _) _ _)); refine wpl_loadW hE 0 rfl rfl rfl rfl Tryd.isAgg46 Tryd.sizeOf46 Hsl.out ?_)
            | ((with_reducible (show Go.wpList _ _ _ (Go.Oper.mk _ (.store _ _ _) _ _ _ _ :: _) _ _)); refine wpl_storeN hE 3 rfl rfl rfl (xs := ys) rfl rfl Tryd.sizeOf46 Hsl.out Hone.out Hq.out ?_; clear hE; intro w9 hE; simp only [List.set_cons_zero, List.set_cons_succ] at hE))
          refine bodyPost_ret (results_cellA rfl hE 3 rfl rfl Tryd.isAgg46 Tryd.sizeOf46 Hsl.out) rfl ⟨_, rfl, by rw [← Hys.out, Hv0.out], hE.tail.tail.tail.tail⟩
end Go.Proofs.YtehfbokkcamliaaDoor
namespace Go.Proofs.YtehfbokkcamliaaDoor
theorem root_2_3 : rootV 2 3 = 1116352408 := by kernel_rfl
theorem root_3_3 : rootV 3 3 = 1899447441 := by kernel_rfl
theorem root_5_3 : rootV 5 3 = 3049323471 := by kernel_rfl
theorem root_7_3 : rootV 7 3 = 3921009573 := by kernel_rfl
theorem root_11_3 : rootV 11 3 = 961987163 := by kernel_rfl
theorem root_13_3 : rootV 13 3 = 1508970993 := by kernel_rfl
theorem root_17_3 : rootV 17 3 = 2453635748 := by kernel_rfl
theorem root_19_3 : rootV 19 3 = 2870763221 := by kernel_rfl
theorem root_23_3 : rootV 23 3 = 3624381080 := by kernel_rfl
theorem root_29_3 : rootV 29 3 = 310598401 := by kernel_rfl
theorem root_31_3 : rootV 31 3 = 607225278 := by kernel_rfl
theorem root_37_3 : rootV 37 3 = 1426881987 := by kernel_rfl
end Go.Proofs.YtehfbokkcamliaaDoor
namespace Go.Proofs.YtehfbokkcamliaaDoor
theorem root_41_3 : rootV 41 3 = 1925078388 := by kernel_rfl
theorem root_43_3 : rootV 43 3 = 2162078206 := by kernel_rfl
theorem root_47_3 : rootV 47 3 = 2614888103 := by kernel_rfl
theorem root_53_3 : rootV 53 3 = 3248222580 := by kernel_rfl
theorem root_59_3 : rootV 59 3 = 3835390401 := by kernel_rfl
theorem root_61_3 : rootV 61 3 = 4022224774 := by kernel_rfl
theorem root_67_3 : rootV 67 3 = 264347078 := by kernel_rfl
theorem root_71_3 : rootV 71 3 = 604807628 := by kernel_rfl
theorem root_73_3 : rootV 73 3 = 770255983 := by kernel_rfl
theorem root_79_3 : rootV 79 3 = 1249150122 := by kernel_rfl
theorem root_83_3 : rootV 83 3 = 1555081692 := by kernel_rfl
theorem root_89_3 : rootV 89 3 = 1996064986 := by kernel_rfl
end Go.Proofs.YtehfbokkcamliaaDoor
namespace Go.Proofs.YtehfbokkcamliaaDoor
theorem root_97_3 : rootV 97 3 = 2554220882 := by kernel_rfl
theorem root_101_3 : rootV 101 3 = 2821834349 := by kernel_rfl
theorem root_103_3 : rootV 103 3 = 2952996808 := by kernel_rfl
theorem root_107_3 : rootV 107 3 = 3210313671 := by kernel_rfl
theorem root_109_3 : rootV 109 3 = 3336571891 := by kernel_rfl
theorem root_113_3 : rootV 113 3 = 3584528711 := by kernel_rfl
theorem root_127_3 : rootV 127 3 = 113926993 := by kernel_rfl
theorem root_131_3 : rootV 131 3 = 338241895 := by kernel_rfl
theorem root_137_3 : rootV 137 3 = 666307205 := by kernel_rfl
theorem root_139_3 : rootV 139 3 = 773529912 := by kernel_rfl
theorem root_149_3 : rootV 149 3 = 1294757372 := by kernel_rfl
theorem root_151_3 : rootV 151 3 = 1396182291 := by kernel_rfl
end Go.Proofs.YtehfbokkcamliaaDoor
namespace Go.Proofs.YtehfbokkcamliaaDoor
theorem root_157_3 : rootV 157 3 = 1695183700 := by kernel_rfl
theorem root_163_3 : rootV 163 3 = 1986661051 := by kernel_rfl
theorem root_167_3 : rootV 167 3 = 2177026350 := by kernel_rfl
theorem root_173_3 : rootV 173 3 = 2456956037 := by kernel_rfl
theorem root_179_3 : rootV 179 3 = 2730485921 := by kernel_rfl
theorem root_181_3 : rootV 181 3 = 2820302411 := by kernel_rfl
theorem root_191_3 : rootV 191 3 = 3259730800 := by kernel_rfl
theorem root_193_3 : rootV 193 3 = 3345764771 := by kernel_rfl
theorem root_197_3 : rootV 197 3 = 3516065817 := by kernel_rfl
theorem root_199_3 : rootV 199 3 = 3600352804 := by kernel_rfl
theorem root_211_3 : rootV 211 3 = 4094571909 := by kernel_rfl
theorem root_223_3 : rootV 223 3 = 275423344 := by kernel_rfl
end Go.Proofs.YtehfbokkcamliaaDoor
namespace Go.Proofs.YtehfbokkcamliaaDoor
theorem root_227_3 : rootV 227 3 = 430227734 := by kernel_rfl
theorem root_229_3 : rootV 229 3 = 506948616 := by kernel_rfl
theorem root_233_3 : rootV 233 3 = 659060556 := by kernel_rfl
theorem root_239_3 : rootV 239 3 = 883997877 := by kernel_rfl
theorem root_241_3 : rootV 241 3 = 958139571 := by kernel_rfl
theorem root_251_3 : rootV 251 3 = 1322822218 := by kernel_rfl
theorem root_257_3 : rootV 257 3 = 1537002063 := by kernel_rfl
theorem root_263_3 : rootV 263 3 = 1747873779 := by kernel_rfl
theorem root_269_3 : rootV 269 3 = 1955562222 := by kernel_rfl
theorem root_271_3 : rootV 271 3 = 2024104815 := by kernel_rfl
theorem root_277_3 : rootV 277 3 = 2227730452 := by kernel_rfl
theorem root_281_3 : rootV 281 3 = 2361852424 := by kernel_rfl
end Go.Proofs.YtehfbokkcamliaaDoor
namespace Go.Proofs.YtehfbokkcamliaaDoor
theorem root_283_3 : rootV 283 3 = 2428436474 := by kernel_rfl
theorem root_293_3 : rootV 293 3 = 2756734187 := by kernel_rfl
theorem root_307_3 : rootV 307 3 = 3204031479 := by kernel_rfl
theorem root_311_3 : rootV 311 3 = 3329325298 := by kernel_rfl
theorem root_2_2 : rootV 2 2 = 1779033703 := by kernel_rfl
theorem root_3_2 : rootV 3 2 = 3144134277 := by kernel_rfl
theorem root_5_2 : rootV 5 2 = 1013904242 := by kernel_rfl
theorem root_7_2 : rootV 7 2 = 2773480762 := by kernel_rfl
theorem root_11_2 : rootV 11 2 = 1359893119 := by kernel_rfl
theorem root_13_2 : rootV 13 2 = 2600822924 := by kernel_rfl
theorem root_17_2 : rootV 17 2 = 528734635 := by kernel_rfl
theorem root_19_2 : rootV 19 2 = 1541459225 := by kernel_rfl
end Go.Proofs.YtehfbokkcamliaaDoor
namespace Go.Proofs.YtehfbokkcamliaaDoor

theorem roots3 : ∀ i, i < 64 → rootV (pr i) 3 = kTab.getD i 0
  | 0, _ => root_2_3
  | 1, _ => root_3_3
  | 2, _ => root_5_3
  | 3, _ => root_7_3
  | 4, _ => root_11_3
  | 5, _ => root_13_3
  | 6, _ => root_17_3
  | 7, _ => root_19_3
  | 8, _ => root_23_3
  | 9, _ => root_29_3
  | 10, _ => root_31_3
  | 11, _ => root_37_3
  | 12, _ => root_41_3
  | 13, _ => root_43_3
  | 14, _ => root_47_3
  | 15, _ => root_53_3
  | 16, _ => root_59_3
  | 17, _ => root_61_3
  | 18, _ => root_67_3
  | 19, _ => root_71_3
  | 20, _ => root_73_3
  | 21, _ => root_79_3
  | 22, _ => root_83_3
  | 23, _ => root_89_3
  | 24, _ => root_97_3
  | 25, _ => root_101_3
  | 26, _ => root_103_3
  | 27, _ => root_107_3
  | 28, _ => root_109_3
  | 29, _ => root_113_3
  | 30, _ => root_127_3
  | 31, _ => root_131_3
  | 32, _ => root_137_3
  | 33, _ => root_139_3
  | 34, _ => root_149_3
  | 35, _ => root_151_3
  | 36, _ => root_157_3
  | 37, _ => root_163_3
  | 38, _ => root_167_3
  | 39, _ => root_173_3
  | 40, _ => root_179_3
  | 41, _ => root_181_3
  | 42, _ => root_191_3
  | 43, _ => root_193_3
  | 44, _ => root_197_3
  | 45, _ => root_199_3
  | 46, _ => root_211_3
  | 47, _ => root_223_3
  | 48, _ => root_227_3
  | 49, _ => root_229_3
  | 50, _ => root_233_3
  | 51, _ => root_239_3
  | 52, _ => root_241_3
  | 53, _ => root_251_3
  | 54, _ => root_257_3
  | 55, _ => root_263_3
  | 56, _ => root_269_3
  | 57, _ => root_271_3
  | 58, _ => root_277_3
  | 59, _ => root_281_3
  | 60, _ => root_283_3
  | 61, _ => root_293_3
  | 62, _ => root_307_3
  | 63, _ => root_311_3
  | n + 64, h => absurd h (by omega)
theorem roots2 : ∀ i, i < 8 → rootV (pr i) 2 = hFirst.list.getD i 0
  | 0, _ => root_2_2
  | 1, _ => root_3_2
  | 2, _ => root_5_2
  | 3, _ => root_7_2
  | 4, _ => root_11_2
  | 5, _ => root_13_2
  | 6, _ => root_17_2
  | 7, _ => root_19_2
  | n + 8, h => absurd h (by omega)
def tabK : Nat → List Nat
  | 0 => List.replicate 72 0
  | i + 1 => if i < 8 then ((tabK i).set i (kTab.getD i 0)).set (64 + i) (hFirst.list.getD i 0) else (tabK i).set i (kTab.getD i 0)
theorem tabK_is : ∀ i, i ≤ 64 → tabAt i = tabK i
  | 0, _ => rfl
  | i + 1, h => by
    rw [tabAt, tabK, tabK_is i (by omega), roots3 i (by omega)]
    split
    · rename_i h8
      rw [roots2 i h8]
    · rfl
set_option maxRecDepth 100000 in
theorem tab64 : tabAt 64 = kTab ++ hFirst.list := (tabK_is 64 (Nat.le_refl _)).trans (by decide +kernel)
end Go.Proofs.YtehfbokkcamliaaDoor
namespace Go.Proofs.YtehfbokkcamliaaDoor
open Go.RowKit Go.SL

theorem Tables_is {l : List HProp} {w : World} (hE : Ent l w) :
    Calls Tryd.prog 28 #[] w (Ret fun v w' => v = tabV (tabH hFirst) ∧ Ent l w') := by
  have h := Tables_any hE
  rw [tab64] at h
  exact h
theorem With_is {l : List HProp} {w : World} {bs : List UInt8} (hb : bs.length ≤ 1000000) (hE : Ent l w) :
    Calls Tryd.prog 88 #[tabV (tabH hFirst), .string ⟨bs.toArray⟩] w (Ret fun v w' => v = .agg (bvals (shaV bs)).toArray ∧ Ent l w') := by
  have h := With_any hb hE
  rw [← shaV_is] at h
  exact h
end Go.Proofs.YtehfbokkcamliaaDoor
