/-
  The law of the bytes of any things: the walk of its function, at any things; the loop gathers what the document says.
-/
import Derived.Test.YtpchnmcofkffiaaLa6
namespace Go.Proofs.Ytpchnmcofkffiaa
open Go.RowKit Go.SL

def want1 (x : Thing) : List UInt8 := if x.what == 0 then numS x.width x.num else if x.what == 1 then hash32 x.text else if x.what == 2 then x.text else UInt8.ofNat x.text.length :: x.text
def wantB (xs : List Thing) : List UInt8 := xs.flatMap want1

theorem want1_ok (x : Thing) (h : thingOk x = true) : want1 x = thingB x := by
  unfold want1 thingB
  split
  · rename_i h0
    unfold thingOk at h
    rw [if_pos h0] at h
    unfold numS
    simp only [numOk, Bool.and_eq_true] at h
    rw [if_pos h.1]
  · rfl

theorem wantB_ok (xs : List Thing) (h : xs.all thingOk = true) : wantB xs = putsB xs := by
  induction xs with
  | nil => rfl
  | cons x xs ih =>
    simp only [List.all_cons, Bool.and_eq_true] at h
    have := ih h.2
    unfold wantB putsB at *
    rw [List.flatMap_cons, this, List.filter_cons, if_pos h.1, List.flatMap_cons, want1_ok x h.1]

theorem want1_length (x : Thing) (ht : x.text.length ≤ 400) : (want1 x).length ≤ 401 := by
  unfold want1 numS
  split
  · split
    · rename_i h
      rw [be_length]
      simp only [wideB, Bool.or_eq_true, beq_iff_eq] at h
      omega
    · simp
  · split
    · rw [hash32_length]; omega
    · split
      · omega
      · simp; omega

theorem wantB_length (xs : List Thing) (ht : ∀ x ∈ xs, x.text.length ≤ 400) : (wantB xs).length ≤ 401 * xs.length := by
  induction xs with
  | nil => simp [wantB]
  | cons x xs ih =>
    have h1 := ih (fun y hy => ht y (by simp [hy]))
    have h2 := want1_length x (ht x (by simp))
    unfold wantB at h1 ⊢
    simp only [List.flatMap_cons, List.length_append, List.length_cons]
    omega

def WantRel (xs : List Thing) (l : List HProp) (i s ok : Value) (wr : World) : Prop :=
  ∃ k : Nat, k ≤ xs.length ∧ i = .int .i64 k ∧ s = .string ⟨(wantB (xs.take k)).toArray⟩ ∧ ok = .bool ((xs.take k).all thingOk) ∧ Ent l wr

theorem WantRel.step {xs : List Thing} {l : List HProp} {k : Nat} (hlt : k < xs.length) {w : World} {s : ByteArray} {ok : Bool} (hE : Ent l w) (hs : s = ⟨(wantB (xs.take k) ++ want1 xs[k]).toArray⟩) (ho : ok = ((xs.take k).all thingOk && thingOk xs[k])) :
    WantRel xs l (.int .i64 ((k : Int) + 1)) (.string s) (.bool ok) w := by
  refine ⟨k + 1, hlt, by simp, ?_, ?_, hE⟩
  · rw [hs, List.take_succ_eq_append_getElem hlt]
    simp only [wantB, List.flatMap_append, List.flatMap_cons, List.flatMap_nil, List.append_nil]
  · rw [ho, List.take_succ_eq_append_getElem hlt, List.all_append]
    simp

theorem len_byte (ys : List UInt8) : Value.int .u8 ((ys.length : Int) % 256) = bval (UInt8.ofNat ys.length) := by
  simp only [bval, UInt8.toNat_ofNat']
  congr 1

theorem great_at {b : Bool} {w : World} {xs : List Thing} {ao : Option Addr} {c : Nat} (hg : greatV xs = b) (hr : reads (.slice ao xs.length c) xs.length (thingCells xs) w) :
    Calls Try.prog 11 #[.slice ao xs.length c] w (fun e w' => e = .returned (.bool b) ∧ w = w') := by
  have h := great1_any (l := []) hr
  rw [hg] at h
  exact h

set_option maxRecDepth 100000 in
set_option maxHeartbeats 4000000 in
theorem PackPuts_any {xs : List Thing} (hgood : ∀ x ∈ xs, x.good) {l : List HProp} {w : World} (hE : Ent l w) {ao : Option Addr} {c : Nat} (hk : Knows l (reads (.slice ao xs.length c) xs.length (thingCells xs))) :
    Calls Try.prog 3 #[.slice ao xs.length c] w (Ret fun v w' => v = .bool true ∧ Ent l w') := by
  cases hg : greatV xs with
  | true =>
    go_enter Try.func3, Try.ntmps3
    go_wp2_with (first
      | (go_at_call 11; refine (great_at hg (hk _ hE)).mono ?_; rintro e w2 ⟨rfl, rfl⟩)
      | (go_at_call 12; have H := wakes1_any hE; refine H.mono ?_; clear H; rintro e w2 ⟨v, rfl, rfl, hE⟩))
    go_ret
    exact ⟨_, rfl, rfl, hE⟩
  | false =>
    obtain ⟨h60, h400⟩ := great_false hg
    have H400 := SL.hid h400
    have Hg := SL.hid hg
    have Hgood := SL.hid hgood
    clear hg h400 hgood
    go_enter Try.func3, Try.ntmps3
    go_wp2_with (first
      | (go_at_call 11; refine (great_at Hg.out (hk _ hE)).mono ?_; rintro e w2 ⟨rfl, rfl⟩))
    go_loopw [5, 3, 4] (fun i s ok wr => WantRel xs l i s ok wr) (fun i _ _ _ => xs.length - (intOf i).toNat)
    case atStart => exact ⟨0, Nat.zero_le _, rfl, rfl, rfl, hE⟩
    case round =>
      obtain ⟨k, hkl, rfl, rfl, rfl, hE⟩ := hrel
      by_cases hlt : k < xs.length
      · obtain ⟨b, off, rfl, hc⟩ := reads_form (hk _ hE) (by omega) (by rw [thingCells, flatMap_len _ 4 Thing.cells_len]; omega)
        have hcx : ∀ j v, xs[k].cells[j]? = some v → wr.cell? ((⟨b, off + k * 4, none⟩ : Addr).add j) = some v := by
          intro j v hv
          rw [Addr.add_lit, Nat.add_assoc]
          exact hc _ _ (thing_at hlt j v hv)
        clear hc
        have hb : (wantB (xs.take k)).length ≤ 100000 := by
          have := wantB_length (xs.take k) (fun x hx => H400.out x (List.mem_of_mem_take hx))
          rw [List.length_take] at this
          omega
        have ht : (xs[k]).text.length ≤ 400 := H400.out xs[k] (List.getElem_mem hlt)
        have hgd := SL.hid (Hgood.out xs[k] (List.getElem_mem hlt))
        have hw1 := want1_length xs[k] ht
        have hstep := @WantRel.step xs l k hlt
        generalize hx : xs[k] = x at *
        have Hx := SL.hid hx
        clear hx
        have Hcx := SL.hid hcx
        clear hcx
        unfold Thing.cells at Hcx
        generalize wantB (xs.take k) = sofar at *
        generalize (xs.take k).all thingOk = okv at *
        cases h0 : ((x.what.toNat : Int) == 0) with
        | true =>
          have e0 : (x.what == 0) = true := what_eq x.what 0 h0
          have eo : thingOk x = numOk x.width x.num := by unfold thingOk; rw [if_pos e0]
          have eb : want1 x = numS x.width x.num := by unfold want1; rw [if_pos e0]
          rw [eo, eb] at hstep
          rw [eb] at hw1
          clear eo eb e0
          cases okv with
          | true =>
            go_wp2_with (first | go_skip | (refine wpl_loadC rfl rfl rfl Try.isAgg27 Try.sizeOf27 [.int .u8 x.what.toNat, .int .i64 x.width, .int .u64 x.num, .string ⟨x.text.toArray⟩] rfl Hcx.out ?_) | (refine wpl_loadW hE 0 rfl rfl rfl rfl Try.isAgg27 Try.sizeOf27 rfl ?_) | (refine wpl_storeW hE 0 rfl rfl rfl rfl rfl Try.sizeOf27 rfl (by simp [Value.oneCell']) rfl ?_; clear hE; intro w hE) | (refine wpl_storeW hE 0 rfl rfl rfl rfl rfl Try.sizeOf31 H32.out (bvals_one _) rfl ?_; clear hE; intro w hE) | (go_at_call 13; have H := Num_any x.num hgd.out.1 x.width hE; refine H.mono ?_; clear H; rintro e w2 ⟨v, rfl, rfl, hE⟩) | (go_at_call 14; have H := Thing_hash x hE; refine H.mono ?_; clear H; rintro e w2 ⟨v, rfl, rfl, hE⟩) | (refine wpl_bytesStr (bs := hash32 x.text) rfl rfl rfl Try.underlying33 Try.underlying5 Try.underlying9 (n := 32) (reads_pt hE 0 rfl (fun j u hu => by simpa [bvals, bval] using hu)) (hash32_length _).symm ?_) | (refine wpl_bytesStr (bs := [UInt8.ofNat x.text.length]) rfl rfl rfl Try.underlying33 Try.underlying5 Try.underlying9 (reads_row (Ent.rowB1 hE _ _ Hlb.out) 0 rfl) rfl ?_; replace hE := (Ent.rowB1 hE _ _ Hlb.out).tail) | (refine wpl_alloc hE rfl rfl (by simp [go_sem]; rfl) ?_; clear hE; intro b w hE; simp only [Act.eval, Act.put, List.setIfInBounds_toArray, List.set_cons_zero, List.set_cons_succ, getD_lit, List.getD_cons_succ, List.getD_cons_zero, Value.cells] at hE) | (first | (refine wpl_load1 hE 0 rfl rfl rfl rfl (by simp [go_sem]) rfl ?_) | (refine wpl_load1 hE 1 rfl rfl rfl rfl (by simp [go_sem]) rfl ?_) | (refine wpl_load1 hE 2 rfl rfl rfl rfl (by simp [go_sem]) rfl ?_) | (refine wpl_load1 hE 3 rfl rfl rfl rfl (by simp [go_sem]) rfl ?_) | (refine wpl_load1 hE 4 rfl rfl rfl rfl (by simp [go_sem]) rfl ?_) | (refine wpl_load1 hE 5 rfl rfl rfl rfl (by simp [go_sem]) rfl ?_)))
            go_roundw
            case rel => exact hstep hE.tail (bytes_add _ _) rfl
            case measure => simp [intOf]; omega
          | false =>
            go_wp2_with (first | go_skip | (refine wpl_loadC rfl rfl rfl Try.isAgg27 Try.sizeOf27 [.int .u8 x.what.toNat, .int .i64 x.width, .int .u64 x.num, .string ⟨x.text.toArray⟩] rfl Hcx.out ?_) | (refine wpl_loadW hE 0 rfl rfl rfl rfl Try.isAgg27 Try.sizeOf27 rfl ?_) | (refine wpl_storeW hE 0 rfl rfl rfl rfl rfl Try.sizeOf27 rfl (by simp [Value.oneCell']) rfl ?_; clear hE; intro w hE) | (refine wpl_storeW hE 0 rfl rfl rfl rfl rfl Try.sizeOf31 H32.out (bvals_one _) rfl ?_; clear hE; intro w hE) | (go_at_call 13; have H := Num_any x.num hgd.out.1 x.width hE; refine H.mono ?_; clear H; rintro e w2 ⟨v, rfl, rfl, hE⟩) | (go_at_call 14; have H := Thing_hash x hE; refine H.mono ?_; clear H; rintro e w2 ⟨v, rfl, rfl, hE⟩) | (refine wpl_bytesStr (bs := hash32 x.text) rfl rfl rfl Try.underlying33 Try.underlying5 Try.underlying9 (n := 32) (reads_pt hE 0 rfl (fun j u hu => by simpa [bvals, bval] using hu)) (hash32_length _).symm ?_) | (refine wpl_bytesStr (bs := [UInt8.ofNat x.text.length]) rfl rfl rfl Try.underlying33 Try.underlying5 Try.underlying9 (reads_row (Ent.rowB1 hE _ _ Hlb.out) 0 rfl) rfl ?_; replace hE := (Ent.rowB1 hE _ _ Hlb.out).tail) | (refine wpl_alloc hE rfl rfl (by simp [go_sem]; rfl) ?_; clear hE; intro b w hE; simp only [Act.eval, Act.put, List.setIfInBounds_toArray, List.set_cons_zero, List.set_cons_succ, getD_lit, List.getD_cons_succ, List.getD_cons_zero, Value.cells] at hE) | (first | (refine wpl_load1 hE 0 rfl rfl rfl rfl (by simp [go_sem]) rfl ?_) | (refine wpl_load1 hE 1 rfl rfl rfl rfl (by simp [go_sem]) rfl ?_) | (refine wpl_load1 hE 2 rfl rfl rfl rfl (by simp [go_sem]) rfl ?_) | (refine wpl_load1 hE 3 rfl rfl rfl rfl (by simp [go_sem]) rfl ?_) | (refine wpl_load1 hE 4 rfl rfl rfl rfl (by simp [go_sem]) rfl ?_) | (refine wpl_load1 hE 5 rfl rfl rfl rfl (by simp [go_sem]) rfl ?_)))
            go_roundw
            case rel => exact hstep hE.tail (bytes_add _ _) rfl
            case measure => simp [intOf]; omega
        | false =>
          have e0 : (x.what == 0) = false := what_ne x.what 0 h0
          cases h1 : ((x.what.toNat : Int) == 1) with
          | true =>
            have e1 : (x.what == 1) = true := what_eq x.what 1 h1
            have eo : thingOk x = true := by unfold thingOk; rw [e0, e1]; rfl
            have eb : want1 x = hash32 x.text := by unfold want1; rw [e0, e1]; rfl
            rw [eo, eb] at hstep
            clear eo eb e0 e1
            have hl32 := hash32_length x.text
            have H32 := SL.hid (show (bvals (hash32 x.text)).length = 32 by rw [bvals_length, hash32_length])
            go_wp2_with (first | go_skip | (refine wpl_loadC rfl rfl rfl Try.isAgg27 Try.sizeOf27 [.int .u8 x.what.toNat, .int .i64 x.width, .int .u64 x.num, .string ⟨x.text.toArray⟩] rfl Hcx.out ?_) | (refine wpl_loadW hE 0 rfl rfl rfl rfl Try.isAgg27 Try.sizeOf27 rfl ?_) | (refine wpl_storeW hE 0 rfl rfl rfl rfl rfl Try.sizeOf27 rfl (by simp [Value.oneCell']) rfl ?_; clear hE; intro w hE) | (refine wpl_storeW hE 0 rfl rfl rfl rfl rfl Try.sizeOf31 H32.out (bvals_one _) rfl ?_; clear hE; intro w hE) | (go_at_call 13; have H := Num_any x.num hgd.out.1 x.width hE; refine H.mono ?_; clear H; rintro e w2 ⟨v, rfl, rfl, hE⟩) | (go_at_call 14; have H := Thing_hash x hE; refine H.mono ?_; clear H; rintro e w2 ⟨v, rfl, rfl, hE⟩) | (refine wpl_bytesStr (bs := hash32 x.text) rfl rfl rfl Try.underlying33 Try.underlying5 Try.underlying9 (n := 32) (reads_pt hE 0 rfl (fun j u hu => by simpa [bvals, bval] using hu)) (hash32_length _).symm ?_) | (refine wpl_bytesStr (bs := [UInt8.ofNat x.text.length]) rfl rfl rfl Try.underlying33 Try.underlying5 Try.underlying9 (reads_row (Ent.rowB1 hE _ _ Hlb.out) 0 rfl) rfl ?_; replace hE := (Ent.rowB1 hE _ _ Hlb.out).tail) | (refine wpl_alloc hE rfl rfl (by simp [go_sem]; rfl) ?_; clear hE; intro b w hE; simp only [Act.eval, Act.put, List.setIfInBounds_toArray, List.set_cons_zero, List.set_cons_succ, getD_lit, List.getD_cons_succ, List.getD_cons_zero, Value.cells] at hE) | (first | (refine wpl_load1 hE 0 rfl rfl rfl rfl (by simp [go_sem]) rfl ?_) | (refine wpl_load1 hE 1 rfl rfl rfl rfl (by simp [go_sem]) rfl ?_) | (refine wpl_load1 hE 2 rfl rfl rfl rfl (by simp [go_sem]) rfl ?_) | (refine wpl_load1 hE 3 rfl rfl rfl rfl (by simp [go_sem]) rfl ?_) | (refine wpl_load1 hE 4 rfl rfl rfl rfl (by simp [go_sem]) rfl ?_) | (refine wpl_load1 hE 5 rfl rfl rfl rfl (by simp [go_sem]) rfl ?_)))
            go_roundw
            case rel => exact hstep hE.tail.tail (bytes_add _ _) (by simp)
            case measure => simp [intOf]; omega
          | false =>
            have e1 : (x.what == 1) = false := what_ne x.what 1 h1
            cases h2 : ((x.what.toNat : Int) == 2) with
            | true =>
              have e2 : (x.what == 2) = true := what_eq x.what 2 h2
              have eo : thingOk x = true := by unfold thingOk; rw [e0, e1, e2]; rfl
              have eb : want1 x = x.text := by unfold want1; rw [e0, e1, e2]; rfl
              rw [eo, eb] at hstep
              clear eo eb e0 e1 e2
              go_wp2_with (first | go_skip | (refine wpl_loadC rfl rfl rfl Try.isAgg27 Try.sizeOf27 [.int .u8 x.what.toNat, .int .i64 x.width, .int .u64 x.num, .string ⟨x.text.toArray⟩] rfl Hcx.out ?_) | (refine wpl_loadW hE 0 rfl rfl rfl rfl Try.isAgg27 Try.sizeOf27 rfl ?_) | (refine wpl_storeW hE 0 rfl rfl rfl rfl rfl Try.sizeOf27 rfl (by simp [Value.oneCell']) rfl ?_; clear hE; intro w hE) | (refine wpl_storeW hE 0 rfl rfl rfl rfl rfl Try.sizeOf31 H32.out (bvals_one _) rfl ?_; clear hE; intro w hE) | (go_at_call 13; have H := Num_any x.num hgd.out.1 x.width hE; refine H.mono ?_; clear H; rintro e w2 ⟨v, rfl, rfl, hE⟩) | (go_at_call 14; have H := Thing_hash x hE; refine H.mono ?_; clear H; rintro e w2 ⟨v, rfl, rfl, hE⟩) | (refine wpl_bytesStr (bs := hash32 x.text) rfl rfl rfl Try.underlying33 Try.underlying5 Try.underlying9 (n := 32) (reads_pt hE 0 rfl (fun j u hu => by simpa [bvals, bval] using hu)) (hash32_length _).symm ?_) | (refine wpl_bytesStr (bs := [UInt8.ofNat x.text.length]) rfl rfl rfl Try.underlying33 Try.underlying5 Try.underlying9 (reads_row (Ent.rowB1 hE _ _ Hlb.out) 0 rfl) rfl ?_; replace hE := (Ent.rowB1 hE _ _ Hlb.out).tail) | (refine wpl_alloc hE rfl rfl (by simp [go_sem]; rfl) ?_; clear hE; intro b w hE; simp only [Act.eval, Act.put, List.setIfInBounds_toArray, List.set_cons_zero, List.set_cons_succ, getD_lit, List.getD_cons_succ, List.getD_cons_zero, Value.cells] at hE) | (first | (refine wpl_load1 hE 0 rfl rfl rfl rfl (by simp [go_sem]) rfl ?_) | (refine wpl_load1 hE 1 rfl rfl rfl rfl (by simp [go_sem]) rfl ?_) | (refine wpl_load1 hE 2 rfl rfl rfl rfl (by simp [go_sem]) rfl ?_) | (refine wpl_load1 hE 3 rfl rfl rfl rfl (by simp [go_sem]) rfl ?_) | (refine wpl_load1 hE 4 rfl rfl rfl rfl (by simp [go_sem]) rfl ?_) | (refine wpl_load1 hE 5 rfl rfl rfl rfl (by simp [go_sem]) rfl ?_)))
              go_roundw
              case rel => exact hstep hE.tail (bytes_add _ _) (by simp)
              case measure => simp [intOf]; omega
            | false =>
              have e2 : (x.what == 2) = false := what_ne x.what 2 h2
              have eo : thingOk x = decide (x.text.length < 256) := by unfold thingOk; rw [e0, e1, e2]; rfl
              have eb : want1 x = UInt8.ofNat x.text.length :: x.text := by unfold want1; rw [e0, e1, e2]; rfl
              rw [eo, eb] at hstep
              clear eo eb e0 e1 e2
              have Hlb := SL.hid (len_byte x.text)
              have hlt256 : decide ((x.text.length : Int) < 256) = decide (x.text.length < 256) := by congr 1; simp; omega
              have Hlt256 := SL.hid hlt256
              clear hlt256
              cases okv with
              | true =>
                go_wp2_with (first | go_skip | (refine wpl_loadC rfl rfl rfl Try.isAgg27 Try.sizeOf27 [.int .u8 x.what.toNat, .int .i64 x.width, .int .u64 x.num, .string ⟨x.text.toArray⟩] rfl Hcx.out ?_) | (refine wpl_loadW hE 0 rfl rfl rfl rfl Try.isAgg27 Try.sizeOf27 rfl ?_) | (refine wpl_storeW hE 0 rfl rfl rfl rfl rfl Try.sizeOf27 rfl (by simp [Value.oneCell']) rfl ?_; clear hE; intro w hE) | (refine wpl_storeW hE 0 rfl rfl rfl rfl rfl Try.sizeOf31 H32.out (bvals_one _) rfl ?_; clear hE; intro w hE) | (go_at_call 13; have H := Num_any x.num hgd.out.1 x.width hE; refine H.mono ?_; clear H; rintro e w2 ⟨v, rfl, rfl, hE⟩) | (go_at_call 14; have H := Thing_hash x hE; refine H.mono ?_; clear H; rintro e w2 ⟨v, rfl, rfl, hE⟩) | (refine wpl_bytesStr (bs := hash32 x.text) rfl rfl rfl Try.underlying33 Try.underlying5 Try.underlying9 (n := 32) (reads_pt hE 0 rfl (fun j u hu => by simpa [bvals, bval] using hu)) (hash32_length _).symm ?_) | (refine wpl_bytesStr (bs := [UInt8.ofNat x.text.length]) rfl rfl rfl Try.underlying33 Try.underlying5 Try.underlying9 (reads_row (Ent.rowB1 hE _ _ Hlb.out) 0 rfl) rfl ?_; replace hE := (Ent.rowB1 hE _ _ Hlb.out).tail) | (refine wpl_alloc hE rfl rfl (by simp [go_sem]; rfl) ?_; clear hE; intro b w hE; simp only [Act.eval, Act.put, List.setIfInBounds_toArray, List.set_cons_zero, List.set_cons_succ, getD_lit, List.getD_cons_succ, List.getD_cons_zero, Value.cells] at hE) | (first | (refine wpl_load1 hE 0 rfl rfl rfl rfl (by simp [go_sem]) rfl ?_) | (refine wpl_load1 hE 1 rfl rfl rfl rfl (by simp [go_sem]) rfl ?_) | (refine wpl_load1 hE 2 rfl rfl rfl rfl (by simp [go_sem]) rfl ?_) | (refine wpl_load1 hE 3 rfl rfl rfl rfl (by simp [go_sem]) rfl ?_) | (refine wpl_load1 hE 4 rfl rfl rfl rfl (by simp [go_sem]) rfl ?_) | (refine wpl_load1 hE 5 rfl rfl rfl rfl (by simp [go_sem]) rfl ?_)))
                go_roundw
                case rel => exact hstep hE.tail (by rw [bytes_add, bytes_add]; simp) (by rw [← Hlt256.out]; rfl)
                case measure => simp [intOf]; omega
              | false =>
                go_wp2_with (first | go_skip | (refine wpl_loadC rfl rfl rfl Try.isAgg27 Try.sizeOf27 [.int .u8 x.what.toNat, .int .i64 x.width, .int .u64 x.num, .string ⟨x.text.toArray⟩] rfl Hcx.out ?_) | (refine wpl_loadW hE 0 rfl rfl rfl rfl Try.isAgg27 Try.sizeOf27 rfl ?_) | (refine wpl_storeW hE 0 rfl rfl rfl rfl rfl Try.sizeOf27 rfl (by simp [Value.oneCell']) rfl ?_; clear hE; intro w hE) | (refine wpl_storeW hE 0 rfl rfl rfl rfl rfl Try.sizeOf31 H32.out (bvals_one _) rfl ?_; clear hE; intro w hE) | (go_at_call 13; have H := Num_any x.num hgd.out.1 x.width hE; refine H.mono ?_; clear H; rintro e w2 ⟨v, rfl, rfl, hE⟩) | (go_at_call 14; have H := Thing_hash x hE; refine H.mono ?_; clear H; rintro e w2 ⟨v, rfl, rfl, hE⟩) | (refine wpl_bytesStr (bs := hash32 x.text) rfl rfl rfl Try.underlying33 Try.underlying5 Try.underlying9 (n := 32) (reads_pt hE 0 rfl (fun j u hu => by simpa [bvals, bval] using hu)) (hash32_length _).symm ?_) | (refine wpl_bytesStr (bs := [UInt8.ofNat x.text.length]) rfl rfl rfl Try.underlying33 Try.underlying5 Try.underlying9 (reads_row (Ent.rowB1 hE _ _ Hlb.out) 0 rfl) rfl ?_; replace hE := (Ent.rowB1 hE _ _ Hlb.out).tail) | (refine wpl_alloc hE rfl rfl (by simp [go_sem]; rfl) ?_; clear hE; intro b w hE; simp only [Act.eval, Act.put, List.setIfInBounds_toArray, List.set_cons_zero, List.set_cons_succ, getD_lit, List.getD_cons_succ, List.getD_cons_zero, Value.cells] at hE) | (first | (refine wpl_load1 hE 0 rfl rfl rfl rfl (by simp [go_sem]) rfl ?_) | (refine wpl_load1 hE 1 rfl rfl rfl rfl (by simp [go_sem]) rfl ?_) | (refine wpl_load1 hE 2 rfl rfl rfl rfl (by simp [go_sem]) rfl ?_) | (refine wpl_load1 hE 3 rfl rfl rfl rfl (by simp [go_sem]) rfl ?_) | (refine wpl_load1 hE 4 rfl rfl rfl rfl (by simp [go_sem]) rfl ?_) | (refine wpl_load1 hE 5 rfl rfl rfl rfl (by simp [go_sem]) rfl ?_)))
                go_roundw
                case rel => exact hstep hE.tail (by rw [bytes_add, bytes_add]; simp) rfl
                case measure => simp [intOf]; omega
      · have ek : k = xs.length := by omega
        subst ek
        rw [List.take_length]
        cases hok : xs.all thingOk with
        | true =>
          have eB := wantB_ok xs hok
          have eE : putsE xs = 0 := by unfold putsE; rw [if_pos hok]
          rw [eB]
          clear eB hok
          have hb : (putsB xs).length ≤ 100000 := by
            have := putsB_length xs H400.out
            omega
          go_wp2_with (first
            | go_skip
            | (go_at_call 15; have H := puts_things Hg.out hE hk; rw [eE] at H; refine H.mono ?_; clear H eE; rintro e w2 ⟨v, rfl, p, rfl, hE⟩)
            | (go_at_call 16; have H := Bytes_ok hE (by omega); refine H.mono ?_; clear H; rintro e w2 ⟨v, rfl, ao, c, rfl, hE⟩)
            | (refine wpl_bytesStr rfl rfl rfl Try.underlying33 Try.underlying5 Try.underlying9 (reads_row hE 0 rfl) rfl ?_)
            | (go_at_call 12; have H := wakes1_any hE; refine H.mono ?_; clear H; rintro e w2 ⟨v, rfl, rfl, hE⟩))
          go_ret
          exact ⟨_, rfl, rfl, hE.tail.tail⟩
        | false =>
          have eE : putsE xs = 6 := by unfold putsE; rw [hok]; rfl
          clear hok
          go_wp2_with (first
            | go_skip
            | (go_at_call 15; have H := puts_things Hg.out hE hk; rw [eE] at H; refine H.mono ?_; clear H eE; rintro e w2 ⟨v, rfl, p, rfl, hE⟩)
            | (go_at_call 16; have H := Bytes_err (by decide) hE; refine H.mono ?_; clear H; rintro e w2 ⟨v, rfl, rfl, hE⟩)
            | (go_at_call 12; have H := wakes1_any hE; refine H.mono ?_; clear H; rintro e w2 ⟨v, rfl, rfl, hE⟩))
          go_ret
          exact ⟨_, rfl, rfl, hE.tail⟩
end Go.Proofs.Ytpchnmcofkffiaa
