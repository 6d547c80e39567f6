/-
  A manifest is plain: the walk. (Printed by gen_mal.py.)
-/
import Derived.Test.YtjmllpgmbaoebaaDoorManPF7
namespace Go.Proofs.YtjmllpgmbaoebaaDoor
open Go.RowKit Go.SL

theorem lines_plain {es : List En} (h : ∀ x ∈ es, Clean x) {c : UInt8} (hc : c ∈ linesP es) : c = 10 ∨ (32 ≤ c.toNat ∧ c.toNat ≤ 126) := by
  obtain ⟨x, hx, hc⟩ := List.mem_flatMap.1 hc
  rcases List.mem_append.1 hc with hc | hc
  · exact .inr (line_free (h x hx) hc)
  · exact .inl (by simpa using hc)
theorem lines_count {es : List En} (h : ∀ x ∈ es, Clean x) : (linesP es).count 10 = es.length := by
  induction es with
  | nil => rfl
  | cons x es ih =>
    have e : linesP (x :: es) = (lineP x ++ [10]) ++ linesP es := rfl
    have h0 : (lineP x).count 10 = 0 := List.count_eq_zero.2 fun hc => line_no (h x (by simp)) hc rfl
    rw [e, List.count_append, List.count_append, h0, ih (fun y hy => h y (by simp [hy]))]
    simp
    omega
theorem lines_last (es : List En) : linesP es = [] ∨ (linesP es).getD ((linesP es).length - 1) 0 = 10 := by
  cases es with
  | nil => exact .inl rfl
  | cons x r =>
    right
    rw [lines_body]
    simp
theorem cnt_step {M : List UInt8} {k : Nat} (h : k < M.length) : (M.getD k 0 = 10 → (M.take (k + 1)).count 10 = (M.take k).count 10 + 1) ∧ (M.getD k 0 ≠ 10 → (M.take (k + 1)).count 10 = (M.take k).count 10) := by
  have e : M.getD k 0 = M[k] := by rw [List.getD_eq_getElem?_getD, List.getElem?_eq_getElem h]; rfl
  rw [List.take_succ_eq_append_getElem h, List.count_append, e]
  refine ⟨fun h => by rw [h]; simp, fun h => ?_⟩
  have h0 : List.count 10 [M[k]] = 0 := List.count_eq_zero.2 (by simpa using fun h2 => h h2.symm)
  omega
def PlRel (M : List UInt8) (l : List HProp) (e i : Value) (wr : World) : Prop :=
  ∃ k : Nat, k ≤ M.length ∧ e = .int .i64 ((M.take k).count 10) ∧ i = .int .i64 k ∧ Ent l wr
set_option maxRecDepth 100000 in
set_option maxHeartbeats 8000000 in
attribute [-go_sem] Instr.loadAt in
theorem ManifestPlain_any {es : List En} {s t : List UInt8} {ao : Option Addr} {c : Nat} {l : List HProp} {w : World} (hk : Knows l (reads (.slice ao es.length c) es.length (es.flatMap enC))) (hE : Ent l w) :
    Calls Tryd.prog 7 #[.slice ao es.length c, .string ⟨s.toArray⟩, .string ⟨t.toArray⟩] w (Ret fun v w' => v = .bool true ∧ Ent l w') := by
  have HWk := SL.hid (fun (L : List HProp) (w : World) (h : Ent L w) => wakes30_any h)
  cases hgs : decide ((500 : Int) < (s.length : Int)) with
  | true =>
    go_enter Tryd.func7, Tryd.ntmps7
    go_wp2_with (first
      | go_skip
      | (go_at_call 20; refine (HWk.out _ _ hE).mono ?_; clear hE; rintro e w9 ⟨v, rfl, rfl, hE⟩))
    go_ret
    exact ⟨_, rfl, rfl, hE⟩
  | false =>
    cases hgt : decide ((500 : Int) < (t.length : Int)) with
    | true =>
      go_enter Tryd.func7, Tryd.ntmps7
      go_wp2_with (first
        | go_skip
        | (go_at_call 20; refine (HWk.out _ _ hE).mono ?_; clear hE; rintro e w9 ⟨v, rfl, rfl, hE⟩))
      go_ret
      exact ⟨_, rfl, rfl, hE⟩
    | false =>
      have hs : s.length ≤ 500 := by have := of_decide_eq_false hgs; omega
      have ht : t.length ≤ 500 := by have := of_decide_eq_false hgt; omega
      cases htp : treeP es with
      | none =>
        have HTr := SL.hid (show Calls Tryd.prog 25 #[.slice ao es.length c] w (Ret fun v w' => ∃ m a c a' c', v = .tuple #[.agg #[.bool false, .string ⟨#[]⟩, .slice a 0 c], .slice a' 0 c', .bool false] ∧ Ent (m ++ l) w') from Tree_none htp hk hE)
        clear htp hk hE
        go_enter Tryd.func7, Tryd.ntmps7
        go_wp2_with (first
          | go_skip
          | (go_at_call 25; refine HTr.out.mono ?_; clear HTr; rintro e w2 ⟨v, rfl, m1, a1, c1, a2, c2, rfl, hE⟩)
          | ((with_reducible (show Go.wpList _ _ _ (Go.Oper.mk _ (.alloc _) _ _ _ _ :: _) _ _)); refine wpl_alloc hE rfl rfl (by simp [go_sem]; rfl) ?_; clear hE; intro b5 w hE; simp only [Act.eval, Act.put, List.setIfInBounds_toArray, List.set_cons_zero, List.set_cons_succ, getD_lit, List.getD_cons_succ, List.getD_cons_zero, Value.cells] at hE)
          | ((with_reducible (show Go.wpList _ _ _ (Go.Oper.mk _ (.store 28 _ _) _ _ _ _ :: _) _ _)); refine wpl_storeW hE 0 rfl rfl rfl (xs := [.bool false, .string ⟨#[]⟩, .slice a1 0 c1]) rfl rfl Tryd.sizeOf28 rfl (by simp [Value.oneCell']) rfl ?_; clear hE; intro wX hE; simp only [List.set_cons_zero] at hE))
        obtain ⟨LL, hEL, hl⟩ : ∃ LL, Ent LL wX ∧ ∀ w, Ent LL w → Ent l w := ⟨_, hE, fun w h => h.tail.drop⟩
        clear hE
        have hE := hEL
        clear hEL
        have HQs := SL.hid (fun (w : World) (h : Ent LL w) => Quote_any (s := s) (by omega) h)
        have HQt := SL.hid (fun (w : World) (h : Ent LL w) => Quote_any (s := t) (by omega) h)
        have hql := quoteP_len s
        have HU := SL.hid (fun (w : World) (h : Ent LL w) => Unquote_any (s := quoteP s) (by omega) h)
        rw [unq_quote] at HU
        simp only [unqV, Option.getD_some, Option.isSome_some] at HU
        have Hqp := SL.hid (fun (x : UInt8) (h : x ∈ quoteP s) => quoteP_plain h)
        have hqr : (quoteP s == quoteP t) = (s == t) := by
          rw [Bool.eq_iff_iff]
          simp only [beq_iff_eq]
          exact ⟨quote_inj, fun h => by rw [h]⟩
        obtain ⟨q, hq⟩ : ∃ q, quoteP s = q := ⟨_, rfl⟩
        obtain ⟨r, hr⟩ : ∃ r, quoteP t = r := ⟨_, rfl⟩
        rw [hq] at HQs hql HU Hqp hqr
        rw [hr] at HQt hqr
        clear hq hr
        have Hql := SL.hid hql
        have Hqr := SL.hid hqr
        have hql2 : q.length ≤ 3000 := by omega
        clear hql hqr
        refine (HQs.out _ hE).mono ?_
        clear hE HQs
        rintro e w3 ⟨v, rfl, rfl, hE⟩
        go_wp2_with (first
          | go_skip
          | (go_at_call 23; refine (HQt.out _ hE).mono ?_; clear hE HQt; rintro e w4 ⟨v, rfl, rfl, hE⟩)
          | (go_at_call 21; refine (HU.out _ hE).mono ?_; clear hE HU; rintro e w5 ⟨v, rfl, rfl, hE⟩))
        go_loopw [17] (fun i wr => CntRel q.length LL i wr) (fun i _ => q.length - (intOf i).toNat)
        case atStart => exact ⟨0, Nat.zero_le _, rfl, hE⟩
        case round =>
          clear hE
          obtain ⟨k, hkl, rfl, hE⟩ := hrel
          by_cases hlt : k < q.length
          · have hix := str_at q k (by rw [bytes_size]; exact hlt)
            have hxm : q.getD k 0 ∈ q := by
              rw [List.getD_eq_getElem?_getD, List.getElem?_eq_getElem hlt]
              exact List.getElem_mem hlt
            have hxp := Hqp.out _ hxm
            clear hxm
            generalize q.getD k 0 = x at *
            have h1 : decide ((x.toNat : Int) < 32) = false := decide_eq_false (by omega)
            have h2 : decide ((126 : Int) < (x.toNat : Int)) = false := decide_eq_false (by omega)
            clear hxp
            go_wp2
            go_roundw
            case rel => exact ⟨k + 1, hlt, by first | rfl | simp, hE⟩
            case measure => simp [intOf] <;> omega
          · obtain rfl : k = q.length := by omega
            have g1 : decide ((s.length : Int) + 2 ≤ (q.length : Int)) = true := decide_eq_true (by have := Hql.out; omega)
            have g2 : decide ((q.length : Int) ≤ 4 * (s.length : Int) + 2) = true := decide_eq_true (by have := Hql.out; omega)
            cases hb : (s == t) with
            | true =>
              have hqr : (q == r) = true := by rw [Hqr.out, hb]
              go_wp2_with (first
                | go_skip
                | (go_at_call 20; refine (HWk.out _ _ hE).mono ?_; clear hE; rintro e w9 ⟨v, rfl, rfl, hE⟩))
              go_ret
              exact ⟨_, rfl, rfl, hl _ hE⟩
            | false =>
              have hqr : (q == r) = false := by rw [Hqr.out, hb]
              go_wp2_with (first
                | go_skip
                | (go_at_call 20; refine (HWk.out _ _ hE).mono ?_; clear hE; rintro e w9 ⟨v, rfl, rfl, hE⟩))
              go_ret
              exact ⟨_, rfl, rfl, hl _ hE⟩
      | some n =>
        obtain ⟨hG, h64, hbd⟩ := treeP_some htp
        have hw := hG.2.1
        have hal := all_perm hG
        have hps := lines_small (es := entT 6 [] n) (fun x hx => hbd x (hal.mem_iff.1 hx))
        have hml : (linesP (entT 6 [] n)).length ≤ 10000000 := by rw [hal.length_eq] at hps; omega
        have Hpl := SL.hid (fun (x : UInt8) (h : x ∈ linesP (entT 6 [] n)) => lines_plain (fun x hx => clean_ent hw hx) h)
        have Hct := SL.hid (lines_count (es := entT 6 [] n) (fun x hx => clean_ent hw hx))
        have Hlast := SL.hid (lines_last (entT 6 [] n))
        have HTr := SL.hid (show Calls Tryd.prog 25 #[.slice ao es.length c] w (Ret fun v w' => ∃ m a c a' c', v = .tuple #[.agg #[.bool n.dir, .string ⟨n.data.toArray⟩, .slice a n.kids.length c], .slice a' (entT 6 [] n).length c', .bool true] ∧ Ent (m ++ l) w' ∧ KidsAt (m ++ l) (.slice a n.kids.length c) n.kids ∧ Knows (m ++ l) (reads (.slice a' (entT 6 [] n).length c') (entT 6 [] n).length ((entT 6 [] n).flatMap enC))) from Tree_good htp hk hE)
        have HP1 := SL.hid (fun (Lk : List HProp) (a : Option Addr) (c1 : Nat) (hK : KidsAt Lk (.slice a n.kids.length c1) n.kids) (L : List HProp) (w : World) (hs : Lk <:+ L) (h : Ent L w) =>
          show Calls Tryd.prog 27 #[.agg #[.bool n.dir, .string ⟨n.data.toArray⟩, .slice a n.kids.length c1]] w (Ret fun v w' => v = .string ⟨(linesP (entT 6 [] n)).toArray⟩ ∧ ∃ m5, Ent (m5 ++ L) w') from
            Put_any (t := n) hw (by decide) (hK.suf hs) (by rw [hal.length_eq]; omega) (fun x hx => by have := hbd x (hal.mem_iff.1 hx); omega) h)
        have hel : (entT 6 [] n).length ≤ 64 := by rw [hal.length_eq]; omega
        clear hG h64 hbd hw hal hps htp hk hE
        generalize linesP (entT 6 [] n) = M at *
        generalize (entT 6 [] n).length = en at *
        go_enter Tryd.func7, Tryd.ntmps7
        go_wp2_with (first
          | go_skip
          | (go_at_call 25; refine HTr.out.mono ?_; clear HTr; rintro e w2 ⟨v, rfl, m1, a1, c1, a2, c2, rfl, hE, hKN, hKA⟩)
          | ((with_reducible (show Go.wpList _ _ _ (Go.Oper.mk _ (.alloc _) _ _ _ _ :: _) _ _)); refine wpl_alloc hE rfl rfl (by simp [go_sem]; rfl) ?_; clear hE; intro b5 w hE; simp only [Act.eval, Act.put, List.setIfInBounds_toArray, List.set_cons_zero, List.set_cons_succ, getD_lit, List.getD_cons_succ, List.getD_cons_zero, Value.cells] at hE)
          | ((with_reducible (show Go.wpList _ _ _ (Go.Oper.mk _ (.store 28 _ _) _ _ _ _ :: _) _ _)); refine wpl_storeW hE 0 rfl rfl rfl (xs := [.bool n.dir, .string ⟨n.data.toArray⟩, .slice a1 n.kids.length c1]) rfl rfl Tryd.sizeOf28 rfl (by simp [Value.oneCell']) rfl ?_; clear hE; intro w hE; simp only [List.set_cons_zero] at hE)
          | ((with_reducible (show Go.wpList _ _ _ (Go.Oper.mk _ (.load 28 _) _ _ _ _ :: _) _ _)); (first | (refine wpl_loadW hE 0 rfl rfl rfl rfl Tryd.isAgg28 Tryd.sizeOf28 rfl ?_) | (refine wpl_loadW hE 1 rfl rfl rfl rfl Tryd.isAgg28 Tryd.sizeOf28 rfl ?_) | (refine wpl_loadW hE 2 rfl rfl rfl rfl Tryd.isAgg28 Tryd.sizeOf28 rfl ?_) | (refine wpl_loadW hE 3 rfl rfl rfl rfl Tryd.isAgg28 Tryd.sizeOf28 rfl ?_) | (refine wpl_loadW hE 4 rfl rfl rfl rfl Tryd.isAgg28 Tryd.sizeOf28 rfl ?_) | (refine wpl_loadW hE 5 rfl rfl rfl rfl Tryd.isAgg28 Tryd.sizeOf28 rfl ?_) | (refine wpl_loadW hE 6 rfl rfl rfl rfl Tryd.isAgg28 Tryd.sizeOf28 rfl ?_) | (refine wpl_loadW hE 7 rfl rfl rfl rfl Tryd.isAgg28 Tryd.sizeOf28 rfl ?_)))
          | (go_at_call 27; refine (HP1.out _ _ _ hKN _ _ (by repeat (first | exact List.suffix_refl _ | refine List.IsSuffix.trans ?_ (List.suffix_cons _ _) | refine List.IsSuffix.trans ?_ (List.suffix_append _ _))) hE).mono ?_; clear hE HP1; rintro e w4 ⟨v, rfl, rfl, mP, hE⟩))
        clear hKA hKN
        obtain ⟨L1, hEL, hl1⟩ : ∃ L1, Ent L1 w4 ∧ ∀ w, Ent L1 w → Ent l w := ⟨_, hE, fun w h => h.drop.tail.drop⟩
        clear hE
        have hE := hEL
        clear hEL
        go_loopw [10, 12] (fun e i wr => PlRel M L1 e i wr) (fun _ i _ => M.length - (intOf i).toNat)
        case atStart => exact ⟨0, Nat.zero_le _, rfl, rfl, hE⟩
        case round =>
          clear hE
          obtain ⟨k, hkl, rfl, rfl, hE⟩ := hrel
          by_cases hlt : k < M.length
          · have hix := str_at M k (by rw [bytes_size]; exact hlt)
            have hxm : M.getD k 0 ∈ M := by
              rw [List.getD_eq_getElem?_getD, List.getElem?_eq_getElem hlt]
              exact List.getElem_mem hlt
            have hxp := Hpl.out _ hxm
            have Hst := SL.hid (cnt_step hlt)
            have hcl : (M.take k).count 10 ≤ 10000000 := by
              have h1 := List.count_le_length (a := (10 : UInt8)) (l := M.take k)
              have h2 := List.length_take_le k M
              omega
            clear hxm
            generalize M.getD k 0 = x at *
            generalize (M.take k).count 10 = cn at *
            cases h10 : ((x.toNat : Int) == 10) with
            | true =>
              have e10 : x = 10 := by
                rw [← UInt8.toNat_inj]
                have : (x.toNat : Int) = 10 := by simpa using h10
                show x.toNat = 10
                omega
              have Hc := SL.hid (Hst.out.1 e10)
              clear e10 hxp
              go_wp2
              go_roundw
              case rel => exact ⟨k + 1, hlt, by rw [Hc.out] <;> first | rfl | simp, by first | rfl | simp, hE⟩
              case measure => simp [intOf] <;> omega
            | false =>
              have e10 : x ≠ 10 := by rintro rfl; exact absurd h10 (by decide)
              have Hc := SL.hid (Hst.out.2 e10)
              have hpp := hxp.resolve_left e10
              have h1 : decide ((x.toNat : Int) < 32) = false := decide_eq_false (by omega)
              have h2 : decide ((126 : Int) < (x.toNat : Int)) = false := decide_eq_false (by omega)
              clear e10 hxp hpp
              go_wp2
              go_roundw
              case rel => exact ⟨k + 1, hlt, by rw [Hc.out], by first | rfl | simp, hE⟩
              case measure => simp [intOf] <;> omega
          · obtain rfl : k = M.length := by omega
            rw [List.take_length, Hct.out]
            clear Hct Hpl hlt hkl
            by_cases hM : M = []
            · subst hM
              go_wp2_with (first | go_skip)
              obtain ⟨LL, hEL, hl⟩ : ∃ LL, Ent LL wr ∧ ∀ w, Ent LL w → Ent l w := ⟨_, hE, hl1⟩
              clear hE
              have hE := hEL
              clear hEL
              have HQs := SL.hid (fun (w : World) (h : Ent LL w) => Quote_any (s := s) (by omega) h)
              have HQt := SL.hid (fun (w : World) (h : Ent LL w) => Quote_any (s := t) (by omega) h)
              have hql := quoteP_len s
              have HU := SL.hid (fun (w : World) (h : Ent LL w) => Unquote_any (s := quoteP s) (by omega) h)
              rw [unq_quote] at HU
              simp only [unqV, Option.getD_some, Option.isSome_some] at HU
              have Hqp := SL.hid (fun (x : UInt8) (h : x ∈ quoteP s) => quoteP_plain h)
              have hqr : (quoteP s == quoteP t) = (s == t) := by
                rw [Bool.eq_iff_iff]
                simp only [beq_iff_eq]
                exact ⟨quote_inj, fun h => by rw [h]⟩
              obtain ⟨q, hq⟩ : ∃ q, quoteP s = q := ⟨_, rfl⟩
              obtain ⟨r, hr⟩ : ∃ r, quoteP t = r := ⟨_, rfl⟩
              rw [hq] at HQs hql HU Hqp hqr
              rw [hr] at HQt hqr
              clear hq hr
              have Hql := SL.hid hql
              have Hqr := SL.hid hqr
              have hql2 : q.length ≤ 3000 := by omega
              clear hql hqr
              refine (HQs.out _ hE).mono ?_
              clear hE HQs
              rintro e w3 ⟨v, rfl, rfl, hE⟩
              go_wp2_with (first
                | go_skip
                | (go_at_call 23; refine (HQt.out _ hE).mono ?_; clear hE HQt; rintro e w4 ⟨v, rfl, rfl, hE⟩)
                | (go_at_call 21; refine (HU.out _ hE).mono ?_; clear hE HU; rintro e w5 ⟨v, rfl, rfl, hE⟩))
              go_loopw [17] (fun i wr => CntRel q.length LL i wr) (fun i _ => q.length - (intOf i).toNat)
              case atStart => exact ⟨0, Nat.zero_le _, rfl, hE⟩
              case round =>
                clear hE
                obtain ⟨k, hkl, rfl, hE⟩ := hrel
                by_cases hlt : k < q.length
                · have hix := str_at q k (by rw [bytes_size]; exact hlt)
                  have hxm : q.getD k 0 ∈ q := by
                    rw [List.getD_eq_getElem?_getD, List.getElem?_eq_getElem hlt]
                    exact List.getElem_mem hlt
                  have hxp := Hqp.out _ hxm
                  clear hxm
                  generalize q.getD k 0 = x at *
                  have h1 : decide ((x.toNat : Int) < 32) = false := decide_eq_false (by omega)
                  have h2 : decide ((126 : Int) < (x.toNat : Int)) = false := decide_eq_false (by omega)
                  clear hxp
                  go_wp2
                  go_roundw
                  case rel => exact ⟨k + 1, hlt, by first | rfl | simp, hE⟩
                  case measure => simp [intOf] <;> omega
                · obtain rfl : k = q.length := by omega
                  have g1 : decide ((s.length : Int) + 2 ≤ (q.length : Int)) = true := decide_eq_true (by have := Hql.out; omega)
                  have g2 : decide ((q.length : Int) ≤ 4 * (s.length : Int) + 2) = true := decide_eq_true (by have := Hql.out; omega)
                  cases hb : (s == t) with
                  | true =>
                    have hqr : (q == r) = true := by rw [Hqr.out, hb]
                    go_wp2_with (first
                      | go_skip
                      | (go_at_call 20; refine (HWk.out _ _ hE).mono ?_; clear hE; rintro e w9 ⟨v, rfl, rfl, hE⟩))
                    go_ret
                    exact ⟨_, rfl, rfl, hl _ hE⟩
                  | false =>
                    have hqr : (q == r) = false := by rw [Hqr.out, hb]
                    go_wp2_with (first
                      | go_skip
                      | (go_at_call 20; refine (HWk.out _ _ hE).mono ?_; clear hE; rintro e w9 ⟨v, rfl, rfl, hE⟩))
                    go_ret
                    exact ⟨_, rfl, rfl, hl _ hE⟩
            · have hM1 : 0 < M.length := List.length_pos_iff.2 hM
              have hM1i : (0 : Int) < (M.length : Int) := by omega
              have hw1 : wrap64 ((M.length : Int) - 1) = ((M.length - 1 : Nat) : Int) := by unfold wrap64; omega
              have hwi : IntKind.i64.wrap ((M.length : Int) - 1) = ((M.length - 1 : Nat) : Int) := by
                simp only [IntKind.wrap, IntKind.bits, IntKind.signed]
                simp
                omega
              have hll : ((M.length - 1 : Nat) : Int) < (M.length : Int) := by omega
              have hixl := str_at M (M.length - 1) (by rw [bytes_size]; omega)
              rw [Hlast.out.resolve_left hM] at hixl
              clear Hlast hM
              go_wp2_with (first | go_skip)
              clear hw1 hwi hll hixl hM1 hM1i
              obtain ⟨LL, hEL, hl⟩ : ∃ LL, Ent LL wr ∧ ∀ w, Ent LL w → Ent l w := ⟨_, hE, hl1⟩
              clear hE
              have hE := hEL
              clear hEL
              have HQs := SL.hid (fun (w : World) (h : Ent LL w) => Quote_any (s := s) (by omega) h)
              have HQt := SL.hid (fun (w : World) (h : Ent LL w) => Quote_any (s := t) (by omega) h)
              have hql := quoteP_len s
              have HU := SL.hid (fun (w : World) (h : Ent LL w) => Unquote_any (s := quoteP s) (by omega) h)
              rw [unq_quote] at HU
              simp only [unqV, Option.getD_some, Option.isSome_some] at HU
              have Hqp := SL.hid (fun (x : UInt8) (h : x ∈ quoteP s) => quoteP_plain h)
              have hqr : (quoteP s == quoteP t) = (s == t) := by
                rw [Bool.eq_iff_iff]
                simp only [beq_iff_eq]
                exact ⟨quote_inj, fun h => by rw [h]⟩
              obtain ⟨q, hq⟩ : ∃ q, quoteP s = q := ⟨_, rfl⟩
              obtain ⟨r, hr⟩ : ∃ r, quoteP t = r := ⟨_, rfl⟩
              rw [hq] at HQs hql HU Hqp hqr
              rw [hr] at HQt hqr
              clear hq hr
              have Hql := SL.hid hql
              have Hqr := SL.hid hqr
              have hql2 : q.length ≤ 3000 := by omega
              clear hql hqr
              refine (HQs.out _ hE).mono ?_
              clear hE HQs
              rintro e w3 ⟨v, rfl, rfl, hE⟩
              go_wp2_with (first
                | go_skip
                | (go_at_call 23; refine (HQt.out _ hE).mono ?_; clear hE HQt; rintro e w4 ⟨v, rfl, rfl, hE⟩)
                | (go_at_call 21; refine (HU.out _ hE).mono ?_; clear hE HU; rintro e w5 ⟨v, rfl, rfl, hE⟩))
              go_loopw [17] (fun i wr => CntRel q.length LL i wr) (fun i _ => q.length - (intOf i).toNat)
              case atStart => exact ⟨0, Nat.zero_le _, rfl, hE⟩
              case round =>
                clear hE
                obtain ⟨k, hkl, rfl, hE⟩ := hrel
                by_cases hlt : k < q.length
                · have hix := str_at q k (by rw [bytes_size]; exact hlt)
                  have hxm : q.getD k 0 ∈ q := by
                    rw [List.getD_eq_getElem?_getD, List.getElem?_eq_getElem hlt]
                    exact List.getElem_mem hlt
                  have hxp := Hqp.out _ hxm
                  clear hxm
                  generalize q.getD k 0 = x at *
                  have h1 : decide ((x.toNat : Int) < 32) = false := decide_eq_false (by omega)
                  have h2 : decide ((126 : Int) < (x.toNat : Int)) = false := decide_eq_false (by omega)
                  clear hxp
                  go_wp2
                  go_roundw
                  case rel => exact ⟨k + 1, hlt, by first | rfl | simp, hE⟩
                  case measure => simp [intOf] <;> omega
                · obtain rfl : k = q.length := by omega
                  have g1 : decide ((s.length : Int) + 2 ≤ (q.length : Int)) = true := decide_eq_true (by have := Hql.out; omega)
                  have g2 : decide ((q.length : Int) ≤ 4 * (s.length : Int) + 2) = true := decide_eq_true (by have := Hql.out; omega)
                  cases hb : (s == t) with
                  | true =>
                    have hqr : (q == r) = true := by rw [Hqr.out, hb]
                    go_wp2_with (first
                      | go_skip
                      | (go_at_call 20; refine (HWk.out _ _ hE).mono ?_; clear hE; rintro e w9 ⟨v, rfl, rfl, hE⟩))
                    go_ret
                    exact ⟨_, rfl, rfl, hl _ hE⟩
                  | false =>
                    have hqr : (q == r) = false := by rw [Hqr.out, hb]
                    go_wp2_with (first
                      | go_skip
                      | (go_at_call 20; refine (HWk.out _ _ hE).mono ?_; clear hE; rintro e w9 ⟨v, rfl, rfl, hE⟩))
                    go_ret
                    exact ⟨_, rfl, rfl, hl _ hE⟩
end Go.Proofs.YtjmllpgmbaoebaaDoor
namespace Go.Proofs.YtjmllpgmbaoebaaDoor
open Go.RowKit Go.SL

def SpRel (p : List UInt8) (l : List HProp) (o fr i : Value) (wr : World) : Prop :=
  ∃ (pre : List (List UInt8)) (f k : Nat) (ao : Option Addr) (c : Nat), o = .slice ao pre.length c ∧ fr = .int .i64 f ∧ i = .int .i64 k ∧ pre.length ≤ k ∧ k ≤ p.length + 1 ∧
    ((f ≤ k ∧ k ≤ p.length ∧ cuts p = pre ++ cuts (p.drop f) ∧ ∀ b ∈ (p.drop f).take (k - f), b ≠ 47) ∨ (k = p.length + 1 ∧ cuts p = pre)) ∧ Ent (rowS ao c pre :: l) wr
set_option maxRecDepth 100000 in
set_option maxHeartbeats 4000000 in
theorem split_any {p : List UInt8} (hp : p.length ≤ 1000000) {l : List HProp} {w : World} (hE : Ent l w) :
    Calls Tryd.prog 19 #[.string ⟨p.toArray⟩] w (Ret fun v w' => ∃ ao c, v = .slice ao (cuts p).length c ∧ Ent (rowS ao c (cuts p) :: l) w') := by
  go_enter Tryd.func19, Tryd.ntmps19
  go_wp2
  go_loopw [3, 4, 5] (fun o fr i wr => SpRel p l o fr i wr) (fun _ _ i _ => p.length + 1 - (intOf i).toNat)
  case atStart => exact ⟨[], 0, 0, none, 0, rfl, rfl, rfl, Nat.le_refl _, Nat.zero_le _, .inl ⟨Nat.le_refl _, Nat.zero_le _, rfl, by simp⟩, hE.nil _ _⟩
  case round =>
    clear hE
    obtain ⟨pre, f, k, ao, c, rfl, rfl, rfl, hpk, hkl, hst, hE⟩ := hrel
    by_cases hlt : k ≤ p.length
    · obtain ⟨hf, _, hc, ha⟩ := hst.resolve_right (by rintro ⟨h, _⟩; omega)
      clear hst
      have hwk : wrap64 ((k : Int) + 1) = ((k + 1 : Nat) : Int) := by unfold wrap64; omega
      have hex : (⟨p.toArray⟩ : ByteArray).extract f k = ⟨((p.drop f).take (k - f)).toArray⟩ := extract_mk p f k
      by_cases hi : k < p.length
      · have hix := str_at p k (by rw [bytes_size]; exact hi)
        have Hnx := SL.hid (slash_next hf hi)
        have Hct := SL.hid (slash_cut hf hi)
        cases h47 : (((p.getD k 0).toNat : Int) == 47) with
        | false =>
          have H1 := SL.hid (show p.getD k 0 ≠ 47 by intro e; rw [e] at h47; simp at h47)
          have Hc := SL.hid hc
          have Ha := SL.hid ha
          clear hc ha hex
          generalize p.getD k 0 = b at *
          go_wp2
          go_roundw
          case rel =>
            refine ⟨pre, f, k + 1, ao, c, rfl, rfl, by first | rfl | simp, by omega, by omega, .inl ⟨by omega, by omega, Hc.out, ?_⟩, hE⟩
            rw [Hnx.out]
            intro d hd
            simp only [List.mem_append, List.mem_singleton] at hd
            rcases hd with hd | rfl
            · exact Ha.out d hd
            · exact H1.out
          case measure => simp [intOf] <;> omega
        | true =>
          have e47 : p.getD k 0 = 47 := by
            have : (p.getD k 0).toNat = 47 := by
              have h : ((p.getD k 0).toNat : Int) = 47 := by simpa using h47
              omega
            rw [← UInt8.toNat_inj, this]; rfl
          have Hcc := SL.hid (show cuts p = (pre ++ [(p.drop f).take (k - f)]) ++ cuts (p.drop (k + 1)) by rw [hc, Hct.out e47 ha]; simp)
          clear hc ha Hct Hnx
          generalize (p.drop f).take (k - f) = x at *
          generalize p.getD k 0 = b at *
          go_wp2_with (first
            | go_skip
            | ((with_reducible (show Go.wpList _ _ _ (Go.Oper.mk _ (.call { callee := .builtin .append, args := _, argTypes := _ }) _ _ _ _ :: _) _ _)); have hE9 := hE.alloc (.cells #[.string ⟨x.toArray⟩] 9); refine wpl_appendG hE9 1 rfl rfl rfl rfl rfl Tryd.underlying23 info_str (by decide) (m := 1) (news := [strv x]) (reads_pt hE9 0 rfl (off := 0) (fun j u hu => by rw [Nat.zero_add, List.getElem?_toArray]; exact hu)) rfl (by simp [strv, Value.oneCell']) (by omega) (by omega) ?_; clear hE9 hE; intro ao' c' w6 hE10; simp only [List.set_cons_zero, List.set_cons_succ] at hE10))
          go_roundw
          case measure => simp [intOf] <;> omega
          case rel =>
            have hF := hE10.tail
            have e1 : (pre ++ [x]).length = pre.length + 1 := by simp
            have e2 : (pre ++ [x]).map strv = pre.map strv ++ [strv x] := by simp
            refine ⟨pre ++ [x], k + 1, k + 1, ao', c', by rw [e1], by first | rfl | simp, by first | rfl | simp, by rw [e1]; omega, by omega, .inl ⟨Nat.le_refl _, by omega, Hcc.out, by simp⟩, by simp only [rowS, e1, e2]; exact hF⟩
      · obtain rfl : k = p.length := by omega
        obtain ⟨ex, ec⟩ := slash_last hf ha
        have Hcc := SL.hid (show cuts p = pre ++ [(p.drop f).take (p.length - f)] by rw [hc, ec, ex])
        clear hc ha ex ec
        generalize (p.drop f).take (p.length - f) = x at *
        go_wp2_with (first
          | go_skip
          | ((with_reducible (show Go.wpList _ _ _ (Go.Oper.mk _ (.call { callee := .builtin .append, args := _, argTypes := _ }) _ _ _ _ :: _) _ _)); have hE9 := hE.alloc (.cells #[.string ⟨x.toArray⟩] 9); refine wpl_appendG hE9 1 rfl rfl rfl rfl rfl Tryd.underlying23 info_str (by decide) (m := 1) (news := [strv x]) (reads_pt hE9 0 rfl (off := 0) (fun j u hu => by rw [Nat.zero_add, List.getElem?_toArray]; exact hu)) rfl (by simp [strv, Value.oneCell']) (by omega) (by omega) ?_; clear hE9 hE; intro ao' c' w6 hE10; simp only [List.set_cons_zero, List.set_cons_succ] at hE10))
        go_roundw
        case measure => simp [intOf] <;> omega
        case rel =>
          have hF := hE10.tail
          have e1 : (pre ++ [x]).length = pre.length + 1 := by simp
          have e2 : (pre ++ [x]).map strv = pre.map strv ++ [strv x] := by simp
          refine ⟨pre ++ [x], p.length + 1, p.length + 1, ao', c', by rw [e1], by first | rfl | simp, by first | rfl | simp, by rw [e1]; omega, by omega, .inr ⟨by omega, by rw [Hcc.out]⟩, by simp only [rowS, e1, e2]; exact hF⟩
    · obtain ⟨_, hc⟩ := hst.resolve_left (by rintro ⟨_, h, _⟩; omega)
      clear hst
      subst hc
      go_wp2
      go_ret
      exact ⟨_, rfl, ao, c, rfl, hE⟩
end Go.Proofs.YtjmllpgmbaoebaaDoor
namespace Go.Proofs.YtjmllpgmbaoebaaDoor
open Go.RowKit Go.SL

/-- what a good tree holds at an entry's path -/
theorem good_at {t : Tr} {es : List En} (h : Good t es) {x : En} (hx : x ∈ es) : cuts x.path = splitL x.path ∧ (splitL x.path).length ≤ 6 ∧ ∃ p, atT 11 10 (splitL x.path) t = (0, p) ∧ p.dir = x.dir ∧ p.data = x.data ∧ Rising p.names ∧ p.kids.length ≤ 6 := by
  obtain ⟨⟨r1, r2, r3⟩, hw, _⟩ := h
  obtain ⟨hs, hne⟩ := r1 x hx
  obtain ⟨ha, h6, hj, he⟩ := split_names hs
  have hcu : cuts x.path = splitL x.path := by
    unfold splitE at hs
    unfold splitL
    rw [if_neg hne] at hs ⊢
    by_cases h1 : (cuts x.path).all isName = true
    · rw [if_pos h1] at hs ⊢
      by_cases h2 : (cuts x.path).length ≤ 6
      · rw [if_pos h2]
      · rw [if_neg h2] at hs; cases hs
    · rw [if_neg h1] at hs; cases hs
  refine ⟨hcu, h6, ?_⟩
  have hl := (r3 (splitL x.path) (fun h0 => hne (he.1 h0)) x.dir x.data).2 ⟨x, hx, rfl, rfl, rfl⟩
  rw [Tr.look?] at hl
  cases hg : Tr.get? (splitL x.path) t with
  | none => rw [hg] at hl; cases hl
  | some p =>
    rw [hg] at hl
    have hpd : p.dir = x.dir ∧ p.data = x.data := by simpa using hl
    have hat := atT_get (kE := 11) (nE := 10) (by decide) (by decide) (q := splitL x.path) hw
    obtain ⟨d, hwp⟩ := wf_get hw hg
    refine ⟨p, Prod.ext (hat.1.2 (by rw [hg]; rfl)) (hat.2 p hg), hpd.1, hpd.2, Tr.wf_rising hwp, (Tr.wf_size hwp).2⟩
end Go.Proofs.YtjmllpgmbaoebaaDoor
namespace Go.Proofs.YtjmllpgmbaoebaaDoor
open Go.RowKit Go.SL

def InRel (n : Nat) (l : List HProp) (i : Value) (wr : World) : Prop := ∃ j : Nat, 1 ≤ j ∧ j ≤ n + 1 ∧ i = .int .i64 j ∧ Ent l wr
set_option maxRecDepth 100000 in
set_option maxHeartbeats 8000000 in
attribute [-go_sem] Instr.loadAt in
theorem FoldBack_any {es : List En} {ao : Option Addr} {c : Nat} {l : List HProp} {w : World} (hk : Knows l (reads (.slice ao es.length c) es.length (es.flatMap enC))) (hE : Ent l w) :
    Calls Tryd.prog 4 #[.slice ao es.length c] w (Ret fun v w' => v = .bool true ∧ Ent l w') := by
  have HGr := SL.hid (show ∀ w, Ent l w → Calls Tryd.prog 8 #[.slice ao es.length c] w (Ret fun v w' => v = .bool (great es) ∧ Ent l w') from fun w h => Great_any hk h)
  have HWk := SL.hid (fun (L : List HProp) (w : World) (h : Ent L w) => wakes20_any h)
  cases hgr : great es with
  | true =>
    rw [hgr] at HGr
    clear hgr
    go_enter Tryd.func4, Tryd.ntmps4
    go_wp2_with (first
      | go_skip
      | (go_at_call 8; refine (HGr.out _ hE).mono ?_; clear hE; rintro e w2 ⟨v, rfl, rfl, hE⟩)
      | (go_at_call 9; refine (HWk.out _ _ hE).mono ?_; clear hE; rintro e w3 ⟨v, rfl, rfl, hE⟩))
    go_ret
    exact ⟨_, rfl, rfl, hE⟩
  | false =>
    rw [hgr] at HGr
    obtain ⟨hle, hbd⟩ := great_not.1 hgr
    clear hgr
    cases he : ((buildT es).1 == 0) with
    | false =>
      have HBu := SL.hid (show ∀ w, Ent l w → Calls Tryd.prog 10 #[.slice ao es.length c] w (Ret fun v w' => ∃ m a c, v = .tuple #[.agg #[.bool false, .string ⟨#[]⟩, .slice a 0 c], .int .i64 (buildT es).1] ∧ Ent (m ++ l) w') from fun w h => by
        refine (Build_any (by omega) (fun x hx => ⟨by have := (hbd x hx).1; omega, by have := (hbd x hx).2; omega⟩) hk h).mono ?_
        rintro e w' ⟨v, rfl, m, kv, h, hE, hK⟩
        rw [buildT_zero (by simpa using he)] at h hK
        obtain ⟨a, c', rfl⟩ := hK.slice
        exact ⟨_, rfl, m, a, c', h, hE⟩)
      have hne : ((buildT es).1 != 0) = true := by rw [bne, he]; rfl
      clear he hbd hle hk
      generalize (buildT es).1 = er at *
      go_enter Tryd.func4, Tryd.ntmps4
      go_wp2_with (first
        | go_skip
        | (go_at_call 8; refine (HGr.out _ hE).mono ?_; clear hE; rintro e w2 ⟨v, rfl, rfl, hE⟩)
        | (go_at_call 10; refine (HBu.out _ hE).mono ?_; clear hE; rintro e w3 ⟨v, rfl, m, a, c', rfl, hE⟩)
        | (go_at_call 9; refine (HWk.out _ _ hE).mono ?_; clear hE; rintro e w3 ⟨v, rfl, rfl, hE⟩)
        | ((with_reducible (show Go.wpList _ _ _ (Go.Oper.mk _ (.alloc _) _ _ _ _ :: _) _ _)); refine wpl_alloc hE rfl rfl (by simp [go_sem]; rfl) ?_; clear hE; intro b3 w hE; simp only [Act.eval, Act.put, List.setIfInBounds_toArray, List.set_cons_zero, List.set_cons_succ, getD_lit, List.getD_cons_succ, List.getD_cons_zero, Value.cells] at hE)
        | ((with_reducible (show Go.wpList _ _ _ (Go.Oper.mk _ (.store 28 _ _) _ _ _ _ :: _) _ _)); (first | (refine wpl_storeW hE 0 rfl rfl rfl (xs := [.bool false, .string ⟨#[]⟩, .slice a 0 c']) rfl rfl Tryd.sizeOf28 rfl (by simp [Value.oneCell']) rfl ?_) | (refine wpl_storeW hE 1 rfl rfl rfl (xs := [.bool false, .string ⟨#[]⟩, .slice a 0 c']) rfl rfl Tryd.sizeOf28 rfl (by simp [Value.oneCell']) rfl ?_) | (refine wpl_storeW hE 2 rfl rfl rfl (xs := [.bool false, .string ⟨#[]⟩, .slice a 0 c']) rfl rfl Tryd.sizeOf28 rfl (by simp [Value.oneCell']) rfl ?_) | (refine wpl_storeW hE 3 rfl rfl rfl (xs := [.bool false, .string ⟨#[]⟩, .slice a 0 c']) rfl rfl Tryd.sizeOf28 rfl (by simp [Value.oneCell']) rfl ?_) | (refine wpl_storeW hE 4 rfl rfl rfl (xs := [.bool false, .string ⟨#[]⟩, .slice a 0 c']) rfl rfl Tryd.sizeOf28 rfl (by simp [Value.oneCell']) rfl ?_) | (refine wpl_storeW hE 5 rfl rfl rfl (xs := [.bool false, .string ⟨#[]⟩, .slice a 0 c']) rfl rfl Tryd.sizeOf28 rfl (by simp [Value.oneCell']) rfl ?_) | (refine wpl_storeW hE 6 rfl rfl rfl (xs := [.bool false, .string ⟨#[]⟩, .slice a 0 c']) rfl rfl Tryd.sizeOf28 rfl (by simp [Value.oneCell']) rfl ?_) | (refine wpl_storeW hE 7 rfl rfl rfl (xs := [.bool false, .string ⟨#[]⟩, .slice a 0 c']) rfl rfl Tryd.sizeOf28 rfl (by simp [Value.oneCell']) rfl ?_)); clear hE; intro w hE; simp only [List.set_cons_zero, List.set_cons_succ] at hE)
        | ((with_reducible (show Go.wpList _ _ _ (Go.Oper.mk _ (.load _ _) _ _ _ _ :: _) _ _)); (first | (refine wpl_load1 hE 0 rfl rfl rfl rfl (by simp [go_sem]) rfl ?_) | (refine wpl_load1 hE 1 rfl rfl rfl rfl (by simp [go_sem]) rfl ?_) | (refine wpl_load1 hE 2 rfl rfl rfl rfl (by simp [go_sem]) rfl ?_) | (refine wpl_load1 hE 3 rfl rfl rfl rfl (by simp [go_sem]) rfl ?_) | (refine wpl_load1 hE 4 rfl rfl rfl rfl (by simp [go_sem]) rfl ?_) | (refine wpl_load1 hE 5 rfl rfl rfl rfl (by simp [go_sem]) rfl ?_) | (refine wpl_load1 hE 6 rfl rfl rfl rfl (by simp [go_sem]) rfl ?_) | (refine wpl_load1 hE 7 rfl rfl rfl rfl (by simp [go_sem]) rfl ?_))))
      go_ret
      exact ⟨_, rfl, rfl, hE.tail.drop⟩
    | true =>
      have he0 : (buildT es).1 = 0 := by simpa using he
      have hG := ((build_same es).2 he0).1
      rw [((build_same es).2 he0).2] at hG
      have h64 : es.length ≤ 64 := by
        rcases Nat.lt_or_ge 64 es.length with h | h
        · rw [buildT, if_pos h] at he0; cases he0
        · exact h
      have HBu := SL.hid (show ∀ w, Ent l w → Calls Tryd.prog 10 #[.slice ao es.length c] w (Ret fun v w' => ∃ m a c, v = .tuple #[.agg #[.bool (buildT es).2.dir, .string ⟨(buildT es).2.data.toArray⟩, .slice a (buildT es).2.kids.length c], .int .i64 0] ∧ Ent (m ++ l) w' ∧ KidsAt (m ++ l) (.slice a (buildT es).2.kids.length c) (buildT es).2.kids) from fun w h => by
        refine (Build_any (by omega) (fun x hx => ⟨by have := (hbd x hx).1; omega, by have := (hbd x hx).2; omega⟩) hk h).mono ?_
        rintro e w' ⟨v, rfl, m, kv, h, hE, hK⟩
        rw [he0] at h
        obtain ⟨a, c', rfl⟩ := hK.slice
        exact ⟨_, rfl, m, a, c', h, hE, hK⟩)
      clear he he0
      generalize (buildT es).2 = t at *
      have hw := hG.2.1
      have hall := all_perm hG
      have hba := build_entries hG h64
      have hbd2 : ∀ x ∈ entT 6 [] t, x.path.length ≤ 1000000 ∧ x.data.length ≤ 1000000 := fun x hx => by
        have := hbd x (hall.mem_iff.1 hx)
        exact ⟨by omega, by omega⟩
      have hat := SL.hid (fun (x : En) (hx : x ∈ es) => good_at hG hx)
      have HEn := SL.hid (fun (a : Option Addr) (c : Nat) (L : List HProp) (w : World) (hk : KidsAt L (.slice a t.kids.length c) t.kids) (hE : Ent L w) =>
        show Calls Tryd.prog 13 #[.agg #[.bool t.dir, .string ⟨t.data.toArray⟩, .slice a t.kids.length c]] w (Ret fun v w' => ∃ a' c' m, v = .slice a' (entT 6 [] t).length c' ∧ Ent (rowEn a' c' (entT 6 [] t) :: (m ++ L)) w') from
          Entries_any hw (by decide) hk (by rw [hall.length_eq]; omega) hE)
      have HB2 := SL.hid (fun (a : Option Addr) (c : Nat) (L : List HProp) (w : World) (hE : Ent (rowEn a c (entT 6 [] t) :: L) w) =>
        show Calls Tryd.prog 10 #[.slice a (entT 6 [] t).length c] w (Ret fun v w' => ∃ m a' c', v = .tuple #[.agg #[.bool t.dir, .string ⟨t.data.toArray⟩, .slice a' t.kids.length c'], .int .i64 0] ∧ Ent (m ++ (rowEn a c (entT 6 [] t) :: L)) w' ∧ KidsAt (m ++ (rowEn a c (entT 6 [] t) :: L)) (.slice a' t.kids.length c') t.kids) from by
          refine (Build_any (by rw [hall.length_eq]; omega) hbd2 (fun w h => reads_row h 0 rfl) hE).mono ?_
          rintro e w' ⟨v, rfl, m, kv, h, hE, hK⟩
          rw [hba] at h hK
          obtain ⟨a', c', rfl⟩ := hK.slice
          exact ⟨_, rfl, m, a', c', h, hE, hK⟩)
      have HRo := SL.hid (fun (a : Option Addr) (c : Nat) (a' : Option Addr) (c' : Nat) (m1 m2 : List HProp) (b : HProp) (L : List HProp) (w : World) (hE : Ent (rowEn a c (entT 6 [] t) :: (m1 ++ (b :: (m2 ++ (rowEn a' c' (entT 6 [] t) :: L))))) w) =>
        Row_same (es := entT 6 [] t) (by rw [hall.length_eq]; omega) (ao := a) (bo := a') (c := c) (d := c') (fun w h => reads_row h 0 rfl) (fun w h => reads_row h.tail.drop.tail.drop 0 rfl) hE)
      have hneq : (((entT 6 [] t).length : Int) != (es.length : Int)) = false := by rw [hall.length_eq]; simp
      have HAt := SL.hid (fun (x : En) (hx : x ∈ es) (a : Option Addr) (c : Nat) (lk : List HProp) (hK : KidsAt lk (.slice a t.kids.length c) t.kids) (an : Option Addr) (cn : Nat) (L : List HProp) (w : World) (hs : lk <:+ L) (hE : Ent (rowS an cn (cuts x.path) :: L) w) =>
        show Calls Tryd.prog 15 #[.agg #[.bool t.dir, .string ⟨t.data.toArray⟩, .slice a t.kids.length c], .slice an (cuts x.path).length cn] w (Ret fun v w' => ∃ (p : Tr) (a' : Option Addr) (c' : Nat), v = .tuple #[.agg #[.bool x.dir, .string ⟨x.data.toArray⟩, .slice a' p.kids.length c'], .int .i64 0] ∧ Rising p.names ∧ p.kids.length ≤ 6 ∧ Ent (rowS an cn (cuts x.path) :: L) w' ∧ KidsAt lk (.slice a' p.kids.length c') p.kids) from by
          obtain ⟨h1, h2, p, h3, h4, h5, h6, h7⟩ := hat.out x hx
          rw [h1] at hE ⊢
          refine (At_in (l := rowS an cn (splitL x.path) :: L) hw (fun W h => h.suf (hs.trans (List.suffix_cons _ _))) hK (by omega) (fun w h => reads_row h 0 rfl) hE).mono ?_
          rintro e w' ⟨v, rfl, kv', h, hE, hK⟩
          rw [h3] at h hK
          obtain ⟨a', c', rfl⟩ := hK.slice
          refine ⟨_, rfl, p, a', c', ?_, h6, h7, hE, hK⟩
          rw [← h4, ← h5]
          exact h)
      have Hbd := SL.hid hbd
      clear hba hall hbd2 hG hat hbd hw
      generalize entT 6 [] t = all at *
      have Tok := SL.hid True.intro
      go_enter Tryd.func4, Tryd.ntmps4
      go_wp2_with (first
        | go_skip
        | (go_at_call 8; refine (HGr.out _ hE).mono ?_; clear hE; rintro e w2 ⟨v, rfl, rfl, hE⟩)
        | (go_at_call 10; refine (HBu.out _ hE).mono ?_; clear hE HBu; rintro e w3 ⟨v, rfl, m1, a1, c1, rfl, hE, hKA⟩)
        | (go_at_call 10; refine (HB2.out _ _ _ _ hE).mono ?_; clear hE HB2; rintro e w3 ⟨v, rfl, m3, a3, c3, rfl, hE, hKB⟩)
        | (go_at_call 13; refine (HEn.out _ _ _ _ (hKB.suf (List.suffix_cons _ _)) hE).mono ?_; clear hE; rintro e w3 ⟨v, rfl, a4, c4, m4, rfl, hE⟩)
        | (go_at_call 13; refine (HEn.out _ _ _ _ (hKA.suf (List.suffix_cons _ _)) hE).mono ?_; clear hE; rintro e w3 ⟨v, rfl, a2, c2, m2, rfl, hE⟩)
        | (go_at_call 12; refine (HRo.out _ _ _ _ _ _ _ _ _ hE).mono ?_; clear hE; rintro e w3 ⟨v, rfl, rfl, hE⟩)
        | ((with_reducible (show Go.wpList _ _ _ (Go.Oper.mk _ (.store 28 (.tmp 3) _) _ _ _ _ :: _) _ _)); refine wpl_storeW hE 0 rfl rfl rfl (xs := [.bool t.dir, .string ⟨t.data.toArray⟩, .slice a1 t.kids.length c1]) rfl rfl Tryd.sizeOf28 rfl (by simp [Value.oneCell']) rfl ?_; clear hE; intro w hE; simp only [List.set_cons_zero] at hE)
        | ((with_reducible (show Go.wpList _ _ _ (Go.Oper.mk _ (.store 28 _ _) _ _ _ _ :: _) _ _)); refine wpl_storeW hE 0 rfl rfl rfl (xs := [.bool t.dir, .string ⟨t.data.toArray⟩, .slice a3 t.kids.length c3]) rfl rfl Tryd.sizeOf28 rfl (by simp [Value.oneCell']) rfl ?_; clear hE; intro w hE; simp only [List.set_cons_zero] at hE)
        | ((with_reducible (show Go.wpList _ _ _ (Go.Oper.mk _ (.alloc 28) _ _ _ _ :: _) _ _)); clear Tok; refine wpl_alloc hE rfl rfl (by simp [go_sem]; rfl) ?_; clear hE; intro b3 w hE; simp only [Act.eval, Act.put, List.setIfInBounds_toArray, List.set_cons_zero, List.set_cons_succ, getD_lit, List.getD_cons_succ, List.getD_cons_zero, Value.cells] at hE)
        | ((with_reducible (show Go.wpList _ _ _ (Go.Oper.mk _ (.alloc 28) _ _ _ _ :: _) _ _)); refine wpl_alloc hE rfl rfl (by simp [go_sem]; rfl) ?_; clear hE; intro b6 w hE; simp only [Act.eval, Act.put, List.setIfInBounds_toArray, List.set_cons_zero, List.set_cons_succ, getD_lit, List.getD_cons_succ, List.getD_cons_zero, Value.cells] at hE)
        | ((with_reducible (show Go.wpList _ _ _ (Go.Oper.mk _ (.load 28 _) _ _ _ _ :: _) _ _)); (first | (refine wpl_loadW hE 0 rfl rfl rfl rfl Tryd.isAgg28 Tryd.sizeOf28 rfl ?_) | (refine wpl_loadW hE 1 rfl rfl rfl rfl Tryd.isAgg28 Tryd.sizeOf28 rfl ?_) | (refine wpl_loadW hE 2 rfl rfl rfl rfl Tryd.isAgg28 Tryd.sizeOf28 rfl ?_) | (refine wpl_loadW hE 3 rfl rfl rfl rfl Tryd.isAgg28 Tryd.sizeOf28 rfl ?_) | (refine wpl_loadW hE 4 rfl rfl rfl rfl Tryd.isAgg28 Tryd.sizeOf28 rfl ?_) | (refine wpl_loadW hE 5 rfl rfl rfl rfl Tryd.isAgg28 Tryd.sizeOf28 rfl ?_) | (refine wpl_loadW hE 6 rfl rfl rfl rfl Tryd.isAgg28 Tryd.sizeOf28 rfl ?_) | (refine wpl_loadW hE 7 rfl rfl rfl rfl Tryd.isAgg28 Tryd.sizeOf28 rfl ?_))))
      replace hE := hE.tail.drop.tail.drop.tail.drop
      clear HEn HRo HGr hneq hKB
      go_loopw [8] (fun i wr => CntRel es.length (pt b3 (.cells #[.bool t.dir, .string ⟨t.data.toArray⟩, .slice a1 t.kids.length c1] 28) :: (m1 ++ l)) i wr) (fun i _ => es.length - (intOf i).toNat)
      case atStart => exact ⟨0, Nat.zero_le _, rfl, hE⟩
      case round =>
        clear hE
        obtain ⟨k, hkn, rfl, hE⟩ := hrel
        by_cases hlt : k < es.length
        · obtain ⟨b, off, rfl, hz⟩ := en_at (hk _ hE.tail.drop) hlt
          clear hz
          have f0 := SL.hid (show ∀ w, Ent (m1 ++ l) w → _ from fun w h => load_en (hk w h.drop) hlt)
          have HS := SL.hid (fun (L : List HProp) (w : World) (h : Ent L w) => split_any (p := es[k].path) (by have := (Hbd.out _ (List.getElem_mem hlt)).1; omega) h)
          have HA := SL.hid (HAt.out es[k] (List.getElem_mem hlt) a1 c1 _ hKA)
          generalize es[k] = x at *
          obtain ⟨xp, xd, xb⟩ := x
          simp only at f0 HS HA
          generalize cuts xp = cs at *
          go_wp2
          refine wp_region_held_drew (S := (fun w' => ((Instr.loadAt 28 (.pointer (some ⟨b3, 0, none⟩))).run Tryd.prog w' = .ok (.agg [.bool t.dir, .string ⟨t.data.toArray⟩, .slice a1 t.kids.length c1].toArray) w') ∧ ((Instr.loadAt 9 (.pointer (some ⟨b, off + k * 3, none⟩))).run Tryd.prog w' = .ok (.string ⟨xp.toArray⟩) w'))) (by kernel_rfl) ⟨(atWm hE.drew (by repeat (first | exact List.Mem.head _ | refine List.Mem.tail _ ?_)) Tryd.isAgg28 Tryd.sizeOf28 rfl), ((f0.out _ (hE.drew.suf (by repeat (first | exact List.suffix_refl _ | refine List.IsSuffix.trans ?_ (List.suffix_cons _ _))))).2.1)⟩ (fun hS => ?_)
          refine takeW 0 ⟨some 59, .load 28 (.tmp 3), 28, "law.go:111", #[], none⟩ ?_ (.inl ⟨by rfl, ?_⟩) hS ?_
          rotate_left
          · (intro w hSw; (try dsimp only at hSw); go_simp; (try with_reducible rfl))
          try simp only [Act.put, sb, s0, sz]
          refine takeW 1 ⟨some 60, .move (.tmp 0), 22, "law.go:111", #[], none⟩ ?_ (.inl ⟨by rfl, ?_⟩) hS ?_
          rotate_left
          · (intro w hSw; (try dsimp only at hSw); go_simp; (try with_reducible rfl))
          try simp only [Act.put, sb, s0, sz]
          refine takeW 2 ⟨some 61, .move (.tmp 8), 3, "law.go:111", #[], none⟩ ?_ (.inl ⟨by rfl, ?_⟩) hS ?_
          rotate_left
          · (intro w hSw; (try dsimp only at hSw); go_simp; (try with_reducible rfl))
          try simp only [Act.put, sb, s0, sz]
          refine takeW 3 ⟨some 62, .indexAddr 22 (.tmp 60) (.tmp 61), 0, "law.go:111", #[⟨1, .data⟩, ⟨2, .data⟩], none⟩ ?_ (.inl ⟨by rfl, ?_⟩) hS ?_
          rotate_left
          · (intro w hSw; (try dsimp only at hSw); go_simp; (try with_reducible rfl))
          try simp only [Act.put, sb, s0, sz]
          refine takeW 4 ⟨some 63, .fieldAddr 41 (.tmp 62) 0, 0, "law.go:111", #[⟨3, .data⟩], none⟩ ?_ (.inl ⟨by rfl, ?_⟩) hS ?_
          rotate_left
          · (intro w hSw; (try dsimp only at hSw); go_simp; (try with_reducible rfl))
          try simp only [Act.put, sb, s0, sz]
          refine takeW 5 ⟨some 64, .load 9 (.tmp 63), 9, "law.go:111", #[⟨4, .data⟩], none⟩ ?_ (.inl ⟨by rfl, ?_⟩) hS ?_
          rotate_left
          · (intro w hSw; (try dsimp only at hSw); go_simp; (try with_reducible rfl))
          try simp only [Act.put, sb, s0, sz]
          refine wpAnyH_ready (rs := [6, 11]) (by kernel_rfl) (by simp) ?_
          refine (AllReadyH.cons (o := { dst := some 65, op := Go.Op.call { callee := Go.Callee.value (Go.Operand.func 19), args := #[Go.Operand.tmp 64], argTypes := #[9] }, type := 23, pos := "law.go:111", after := #[{ on := 5, ground := Go.Ground.data }], guard := none }) rfl (fun K hK => ?_) (AllReadyH.cons (o := { dst := some 9, op := Go.Op.alloc 28, type := 0, pos := "law.go:111", after := #[], guard := none }) rfl (fun K hK => ?_) AllReadyH.nil))
          focus
            (go_simp; (first | have H := HS.out _ _ hAl | have H := HS.out _ _ hE.drew); refine H.mono ?_; clear H; rintro e w3 ⟨v, rfl, an, cn, rfl, hSp⟩)
            refine hK.out _ _ ⟨(atWm hSp (by repeat (first | exact List.Mem.head _ | refine List.Mem.tail _ ?_)) Tryd.isAgg28 Tryd.sizeOf28 rfl), ((f0.out _ (hSp.suf (by repeat (first | exact List.suffix_refl _ | refine List.IsSuffix.trans ?_ (List.suffix_cons _ _))))).2.1)⟩ (fun hS => ?_)
            clear hK K
            try simp only [Act.put, sb, s0, sz]
            refine wpAnyH_ready (rs := [7, 11]) (by kernel_rfl) (by simp) ?_
            refine (AllReadyH.cons (o := { dst := some 66, op := Go.Op.call { callee := Go.Callee.value (Go.Operand.func 15), args := #[Go.Operand.tmp 59, Go.Operand.tmp 65], argTypes := #[28, 23] }, type := 30, pos := "law.go:111", after := #[{ on := 0, ground := Go.Ground.data }, { on := 6, ground := Go.Ground.data }, { on := 6, ground := Go.Ground.chain }], guard := none }) rfl (fun K hK => ?_) (AllReadyH.cons (o := { dst := some 9, op := Go.Op.alloc 28, type := 0, pos := "law.go:111", after := #[], guard := none }) rfl (fun K hK => ?_) AllReadyH.nil))
            focus
              (go_simp; (first | have H := HA.out _ _ _ _ (by repeat (first | exact List.suffix_refl _ | refine List.IsSuffix.trans ?_ (List.suffix_cons _ _))) (hAl.front 1 rfl) | have H := HA.out _ _ _ _ (by repeat (first | exact List.suffix_refl _ | refine List.IsSuffix.trans ?_ (List.suffix_cons _ _))) hSp); refine H.mono ?_; clear H; rintro e w4 ⟨v, rfl, p, ap, cp, rfl, hri, hk6, hAt, hKp⟩)
              refine hK.out _ _ ⟨(atWm hAt (by repeat (first | exact List.Mem.head _ | refine List.Mem.tail _ ?_)) Tryd.isAgg28 Tryd.sizeOf28 rfl), ((f0.out _ (hAt.suf (by repeat (first | exact List.suffix_refl _ | refine List.IsSuffix.trans ?_ (List.suffix_cons _ _))))).2.1)⟩ (fun hS => ?_)
              clear hK K
              try simp only [Act.put, sb, s0, sz]
              refine takeW 8 ⟨some 58, .move (.tmp 66), 30, "law.go:111", #[⟨7, .data⟩], none⟩ ?_ (.inl ⟨by rfl, ?_⟩) hS ?_
              rotate_left
              · (intro w hSw; (try dsimp only at hSw); go_simp; (try with_reducible rfl))
              try simp only [Act.put, sb, s0, sz]
              refine takeW 9 ⟨some 67, .extract (.tmp 58) 0, 28, "law.go:111", #[⟨8, .data⟩], none⟩ ?_ (.inl ⟨by rfl, ?_⟩) hS ?_
              rotate_left
              · (intro w hSw; (try dsimp only at hSw); go_simp; (try with_reducible rfl))
              try simp only [Act.put, sb, s0, sz]
              refine takeW 10 ⟨some 68, .extract (.tmp 58) 1, 29, "law.go:111", #[⟨8, .data⟩, { on := 12, ground := Go.Ground.gcOnly Go.Departure.lateStores }], none⟩ ?_ (.inl ⟨by rfl, ?_⟩) hS ?_
              rotate_left
              · (intro w hSw; (try dsimp only at hSw); go_simp; (try with_reducible rfl))
              try simp only [Act.put, sb, s0, sz]
              refine wpAnyH_ready (rs := [11]) (by kernel_rfl) (by simp) ?_
              refine (AllReadyH.cons (o := { dst := some 9, op := Go.Op.alloc 28, type := 0, pos := "law.go:111", after := #[], guard := none }) rfl (fun K hK => ?_) AllReadyH.nil)
              (go_simp; (first | have hAl := hAt.alloc (.cells #[.bool false, .string ⟨#[]⟩, .slice none 0 0] 28) | have hAl := hSp.alloc (.cells #[.bool false, .string ⟨#[]⟩, .slice none 0 0] 28) | have hAl := hE.drew.alloc (.cells #[.bool false, .string ⟨#[]⟩, .slice none 0 0] 28)))
              refine hK.out _ _ ⟨(atWm hAl (by repeat (first | exact List.Mem.head _ | refine List.Mem.tail _ ?_)) Tryd.isAgg28 Tryd.sizeOf28 rfl), ((f0.out _ (hAl.suf (by repeat (first | exact List.suffix_refl _ | refine List.IsSuffix.trans ?_ (List.suffix_cons _ _))))).2.1)⟩ (fun hS => ?_)
              clear hK K
              try simp only [Act.put, sb, s0, sz]
              refine wpAnyH_ready (rs := [12]) (by kernel_rfl) (by simp) ?_
              refine (AllReadyH.cons (o := { dst := none, op := Go.Op.store 28 (Go.Operand.tmp 9) (Go.Operand.tmp 67), type := 0, pos := "law.go:111", after := #[{ on := 11, ground := Go.Ground.data }, { on := 9, ground := Go.Ground.data }, { on := 7, ground := Go.Ground.chain }, { on := 0, ground := Go.Ground.phase }, { on := 1, ground := Go.Ground.phase }, { on := 2, ground := Go.Ground.phase }, { on := 3, ground := Go.Ground.phase }, { on := 4, ground := Go.Ground.phase }, { on := 5, ground := Go.Ground.phase }, { on := 6, ground := Go.Ground.phase }, { on := 7, ground := Go.Ground.phase }, { on := 8, ground := Go.Ground.phase }, { on := 9, ground := Go.Ground.phase }, { on := 10, ground := Go.Ground.textOnly Go.Departure.lateStores }, { on := 11, ground := Go.Ground.phase }], guard := none }) rfl (fun K hK => ?_) AllReadyH.nil)
              ((first | refine step_storeW hAl 0 rfl (by rfl) (by rfl) (by rfl) (xs := [.bool xd, .string ⟨xb.toArray⟩, .slice ap p.kids.length cp]) (by rfl) Tryd.sizeOf28 rfl (by simp [Value.oneCell']) rfl ?_ | refine step_storeW hAt 1 rfl (by rfl) (by rfl) (by rfl) (xs := [.bool xd, .string ⟨xb.toArray⟩, .slice ap p.kids.length cp]) (by rfl) Tryd.sizeOf28 rfl (by simp [Value.oneCell']) rfl ?_); intro w7 hEs; simp only [List.set_cons_zero, List.set_cons_succ] at hEs)
              refine hK.out _ _ ⟨(atWm hEs (by repeat (first | exact List.Mem.head _ | refine List.Mem.tail _ ?_)) Tryd.isAgg28 Tryd.sizeOf28 rfl), ((f0.out _ (hEs.suf (by repeat (first | exact List.suffix_refl _ | refine List.IsSuffix.trans ?_ (List.suffix_cons _ _))))).2.1)⟩ (fun hS => ?_)
              clear hK K
              try simp only [Act.put, sb, s0, sz]
              refine takeW 13 ⟨some 10, .assign (.tmp 68), 29, "law.go:111", #[⟨10, .data⟩, ⟨12, .chain⟩, ⟨0, .phase⟩, ⟨1, .phase⟩, ⟨2, .phase⟩, ⟨3, .phase⟩, ⟨4, .phase⟩, ⟨5, .phase⟩, ⟨6, .phase⟩, ⟨7, .phase⟩, ⟨8, .phase⟩, ⟨9, .phase⟩, ⟨10, .phase⟩, ⟨11, .phase⟩, ⟨12, .phase⟩], none⟩ ?_ (.inl ⟨by rfl, ?_⟩) hS ?_
              rotate_left
              · (intro w hSw; (try dsimp only at hSw); go_simp; (try with_reducible rfl))
              try simp only [Act.put, sb, s0, sz]
              refine wpAnyH_done (by kernel_rfl) ?_ _
            rotate_right
            focus
              (go_simp; (first | have hAl := hAt.alloc (.cells #[.bool false, .string ⟨#[]⟩, .slice none 0 0] 28) | have hAl := hSp.alloc (.cells #[.bool false, .string ⟨#[]⟩, .slice none 0 0] 28) | have hAl := hE.drew.alloc (.cells #[.bool false, .string ⟨#[]⟩, .slice none 0 0] 28)))
              refine hK.out _ _ ⟨(atWm hAl (by repeat (first | exact List.Mem.head _ | refine List.Mem.tail _ ?_)) Tryd.isAgg28 Tryd.sizeOf28 rfl), ((f0.out _ (hAl.suf (by repeat (first | exact List.suffix_refl _ | refine List.IsSuffix.trans ?_ (List.suffix_cons _ _))))).2.1)⟩ (fun hS => ?_)
              clear hK K
              try simp only [Act.put, sb, s0, sz]
              refine wpAnyH_ready (rs := [7]) (by kernel_rfl) (by simp) ?_
              refine (AllReadyH.cons (o := { dst := some 66, op := Go.Op.call { callee := Go.Callee.value (Go.Operand.func 15), args := #[Go.Operand.tmp 59, Go.Operand.tmp 65], argTypes := #[28, 23] }, type := 30, pos := "law.go:111", after := #[{ on := 0, ground := Go.Ground.data }, { on := 6, ground := Go.Ground.data }, { on := 6, ground := Go.Ground.chain }], guard := none }) rfl (fun K hK => ?_) AllReadyH.nil)
              (go_simp; (first | have H := HA.out _ _ _ _ (by repeat (first | exact List.suffix_refl _ | refine List.IsSuffix.trans ?_ (List.suffix_cons _ _))) (hAl.front 1 rfl) | have H := HA.out _ _ _ _ (by repeat (first | exact List.suffix_refl _ | refine List.IsSuffix.trans ?_ (List.suffix_cons _ _))) hSp); refine H.mono ?_; clear H; rintro e w4 ⟨v, rfl, p, ap, cp, rfl, hri, hk6, hAt, hKp⟩)
              refine hK.out _ _ ⟨(atWm hAt (by repeat (first | exact List.Mem.head _ | refine List.Mem.tail _ ?_)) Tryd.isAgg28 Tryd.sizeOf28 rfl), ((f0.out _ (hAt.suf (by repeat (first | exact List.suffix_refl _ | refine List.IsSuffix.trans ?_ (List.suffix_cons _ _))))).2.1)⟩ (fun hS => ?_)
              clear hK K
              try simp only [Act.put, sb, s0, sz]
              refine takeW 8 ⟨some 58, .move (.tmp 66), 30, "law.go:111", #[⟨7, .data⟩], none⟩ ?_ (.inl ⟨by rfl, ?_⟩) hS ?_
              rotate_left
              · (intro w hSw; (try dsimp only at hSw); go_simp; (try with_reducible rfl))
              try simp only [Act.put, sb, s0, sz]
              refine takeW 9 ⟨some 67, .extract (.tmp 58) 0, 28, "law.go:111", #[⟨8, .data⟩], none⟩ ?_ (.inl ⟨by rfl, ?_⟩) hS ?_
              rotate_left
              · (intro w hSw; (try dsimp only at hSw); go_simp; (try with_reducible rfl))
              try simp only [Act.put, sb, s0, sz]
              refine takeW 10 ⟨some 68, .extract (.tmp 58) 1, 29, "law.go:111", #[⟨8, .data⟩, { on := 12, ground := Go.Ground.gcOnly Go.Departure.lateStores }], none⟩ ?_ (.inl ⟨by rfl, ?_⟩) hS ?_
              rotate_left
              · (intro w hSw; (try dsimp only at hSw); go_simp; (try with_reducible rfl))
              try simp only [Act.put, sb, s0, sz]
              refine wpAnyH_ready (rs := [12]) (by kernel_rfl) (by simp) ?_
              refine (AllReadyH.cons (o := { dst := none, op := Go.Op.store 28 (Go.Operand.tmp 9) (Go.Operand.tmp 67), type := 0, pos := "law.go:111", after := #[{ on := 11, ground := Go.Ground.data }, { on := 9, ground := Go.Ground.data }, { on := 7, ground := Go.Ground.chain }, { on := 0, ground := Go.Ground.phase }, { on := 1, ground := Go.Ground.phase }, { on := 2, ground := Go.Ground.phase }, { on := 3, ground := Go.Ground.phase }, { on := 4, ground := Go.Ground.phase }, { on := 5, ground := Go.Ground.phase }, { on := 6, ground := Go.Ground.phase }, { on := 7, ground := Go.Ground.phase }, { on := 8, ground := Go.Ground.phase }, { on := 9, ground := Go.Ground.phase }, { on := 10, ground := Go.Ground.textOnly Go.Departure.lateStores }, { on := 11, ground := Go.Ground.phase }], guard := none }) rfl (fun K hK => ?_) AllReadyH.nil)
              ((first | refine step_storeW hAl 0 rfl (by rfl) (by rfl) (by rfl) (xs := [.bool xd, .string ⟨xb.toArray⟩, .slice ap p.kids.length cp]) (by rfl) Tryd.sizeOf28 rfl (by simp [Value.oneCell']) rfl ?_ | refine step_storeW hAt 1 rfl (by rfl) (by rfl) (by rfl) (xs := [.bool xd, .string ⟨xb.toArray⟩, .slice ap p.kids.length cp]) (by rfl) Tryd.sizeOf28 rfl (by simp [Value.oneCell']) rfl ?_); intro w7 hEs; simp only [List.set_cons_zero, List.set_cons_succ] at hEs)
              refine hK.out _ _ ⟨(atWm hEs (by repeat (first | exact List.Mem.head _ | refine List.Mem.tail _ ?_)) Tryd.isAgg28 Tryd.sizeOf28 rfl), ((f0.out _ (hEs.suf (by repeat (first | exact List.suffix_refl _ | refine List.IsSuffix.trans ?_ (List.suffix_cons _ _))))).2.1)⟩ (fun hS => ?_)
              clear hK K
              try simp only [Act.put, sb, s0, sz]
              refine takeW 13 ⟨some 10, .assign (.tmp 68), 29, "law.go:111", #[⟨10, .data⟩, ⟨12, .chain⟩, ⟨0, .phase⟩, ⟨1, .phase⟩, ⟨2, .phase⟩, ⟨3, .phase⟩, ⟨4, .phase⟩, ⟨5, .phase⟩, ⟨6, .phase⟩, ⟨7, .phase⟩, ⟨8, .phase⟩, ⟨9, .phase⟩, ⟨10, .phase⟩, ⟨11, .phase⟩, ⟨12, .phase⟩], none⟩ ?_ (.inl ⟨by rfl, ?_⟩) hS ?_
              rotate_left
              · (intro w hSw; (try dsimp only at hSw); go_simp; (try with_reducible rfl))
              try simp only [Act.put, sb, s0, sz]
              refine wpAnyH_done (by kernel_rfl) ?_ _
          rotate_right
          focus
            (go_simp; (first | have hAl := hAt.alloc (.cells #[.bool false, .string ⟨#[]⟩, .slice none 0 0] 28) | have hAl := hSp.alloc (.cells #[.bool false, .string ⟨#[]⟩, .slice none 0 0] 28) | have hAl := hE.drew.alloc (.cells #[.bool false, .string ⟨#[]⟩, .slice none 0 0] 28)))
            refine hK.out _ _ ⟨(atWm hAl (by repeat (first | exact List.Mem.head _ | refine List.Mem.tail _ ?_)) Tryd.isAgg28 Tryd.sizeOf28 rfl), ((f0.out _ (hAl.suf (by repeat (first | exact List.suffix_refl _ | refine List.IsSuffix.trans ?_ (List.suffix_cons _ _))))).2.1)⟩ (fun hS => ?_)
            clear hK K
            try simp only [Act.put, sb, s0, sz]
            refine wpAnyH_ready (rs := [6]) (by kernel_rfl) (by simp) ?_
            refine (AllReadyH.cons (o := { dst := some 65, op := Go.Op.call { callee := Go.Callee.value (Go.Operand.func 19), args := #[Go.Operand.tmp 64], argTypes := #[9] }, type := 23, pos := "law.go:111", after := #[{ on := 5, ground := Go.Ground.data }], guard := none }) rfl (fun K hK => ?_) AllReadyH.nil)
            (go_simp; (first | have H := HS.out _ _ hAl | have H := HS.out _ _ hE.drew); refine H.mono ?_; clear H; rintro e w3 ⟨v, rfl, an, cn, rfl, hSp⟩)
            refine hK.out _ _ ⟨(atWm hSp (by repeat (first | exact List.Mem.head _ | refine List.Mem.tail _ ?_)) Tryd.isAgg28 Tryd.sizeOf28 rfl), ((f0.out _ (hSp.suf (by repeat (first | exact List.suffix_refl _ | refine List.IsSuffix.trans ?_ (List.suffix_cons _ _))))).2.1)⟩ (fun hS => ?_)
            clear hK K
            try simp only [Act.put, sb, s0, sz]
            refine wpAnyH_ready (rs := [7]) (by kernel_rfl) (by simp) ?_
            refine (AllReadyH.cons (o := { dst := some 66, op := Go.Op.call { callee := Go.Callee.value (Go.Operand.func 15), args := #[Go.Operand.tmp 59, Go.Operand.tmp 65], argTypes := #[28, 23] }, type := 30, pos := "law.go:111", after := #[{ on := 0, ground := Go.Ground.data }, { on := 6, ground := Go.Ground.data }, { on := 6, ground := Go.Ground.chain }], guard := none }) rfl (fun K hK => ?_) AllReadyH.nil)
            (go_simp; (first | have H := HA.out _ _ _ _ (by repeat (first | exact List.suffix_refl _ | refine List.IsSuffix.trans ?_ (List.suffix_cons _ _))) (hAl.front 1 rfl) | have H := HA.out _ _ _ _ (by repeat (first | exact List.suffix_refl _ | refine List.IsSuffix.trans ?_ (List.suffix_cons _ _))) hSp); refine H.mono ?_; clear H; rintro e w4 ⟨v, rfl, p, ap, cp, rfl, hri, hk6, hAt, hKp⟩)
            refine hK.out _ _ ⟨(atWm hAt (by repeat (first | exact List.Mem.head _ | refine List.Mem.tail _ ?_)) Tryd.isAgg28 Tryd.sizeOf28 rfl), ((f0.out _ (hAt.suf (by repeat (first | exact List.suffix_refl _ | refine List.IsSuffix.trans ?_ (List.suffix_cons _ _))))).2.1)⟩ (fun hS => ?_)
            clear hK K
            try simp only [Act.put, sb, s0, sz]
            refine takeW 8 ⟨some 58, .move (.tmp 66), 30, "law.go:111", #[⟨7, .data⟩], none⟩ ?_ (.inl ⟨by rfl, ?_⟩) hS ?_
            rotate_left
            · (intro w hSw; (try dsimp only at hSw); go_simp; (try with_reducible rfl))
            try simp only [Act.put, sb, s0, sz]
            refine takeW 9 ⟨some 67, .extract (.tmp 58) 0, 28, "law.go:111", #[⟨8, .data⟩], none⟩ ?_ (.inl ⟨by rfl, ?_⟩) hS ?_
            rotate_left
            · (intro w hSw; (try dsimp only at hSw); go_simp; (try with_reducible rfl))
            try simp only [Act.put, sb, s0, sz]
            refine takeW 10 ⟨some 68, .extract (.tmp 58) 1, 29, "law.go:111", #[⟨8, .data⟩, { on := 12, ground := Go.Ground.gcOnly Go.Departure.lateStores }], none⟩ ?_ (.inl ⟨by rfl, ?_⟩) hS ?_
            rotate_left
            · (intro w hSw; (try dsimp only at hSw); go_simp; (try with_reducible rfl))
            try simp only [Act.put, sb, s0, sz]
            refine wpAnyH_ready (rs := [12]) (by kernel_rfl) (by simp) ?_
            refine (AllReadyH.cons (o := { dst := none, op := Go.Op.store 28 (Go.Operand.tmp 9) (Go.Operand.tmp 67), type := 0, pos := "law.go:111", after := #[{ on := 11, ground := Go.Ground.data }, { on := 9, ground := Go.Ground.data }, { on := 7, ground := Go.Ground.chain }, { on := 0, ground := Go.Ground.phase }, { on := 1, ground := Go.Ground.phase }, { on := 2, ground := Go.Ground.phase }, { on := 3, ground := Go.Ground.phase }, { on := 4, ground := Go.Ground.phase }, { on := 5, ground := Go.Ground.phase }, { on := 6, ground := Go.Ground.phase }, { on := 7, ground := Go.Ground.phase }, { on := 8, ground := Go.Ground.phase }, { on := 9, ground := Go.Ground.phase }, { on := 10, ground := Go.Ground.textOnly Go.Departure.lateStores }, { on := 11, ground := Go.Ground.phase }], guard := none }) rfl (fun K hK => ?_) AllReadyH.nil)
            ((first | refine step_storeW hAl 0 rfl (by rfl) (by rfl) (by rfl) (xs := [.bool xd, .string ⟨xb.toArray⟩, .slice ap p.kids.length cp]) (by rfl) Tryd.sizeOf28 rfl (by simp [Value.oneCell']) rfl ?_ | refine step_storeW hAt 1 rfl (by rfl) (by rfl) (by rfl) (xs := [.bool xd, .string ⟨xb.toArray⟩, .slice ap p.kids.length cp]) (by rfl) Tryd.sizeOf28 rfl (by simp [Value.oneCell']) rfl ?_); intro w7 hEs; simp only [List.set_cons_zero, List.set_cons_succ] at hEs)
            refine hK.out _ _ ⟨(atWm hEs (by repeat (first | exact List.Mem.head _ | refine List.Mem.tail _ ?_)) Tryd.isAgg28 Tryd.sizeOf28 rfl), ((f0.out _ (hEs.suf (by repeat (first | exact List.suffix_refl _ | refine List.IsSuffix.trans ?_ (List.suffix_cons _ _))))).2.1)⟩ (fun hS => ?_)
            clear hK K
            try simp only [Act.put, sb, s0, sz]
            refine takeW 13 ⟨some 10, .assign (.tmp 68), 29, "law.go:111", #[⟨10, .data⟩, ⟨12, .chain⟩, ⟨0, .phase⟩, ⟨1, .phase⟩, ⟨2, .phase⟩, ⟨3, .phase⟩, ⟨4, .phase⟩, ⟨5, .phase⟩, ⟨6, .phase⟩, ⟨7, .phase⟩, ⟨8, .phase⟩, ⟨9, .phase⟩, ⟨10, .phase⟩, ⟨11, .phase⟩, ⟨12, .phase⟩], none⟩ ?_ (.inl ⟨by rfl, ?_⟩) hS ?_
            rotate_left
            · (intro w hSw; (try dsimp only at hSw); go_simp; (try with_reducible rfl))
            try simp only [Act.put, sb, s0, sz]
            refine wpAnyH_done (by kernel_rfl) ?_ _
          all_goals
            first
              | (replace hE : Ent (rowS an cn cs :: pt wr.heap.size (.cells #[.bool xd, .string ⟨xb.toArray⟩, .slice ap p.kids.length cp] 28) :: pt b3 (.cells #[.bool t.dir, .string ⟨t.data.toArray⟩, .slice a1 t.kids.length c1] 28) :: (m1 ++ l)) w7 := hEs; generalize wr.heap.size = g at *)
              | (replace hE : Ent (rowS an cn cs :: pt w3.heap.size (.cells #[.bool xd, .string ⟨xb.toArray⟩, .slice ap p.kids.length cp] 28) :: pt b3 (.cells #[.bool t.dir, .string ⟨t.data.toArray⟩, .slice a1 t.kids.length c1] 28) :: (m1 ++ l)) w7 := hEs; generalize w3.heap.size = g at *)
              | (replace hE : Ent (rowS an cn cs :: pt w4.heap.size (.cells #[.bool xd, .string ⟨xb.toArray⟩, .slice ap p.kids.length cp] 28) :: pt b3 (.cells #[.bool t.dir, .string ⟨t.data.toArray⟩, .slice a1 t.kids.length c1] 28) :: (m1 ++ l)) w7 := hEs.front 1 rfl; generalize w4.heap.size = g at *)
            clear hEs hS
            try clear hAl
            try clear hSp
            try clear hAt
            go_wp2
            refine wp_region_held_drew (S := (fun w' => ((Instr.loadAt 4 (.pointer (some ⟨g, 0, none⟩))).run Tryd.prog w' = .ok (.bool xd) w') ∧ ((Instr.loadAt 9 (.pointer (some ⟨g, 1, none⟩))).run Tryd.prog w' = .ok (.string ⟨xb.toArray⟩) w') ∧ ((Instr.loadAt 4 (.pointer (some ⟨b, off + k * 3 + 1, none⟩))).run Tryd.prog w' = .ok (.bool xd) w') ∧ ((Instr.loadAt 9 (.pointer (some ⟨b, off + k * 3 + 2, none⟩))).run Tryd.prog w' = .ok (.string ⟨xb.toArray⟩) w'))) (by kernel_rfl) ⟨(atVm hE.drew (by repeat (first | exact List.Mem.head _ | refine List.Mem.tail _ ?_)) (by simp [go_sem]) rfl), (atVm hE.drew (by repeat (first | exact List.Mem.head _ | refine List.Mem.tail _ ?_)) (by simp [go_sem]) rfl), ((f0.out _ (hE.drew.suf (by repeat (first | exact List.suffix_refl _ | refine List.IsSuffix.trans ?_ (List.suffix_cons _ _))))).2.2.1), ((f0.out _ (hE.drew.suf (by repeat (first | exact List.suffix_refl _ | refine List.IsSuffix.trans ?_ (List.suffix_cons _ _))))).2.2.2)⟩ (fun hS => ?_)
            refine takeW 0 ⟨some 69, .move (.tmp 10), 29, "law.go:112", #[], none⟩ ?_ (.inl ⟨by rfl, ?_⟩) hS ?_
            rotate_left
            · (intro w hSw; (try dsimp only at hSw); go_simp; (try with_reducible rfl))
            try simp only [Act.put, sb, s0, sz]
            refine takeW 1 ⟨some 70, .binOp .neq 29 (.tmp 69) (.const (.int .i64 0)) 29, 4, "law.go:112", #[⟨0, .data⟩], none⟩ ?_ (.inl ⟨by rfl, ?_⟩) hS ?_
            rotate_left
            · (intro w hSw; (try dsimp only at hSw); go_simp; (try with_reducible rfl))
            try simp only [Act.put, sb, s0, sz]
            refine takeW 2 ⟨some 71, .move (.tmp 70), 4, "law.go:112", #[⟨1, .data⟩], none⟩ ?_ (.inl ⟨by rfl, ?_⟩) hS ?_
            rotate_left
            · (intro w hSw; (try dsimp only at hSw); go_simp; (try with_reducible rfl))
            try simp only [Act.put, sb, s0, sz]
            refine takeW 3 ⟨some 72, .fieldAddr 28 (.tmp 9) 0, 0, "law.go:112", #[⟨2, .guard⟩], some (2, false)⟩ ?_ (.inl ⟨by rfl, ?_⟩) hS ?_
            rotate_left
            · (intro w hSw; (try dsimp only at hSw); go_simp; (try with_reducible rfl))
            try simp only [Act.put, sb, s0, sz]
            refine takeW 4 ⟨some 73, .load 4 (.tmp 72), 4, "law.go:112", #[⟨3, .data⟩, ⟨2, .guard⟩], some (2, false)⟩ ?_ (.inl ⟨by rfl, ?_⟩) hS ?_
            rotate_left
            · (intro w hSw; (try dsimp only at hSw); go_simp; (try with_reducible rfl))
            try simp only [Act.put, sb, s0, sz]
            refine takeW 5 ⟨some 74, .move (.tmp 0), 22, "law.go:112", #[⟨2, .guard⟩], some (2, false)⟩ ?_ (.inl ⟨by rfl, ?_⟩) hS ?_
            rotate_left
            · (intro w hSw; (try dsimp only at hSw); go_simp; (try with_reducible rfl))
            try simp only [Act.put, sb, s0, sz]
            refine takeW 6 ⟨some 75, .move (.tmp 8), 3, "law.go:112", #[⟨2, .guard⟩], some (2, false)⟩ ?_ (.inl ⟨by rfl, ?_⟩) hS ?_
            rotate_left
            · (intro w hSw; (try dsimp only at hSw); go_simp; (try with_reducible rfl))
            try simp only [Act.put, sb, s0, sz]
            refine takeW 7 ⟨some 76, .indexAddr 22 (.tmp 74) (.tmp 75), 0, "law.go:112", #[⟨5, .data⟩, ⟨6, .data⟩, ⟨2, .guard⟩], some (2, false)⟩ ?_ (.inl ⟨by rfl, ?_⟩) hS ?_
            rotate_left
            · (intro w hSw; (try dsimp only at hSw); go_simp; (try with_reducible rfl))
            try simp only [Act.put, sb, s0, sz]
            refine takeW 8 ⟨some 77, .fieldAddr 41 (.tmp 76) 1, 0, "law.go:112", #[⟨7, .data⟩, ⟨2, .guard⟩], some (2, false)⟩ ?_ (.inl ⟨by rfl, ?_⟩) hS ?_
            rotate_left
            · (intro w hSw; (try dsimp only at hSw); go_simp; (try with_reducible rfl))
            try simp only [Act.put, sb, s0, sz]
            refine takeW 9 ⟨some 78, .load 4 (.tmp 77), 4, "law.go:112", #[⟨8, .data⟩, ⟨2, .guard⟩], some (2, false)⟩ ?_ (.inl ⟨by rfl, ?_⟩) hS ?_
            rotate_left
            · (intro w hSw; (try dsimp only at hSw); go_simp; (try with_reducible rfl))
            try simp only [Act.put, sb, s0, sz]
            refine takeW 10 ⟨some 79, .binOp .neq 4 (.tmp 73) (.tmp 78) 4, 4, "law.go:112", #[⟨4, .data⟩, ⟨9, .data⟩, ⟨2, .guard⟩], some (2, false)⟩ ?_ (.inl ⟨by rfl, ?_⟩) hS ?_
            rotate_left
            · (intro w hSw; (try dsimp only at hSw); go_simp; (try with_reducible rfl))
            try simp only [Act.put, sb, s0, sz]
            refine takeW 11 ⟨some 80, .pick (.tmp 71) (.const (.bool true)) (.tmp 79), 4, "law.go:112", #[⟨2, .data⟩, ⟨10, .data⟩], none⟩ ?_ (.inl ⟨by rfl, ?_⟩) hS ?_
            rotate_left
            · (intro w hSw; (try dsimp only at hSw); go_simp; (try with_reducible rfl))
            try simp only [Act.put, sb, s0, sz]
            refine takeW 12 ⟨some 81, .move (.tmp 80), 4, "law.go:112", #[⟨11, .data⟩, ⟨2, .chain⟩], none⟩ ?_ (.inl ⟨by rfl, ?_⟩) hS ?_
            rotate_left
            · (intro w hSw; (try dsimp only at hSw); go_simp; (try with_reducible rfl))
            try simp only [Act.put, sb, s0, sz]
            refine takeW 13 ⟨some 82, .fieldAddr 28 (.tmp 9) 1, 0, "law.go:112", #[⟨12, .guard⟩], some (12, false)⟩ ?_ (.inl ⟨by rfl, ?_⟩) hS ?_
            rotate_left
            · (intro w hSw; (try dsimp only at hSw); go_simp; (try with_reducible rfl))
            try simp only [Act.put, sb, s0, sz]
            refine takeW 14 ⟨some 83, .load 9 (.tmp 82), 9, "law.go:112", #[⟨13, .data⟩, ⟨12, .guard⟩], some (12, false)⟩ ?_ (.inl ⟨by rfl, ?_⟩) hS ?_
            rotate_left
            · (intro w hSw; (try dsimp only at hSw); go_simp; (try with_reducible rfl))
            try simp only [Act.put, sb, s0, sz]
            refine takeW 15 ⟨some 84, .move (.tmp 0), 22, "law.go:112", #[⟨12, .guard⟩], some (12, false)⟩ ?_ (.inl ⟨by rfl, ?_⟩) hS ?_
            rotate_left
            · (intro w hSw; (try dsimp only at hSw); go_simp; (try with_reducible rfl))
            try simp only [Act.put, sb, s0, sz]
            refine takeW 16 ⟨some 85, .move (.tmp 8), 3, "law.go:112", #[⟨12, .guard⟩], some (12, false)⟩ ?_ (.inl ⟨by rfl, ?_⟩) hS ?_
            rotate_left
            · (intro w hSw; (try dsimp only at hSw); go_simp; (try with_reducible rfl))
            try simp only [Act.put, sb, s0, sz]
            refine takeW 17 ⟨some 86, .indexAddr 22 (.tmp 84) (.tmp 85), 0, "law.go:112", #[⟨15, .data⟩, ⟨16, .data⟩, ⟨12, .guard⟩], some (12, false)⟩ ?_ (.inl ⟨by rfl, ?_⟩) hS ?_
            rotate_left
            · (intro w hSw; (try dsimp only at hSw); go_simp; (try with_reducible rfl))
            try simp only [Act.put, sb, s0, sz]
            refine takeW 18 ⟨some 87, .fieldAddr 41 (.tmp 86) 2, 0, "law.go:112", #[⟨17, .data⟩, ⟨12, .guard⟩], some (12, false)⟩ ?_ (.inl ⟨by rfl, ?_⟩) hS ?_
            rotate_left
            · (intro w hSw; (try dsimp only at hSw); go_simp; (try with_reducible rfl))
            try simp only [Act.put, sb, s0, sz]
            refine takeW 19 ⟨some 88, .load 9 (.tmp 87), 9, "law.go:112", #[⟨18, .data⟩, ⟨12, .guard⟩], some (12, false)⟩ ?_ (.inl ⟨by rfl, ?_⟩) hS ?_
            rotate_left
            · (intro w hSw; (try dsimp only at hSw); go_simp; (try with_reducible rfl))
            try simp only [Act.put, sb, s0, sz]
            refine takeW 20 ⟨some 89, .binOp .neq 9 (.tmp 83) (.tmp 88) 9, 4, "law.go:112", #[⟨14, .data⟩, ⟨19, .data⟩, ⟨12, .guard⟩], some (12, false)⟩ ?_ (.inl ⟨by rfl, ?_⟩) hS ?_
            rotate_left
            · (intro w hSw; (try dsimp only at hSw); go_simp; (try with_reducible rfl))
            try simp only [Act.put, sb, s0, sz]
            refine takeW 21 ⟨some 90, .pick (.tmp 81) (.const (.bool true)) (.tmp 89), 4, "law.go:112", #[⟨12, .data⟩, ⟨20, .data⟩], none⟩ ?_ (.inl ⟨by rfl, ?_⟩) hS ?_
            rotate_left
            · (intro w hSw; (try dsimp only at hSw); go_simp; (try with_reducible rfl))
            try simp only [Act.put, sb, s0, sz]
            refine wpAnyH_done (by kernel_rfl) ?_ _
            clear hS
            replace hE := hE.drew.tail
            obtain ⟨ks, hks⟩ : ∃ ks, p.kids = ks := ⟨_, rfl⟩
            have hri2 : Rising (ks.map Prod.fst) := by rw [← hks]; exact hri
            rw [hks] at hKp hk6 hE
            clear hri
            obtain ⟨aq, cq, vs, eq, hcq, hlq, hkq, hkr, hone⟩ := hKp.open
            cases eq
            clear hone hkr hcq hks
            have Hri := SL.hid hri2
            have Hlq := SL.hid hlq
            clear hri2 hlq
            go_wp2
            go_loopw [11] (fun i wr => InRel ks.length (pt g (.cells #[.bool xd, .string ⟨xb.toArray⟩, .slice ap ks.length cp] 28) :: pt b3 (.cells #[.bool t.dir, .string ⟨t.data.toArray⟩, .slice a1 t.kids.length c1] 28) :: (m1 ++ l)) i wr) (fun i _ => ks.length + 1 - (intOf i).toNat)
            case atStart => exact ⟨1, Nat.le_refl _, by omega, rfl, hE⟩
            case round =>
              clear hE
              obtain ⟨j, hj1, hjn, rfl, hE⟩ := hrel
              by_cases hj : j < ks.length
              · obtain ⟨i, hi⟩ : ∃ i, i + 1 = j := ⟨j - 1, by omega⟩
                obtain ⟨bk, ok, e1, hz⟩ := kids_at Hlq.out (hkq _ hE.tail.tail) hj
                clear hz
                subst e1
                have hwj : wrap64 ((j : Int) - 1) = (i : Int) := by unfold wrap64; omega
                have hwj2 : IntKind.i64.wrap ((j : Int) - 1) = (i : Int) := by
                  simp only [IntKind.wrap, IntKind.bits, IntKind.signed]
                  simp
                  omega
                have hil : i < ks.length := by omega
                have hii : (i : Int) < (ks.length : Int) := by omega
                have hjj : (j : Int) < (ks.length : Int) := by omega
                have g1 := SL.hid (show ∀ w, Ent (m1 ++ l) w → w.cell? ⟨bk, ok + i * 4, none⟩ = some (.string ⟨(ks[i]).1.toArray⟩) from fun w h => by
                  obtain ⟨b', o', e, h⟩ := kids_at Hlq.out (hkq _ h) hil
                  cases e
                  exact h 0 _ rfl)
                have g2 := SL.hid (show ∀ w, Ent (m1 ++ l) w → w.cell? ⟨bk, ok + j * 4, none⟩ = some (.string ⟨(ks[j]).1.toArray⟩) from fun w h => by
                  obtain ⟨b', o', e, h⟩ := kids_at Hlq.out (hkq _ h) hj
                  cases e
                  exact h 0 _ rfl)
                have hlt2 : Op.bytesLess (ks[i]).1 (ks[j]).1 = true := by
                  have := Hri.out.of (i := i) (j := j) (by omega) (by simpa using hj)
                  simpa using this
                generalize (ks[i]).1 = n1 at *
                generalize (ks[j]).1 = n2 at *
                clear hi
                go_wp2_with (first | go_skip | ((with_reducible (show Go.wpList _ _ _ (Go.Oper.mk _ (.load _ _) _ _ _ _ :: _) _ _)); refine wpl_load1 hE 0 rfl rfl rfl rfl (by simp [go_sem]) rfl ?_))
                refine wp_region_held_drew (S := (fun w' => ((Instr.loadAt 26 (.pointer (some ⟨g, 2, none⟩))).run Tryd.prog w' = .ok (.slice (some ⟨bk, ok, none⟩) ks.length cp) w') ∧ ((Instr.loadAt 9 (.pointer (some ⟨bk, ok + i * 4, none⟩))).run Tryd.prog w' = .ok (.string ⟨n1.toArray⟩) w') ∧ ((Instr.loadAt 9 (.pointer (some ⟨bk, ok + j * 4, none⟩))).run Tryd.prog w' = .ok (.string ⟨n2.toArray⟩) w'))) (by kernel_rfl) ⟨(atVm hE.drew (by repeat (first | exact List.Mem.head _ | refine List.Mem.tail _ ?_)) (by simp [go_sem]) rfl), (atCell (g1.out _ (hE.drew.suf (by repeat (first | exact List.suffix_refl _ | refine List.IsSuffix.trans ?_ (List.suffix_cons _ _))))) (by simp [go_sem])), (atCell (g2.out _ (hE.drew.suf (by repeat (first | exact List.suffix_refl _ | refine List.IsSuffix.trans ?_ (List.suffix_cons _ _))))) (by simp [go_sem]))⟩ (fun hS => ?_)
                refine takeW 0 ⟨some 98, .fieldAddr 28 (.tmp 9) 2, 0, "law.go:116", #[], none⟩ ?_ (.inl ⟨by rfl, ?_⟩) hS ?_
                rotate_left
                · (intro w hSw; (try dsimp only at hSw); go_simp; (try with_reducible rfl))
                try simp only [Act.put, sb, s0, sz]
                refine takeW 1 ⟨some 99, .load 26 (.tmp 98), 26, "law.go:116", #[⟨0, .data⟩], none⟩ ?_ (.inl ⟨by rfl, ?_⟩) hS ?_
                rotate_left
                · (intro w hSw; (try dsimp only at hSw); go_simp; (try with_reducible rfl))
                try simp only [Act.put, sb, s0, sz]
                refine takeW 2 ⟨some 100, .move (.tmp 11), 3, "law.go:116", #[], none⟩ ?_ (.inl ⟨by rfl, ?_⟩) hS ?_
                rotate_left
                · (intro w hSw; (try dsimp only at hSw); go_simp; (try with_reducible rfl))
                try simp only [Act.put, sb, s0, sz]
                refine takeW 3 ⟨some 101, .binOp .sub 3 (.tmp 100) (.const (.int .i64 1)) 3, 3, "law.go:116", #[⟨2, .data⟩], none⟩ ?_ (.inl ⟨by rfl, ?_⟩) hS ?_
                rotate_left
                · (intro w hSw; (try dsimp only at hSw); go_simp; (try with_reducible rfl))
                try simp only [Act.put, sb, s0, sz]
                refine takeW 4 ⟨some 102, .indexAddr 26 (.tmp 99) (.tmp 101), 0, "law.go:116", #[⟨1, .data⟩, ⟨3, .data⟩], none⟩ ?_ (.inl ⟨by rfl, ?_⟩) hS ?_
                rotate_left
                · (intro w hSw; (try dsimp only at hSw); go_simp; (try with_reducible rfl))
                try simp only [Act.put, sb, s0, sz]
                refine takeW 5 ⟨some 103, .fieldAddr 51 (.tmp 102) 0, 0, "law.go:116", #[⟨4, .data⟩], none⟩ ?_ (.inl ⟨by rfl, ?_⟩) hS ?_
                rotate_left
                · (intro w hSw; (try dsimp only at hSw); go_simp; (try with_reducible rfl))
                try simp only [Act.put, sb, s0, sz]
                refine takeW 6 ⟨some 104, .load 9 (.tmp 103), 9, "law.go:116", #[⟨5, .data⟩], none⟩ ?_ (.inl ⟨by rfl, ?_⟩) hS ?_
                rotate_left
                · (intro w hSw; (try dsimp only at hSw); go_simp; (try with_reducible rfl))
                try simp only [Act.put, sb, s0, sz]
                refine takeW 7 ⟨some 105, .fieldAddr 28 (.tmp 9) 2, 0, "law.go:116", #[], none⟩ ?_ (.inl ⟨by rfl, ?_⟩) hS ?_
                rotate_left
                · (intro w hSw; (try dsimp only at hSw); go_simp; (try with_reducible rfl))
                try simp only [Act.put, sb, s0, sz]
                refine takeW 8 ⟨some 106, .load 26 (.tmp 105), 26, "law.go:116", #[⟨7, .data⟩], none⟩ ?_ (.inl ⟨by rfl, ?_⟩) hS ?_
                rotate_left
                · (intro w hSw; (try dsimp only at hSw); go_simp; (try with_reducible rfl))
                try simp only [Act.put, sb, s0, sz]
                refine takeW 9 ⟨some 107, .move (.tmp 11), 3, "law.go:116", #[], none⟩ ?_ (.inl ⟨by rfl, ?_⟩) hS ?_
                rotate_left
                · (intro w hSw; (try dsimp only at hSw); go_simp; (try with_reducible rfl))
                try simp only [Act.put, sb, s0, sz]
                refine takeW 10 ⟨some 108, .indexAddr 26 (.tmp 106) (.tmp 107), 0, "law.go:116", #[⟨8, .data⟩, ⟨9, .data⟩], none⟩ ?_ (.inl ⟨by rfl, ?_⟩) hS ?_
                rotate_left
                · (intro w hSw; (try dsimp only at hSw); go_simp; (try with_reducible rfl))
                try simp only [Act.put, sb, s0, sz]
                refine takeW 11 ⟨some 109, .fieldAddr 51 (.tmp 108) 0, 0, "law.go:116", #[⟨10, .data⟩], none⟩ ?_ (.inl ⟨by rfl, ?_⟩) hS ?_
                rotate_left
                · (intro w hSw; (try dsimp only at hSw); go_simp; (try with_reducible rfl))
                try simp only [Act.put, sb, s0, sz]
                refine takeW 12 ⟨some 110, .load 9 (.tmp 109), 9, "law.go:116", #[⟨11, .data⟩], none⟩ ?_ (.inl ⟨by rfl, ?_⟩) hS ?_
                rotate_left
                · (intro w hSw; (try dsimp only at hSw); go_simp; (try with_reducible rfl))
                try simp only [Act.put, sb, s0, sz]
                refine takeW 13 ⟨some 111, .binOp .geq 9 (.tmp 104) (.tmp 110) 9, 4, "law.go:116", #[⟨6, .data⟩, ⟨12, .data⟩], none⟩ ?_ (.inl ⟨by rfl, ?_⟩) hS ?_
                rotate_left
                · (intro w hSw; (try dsimp only at hSw); go_simp; (try with_reducible rfl))
                try simp only [Act.put, sb, s0, sz]
                refine wpAnyH_done (by kernel_rfl) ?_ _
                go_wp2
                go_roundw
                case rel => exact ⟨j + 1, by omega, by omega, by first | rfl | simp, hE.drew⟩
                case measure => simp [intOf] <;> omega
              · go_wp2_with (first | go_skip | ((with_reducible (show Go.wpList _ _ _ (Go.Oper.mk _ (.load _ _) _ _ _ _ :: _) _ _)); refine wpl_load1 hE 0 rfl rfl rfl rfl (by simp [go_sem]) rfl ?_))
                refine ⟨⟨k + 1, hlt, by first | rfl | simp, hE.tail⟩, ?_⟩
                simp [intOf] <;> omega
        · obtain rfl : k = es.length := by omega
          go_wp2_with (first
            | go_skip
            | (go_at_call 9; refine (HWk.out _ _ hE).mono ?_; clear hE; rintro e w3 ⟨v, rfl, rfl, hE⟩))
          go_ret
          exact ⟨_, rfl, rfl, hE.tail.drop⟩
end Go.Proofs.YtjmllpgmbaoebaaDoor
namespace Go.Proofs.YtjmllpgmbaoebaaDoor
open Go.RowKit Go.SL Go.ChangeShapes Go.WideShapes Go.Deep

set_option maxRecDepth 100000 in
theorem open_ens {H : Type} {enc : TypeId × Value → H} {w : World} {held : Bool} {r : Reach} {b0 : Nat} {v : Value} {d : DataW H} {ps : List MemPlace}
    (hval : Value.okWide Tryd.prog w r b0 22 v) (h : DataW.Trod enc Tryd.prog w 0 (fun _ => true) held 22 v d ps) :
    ∃ (ao : Option Addr) (c : Nat) (xs : List En), v = .slice ao xs.length c ∧ xs.length ≤ c ∧ c ≤ maxLen ∧ (∀ x ∈ xs, True) ∧ reads v xs.length (xs.flatMap enC) w :=
  open_row Tryd.underlying22 enC (fun _ => True) enC_len (by omega) (by kernel_rfl) hval h (fun m cs y hl hy => by
    obtain ⟨ys, n, _, _, _, hyl, hg⟩ := DataW.trod_struct Tryd.underlying41 hy
    match cs, hl with
    | [c0, c1, c2], _ =>
      have g0 := hg 0 _ rfl
      have g1 := hg 1 _ rfl
      have g2 := hg 2 _ rfl
      match ys, hyl with
      | [y0, y1, y2], _ =>
        obtain ⟨a, q0, _, _⟩ := DataW.trod_string Tryd.underlying9 (show DataW.trod enc Tryd.prog w 0 (fun _ => true) held n 9 [c0] = some y0 from g0)
        obtain ⟨b, q1, _⟩ := DataW.trod_bool Tryd.underlying4 (show DataW.trod enc Tryd.prog w 0 (fun _ => true) held n 4 [c1] = some y1 from g1)
        obtain ⟨c, q2, _, _⟩ := DataW.trod_string Tryd.underlying9 (show DataW.trod enc Tryd.prog w 0 (fun _ => true) held n 9 [c2] = some y2 from g2)
        simp only [List.cons.injEq, and_true] at q0 q1 q2
        subst q0 q1 q2
        exact ⟨⟨a.data.toList, b, c.data.toList⟩, trivial, rfl⟩)
end Go.Proofs.YtjmllpgmbaoebaaDoor
namespace Go.Proofs.YtjmllpgmbaoebaaDoor
open Go.RowKit Go.SL

theorem ManifestPlain_in {es : List En} {s t : ByteArray} {ao : Option Addr} {c : Nat} {W : World} (hk : Knows [rest W fun _ => False] (reads (.slice ao es.length c) es.length (es.flatMap enC))) :
    Calls Tryd.prog 7 #[.slice ao es.length c, .string s, .string t] W (Ret fun v w' => v = .bool true ∧ Ent [rest W fun _ => False] w') :=
  ManifestPlain_any (s := s.data.toList) (t := t.data.toList) hk (Ent.start W)
end Go.Proofs.YtjmllpgmbaoebaaDoor
