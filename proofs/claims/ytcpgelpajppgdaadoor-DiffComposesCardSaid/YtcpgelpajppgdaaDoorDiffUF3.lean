/-
  Ranges over functions whose loop variable lies in a block of its own in every round, over separation lists. Conditions: none; plain lemmas over any program.
-/
import Derived.Test.YtcpgelpajppgdaaDoorDiffUF2
import Derived.Deep.RegionHeld
import Derived.Shelf.RegionOpen
namespace Go.SL
open Go.RowKit
section
variable {P : Program}
theorem wpIn_rangeSLB {α β : Type} {g : Operand} {ps : Array Tmp} {assign body : Code} {Q : Exit → Act → World → Prop} {a : Act} {w : World} {gf : Nat} {lb : Array Value}
    (hg : a.eval g = .func (.func gf) #[] lb) (eg : ∀ args w, (callFunc gf args).run P w = .ok (.enter gf args) w)
    {encs : α → Array Value} {xs : List α} {st : List α → List HProp} (hseq : SeqSL P gf lb encs xs st) (hps : ∀ x, (encs x).size = ps.size)
    (I : List α → List HProp) (Ix : Code → List α → List HProp) (hE : Ent (st [] ++ I []) w) (a₁ : α → β → Act) (B : α → β → List HProp)
    (hassign : ∀ (lp : Nat) (x : α) (W : World) (L : List HProp) (K : Act → World → Prop), Ent L W → (∀ y W', Ent (B x y ++ L) W' → K (a₁ x y) W') →
      assign.wpIn (Fence.wide.inRound lp) 0 P (Exit.then K (fun _ _ _ => False)) { tmps := (ps.zip (encs x)).foldl (fun t (p, v) => t.setIfInBounds p v) a.tmps, defers := [] } W)
    (hbody : ∀ (lp : Nat) (pre : List α) (x : α) (y : β) (W : World) (L : List HProp), pre ++ [x] <+: xs → Ent (B x y ++ (I pre ++ L)) W → body.wpIn (Fence.wide.inRound lp) 0 P (roundSL I Ix L (pre ++ [x])) (a₁ x y) W)
    (hdone : ∀ (D : Nat) (W : World), Ent (pt D (.deferred (some [])) :: I xs) W → Q .normal { a with defers := { target := .collected D, args := #[] } :: a.defers } W)
    (hstop : ∀ (D : Nat) (c : Code) (pre : List α) (W : World), pre <+: xs → Ent (pt D (.deferred (some [])) :: Ix c pre) W → c.wpIn Fence.wide 0 P Q { a with defers := { target := .collected D, args := #[] } :: a.defers } W) :
    (Code.rangeFunc g ps assign body).wpIn Fence.wide 0 P Q a w := by
  refine wpIn_rangeFunc ?_
  intro fn hfn
  obtain ⟨d, hd⟩ : ∃ d, d = w.heap.size := ⟨_, rfl⟩
  obtain ⟨rc, hrc⟩ : ∃ rc : LoopState → Option Code → Loop, rc = fun s p => { state := s, pending := p, fn, tmps := a.tmps, params := ps, assign, body, defers := d } := ⟨_, rfl⟩
  have h1 : Ent (pt (d + 1) (.loop (rc .ready none)) :: pt d (.deferred (some [])) :: (st [] ++ I [])) ((w.alloc (.deferred (some []))).alloc (.loop (rc .ready none))) := by
    have := (hE.alloc (.deferred (some []))).alloc (.loop (rc .ready none))
    rwa [World.size_alloc, ← hd] at this
  generalize hW1 : (w.alloc (.deferred (some []))).alloc (.loop (rc .ready none)) = W1 at h1
  refine ⟨d + 1, [{ target := .collected d, args := #[] }], W1, { target := .fn (.func gf) lb, args := #[.func (.yield (d + 1)) #[] #[]] }, W1, gf, #[.func (.yield (d + 1)) #[] #[]] ++ lb, W1, ?_, ?_, fun _ _ => trivial, ?_, fun h => (by cases h), ?_⟩
  · rw [← hW1, hrc, hd]; exact run_enterLoop_outer _ _ _ _ _
  · simp only [resolve, hg]
    simp [go_sem]
  · simp [invoke, go_sem, eg]
  · refine (hseq (d + 1) (fun pre => I pre ++ [pt (d + 1) (.loop (rc .ready none)), pt d (.deferred (some []))]) (fun pre => [ex fun c => Ix c pre ++ [pt (d + 1) (.loop (rc .done (some c))), pt d (.deferred (some []))]]) W1 (h1.perm perm_2') ?_).mono ?_
    · rintro pre x W hpre hW
      replace hW := hW.perm perm_2
      have hy := run_yield (P := P) (args := encs x) hW.head (by rw [hrc]; exact hps x)
      rw [hrc] at hy
      refine ⟨fn, _, assign, body, hy, roundIn_of_wpIn trivial (hassign _ x W _ _ hW fun y W' hW' => ?_)⟩
      clear hy
      replace hW := hW'.perm List.perm_middle
      clear hW'
      refine ⟨_, run_beginRound hW.head (by rw [hrc]), ?_⟩
      have hb : Ent (pt (d + 1) (.loop { rc .ready none with state := .busy }) :: (B x y ++ (pt d (.deferred (some [])) :: (st pre ++ I pre)))) (W'.putObj (d + 1) (.loop { rc .ready none with state := .busy })) := hW.setMap 0 rfl
      replace hb := hb.perm (List.perm_middle (l₁ := B x y)).symm
      refine wpIn_mono (hbody _ pre x y _ (pt (d + 1) (.loop { rc .ready none with state := .busy }) :: pt d (.deferred (some [])) :: st pre) hpre (hb.perm (perm_3.symm.append_left _))) ?_
      rintro e a3 W3 hp
      cases e with
      | normal =>
        have h3 : Ent _ W3 := Ent.perm hp perm_3
        refine ⟨_, _, run_endRound none h3.head, .inl ⟨rfl, ?_⟩⟩
        have h4 := h3.setMap 0 (ob' := .loop { { rc .ready none with state := .busy } with state := if (none : Option Code).isNone then .ready else .done, pending := none }) rfl
        rw [hrc] at h4 ⊢
        exact Ent.perm h4 perm_2'
      | ret =>
        have h3 : Ent _ W3 := (Ent.perm hp perm_3)
        refine ⟨_, _, run_endRound (some .ret) h3.head, .inr ⟨rfl, ?_⟩⟩
        have h4 := h3.setMap 0 (ob' := .loop { { rc .ready none with state := .busy } with state := if (some Code.ret).isNone then .ready else .done, pending := some .ret }) rfl
        rw [hrc] at h4 ⊢
        exact Ent.pack (l := []) Code.ret (by rw [List.append_nil]; exact (Ent.perm h4 perm_2').drop)
      | exit id =>
        have h3 : Ent _ W3 := (Ent.perm hp perm_3)
        refine ⟨_, _, run_endRound (some (.exit id)) h3.head, .inr ⟨rfl, ?_⟩⟩
        have h4 := h3.setMap 0 (ob' := .loop { { rc .ready none with state := .busy } with state := if (some (Code.exit id)).isNone then .ready else .done, pending := some (.exit id) }) rfl
        rw [hrc] at h4 ⊢
        exact Ent.pack (l := []) (Code.exit id) (by rw [List.append_nil]; exact (Ent.perm h4 perm_2').drop)
      | goto t => exact hp.elim
      | panic ch => exact hp.elim
      | outgrown => exact hp.elim
    · rintro e W2 ⟨⟨v, rfl⟩, hJ | ⟨pre, hpre, hJ⟩⟩
      · have h3 := Ent.perm hJ (perm_2 (l := []))
        refine ⟨none, _, by have := run_endLoop (P := P) h3.head (by rw [hrc]; simp); rw [hrc] at this; exact this, ?_⟩
        have h4 := h3.setMap 0 (ob' := .loop { rc .ready none with state := .exhausted }) rfl
        rw [hrc] at h4
        exact hdone d _ h4.tail
      · obtain ⟨c, hJ⟩ := hJ.unpack
        rw [List.append_nil] at hJ
        have h3 := Ent.perm hJ (perm_2 (l := []))
        refine ⟨some c, _, by have := run_endLoop (P := P) h3.head (by rw [hrc]; simp); rw [hrc] at this; exact this, ?_⟩
        have h4 := h3.setMap 0 (ob' := .loop { rc .done (some c) with state := .exhausted }) rfl
        rw [hrc] at h4
        exact hstop d c pre _ hpre h4.tail


/-- of a region that only comes to its end -/
def onlyN (K : Act → World → Prop) : Exit → Act → World → Prop
  | .normal, a, w => K a w
  | _, _, _ => False
theorem wp_onlyN {c : Code} {Q : Exit → Act → World → Prop} {a : Act} {w : World} (h : c.wp P (onlyN (fun a w => Q .normal a w)) a w) : c.wp P Q a w :=
  wp_mono h (by
    intro e a w h
    cases e <;> first | exact h | exact h.elim)
theorem onlyN_n {Q : Exit → Act → World → Prop} {a : Act} {w : World} (h : Q .normal a w) : onlyN (fun a w => Q .normal a w) .normal a w := h

/-- an operation carried out in a round, as anywhere -/
theorem opIn_of_op {F : Fence} {n : Nat} {ops : Array Oper} {Q : Exit → Act → World → Prop} {K : Act → World → Prop} {i : Nat} {a : Act} {w : World} (hF : F.fn = fun _ => True) (hdp : F.depth = none) (hal : F.alive = false) (hnd : ∀ o, ops[i]? = some o → ∀ c, o.op ≠ .defer c) (hlo : ¬ ∃ a w, Q .outgrown a w)
    (h : wpOp P ops Q i K a w) : wpOpIn F n P ops Q i K a w := by
  have e1 : Machine.fenced P F = Machine.fenced P Fence.wide := by
    funext m
    simp only [Machine.fenced, hF, hdp, hal, Fence.room, Fence.wide]
  have hCI : ∀ {f args w R}, Calls P f args w R → CallsIn F (n - 1) P f args w R := fun {f args w R} h => by
    refine ⟨by rw [hF]; trivial, fun cs _ => ?_⟩
    obtain ⟨e, w', fr, r, s, x⟩ := (callsIn_wide (n := n - 1)).2 h |>.2 cs (room_wide _)
    exact ⟨e, w', fr, r, by rw [e1]; exact s, x⟩
  unfold wpOp at h
  unfold wpOpIn
  split at h
  · rename_i ho; simp only [ho]; exact h
  · rename_i o ho
    simp only [ho]
    split at h
    · rename_i hw
      rw [if_pos hw]
      replace h := h.resolve_right (fun hh => hlo hh.2)
      refine ⟨fun _ _ => by rw [hF]; trivial, ?_⟩
      have hs : o.semAt F.round a.eval = execOp a.eval o := by
        cases hr : F.round with
        | none => simp [Oper.semAt_none]
        | some l => exact Oper.semAt_some l _ o (hnd o ho)
      rw [hs]
      unfold Oper.wp at h
      generalize (execOp a.eval o).run P w = r at h
      unfold Oper.upon at h
      unfold Oper.uponIn
      split at h
      · exact h
      · exact h
      · exact h
      · refine ⟨fun hh => (by rw [hdp] at hh; cases hh), (hCI h).mono ?_⟩
        intro e w2 h2
        cases e with
        | returned v => exact h2
        | panicked ch => exact h2
        | outgrown => exact h2
      · refine ⟨fun hh => (by rw [hdp] at hh; cases hh), fun c cs _ => ?_⟩
        obtain ⟨v, w', r, s⟩ := h c cs
        exact ⟨v, w', r, by rw [e1]; exact stepsIn_wide.2 s⟩
      · exact h
      · exact h.elim
    · rename_i hw
      rw [if_neg hw]
      exact ⟨fun _ _ => by rw [hF]; trivial, h⟩
theorem anyIn_of_held {F : Fence} {n : Nat} {md : Region.Mode} {ops : Array Oper} {Q : Exit → Act → World → Prop} {S : World → Prop} (hF : F.fn = fun _ => True) (hdp : F.depth = none) (hal : F.alive = false) (hnd : ∀ (i : Nat) o, ops[i]? = some o → ∀ c, o.op ≠ .defer c) (hlo : ¬ ∃ a w, Q .outgrown a w) :
    ∀ (fuel : Nat) (listed : Array Bool) (a : Act) (w : World), wpAnyH P md ops Q S fuel listed a w → wpAnyIn F n P md ops Q fuel listed a w
  | 0, _, _, _, h => h
  | fuel + 1, _, _, _, h => ⟨h.1, fun i hi => wpOpIn_mono (fun a' w' h' => anyIn_of_held hF hdp hal hnd hlo fuel _ a' w' h'.2) (opIn_of_op hF hdp hal (hnd i) hlo (h.2 i hi))⟩

/-- A region that draws its order, in a round: walked as anywhere, and it comes to its end. -/
theorem wpIn_region_held_drew {F : Fence} {n : Nat} {ops : Array Oper} {Q : Exit → Act → World → Prop} {S : World → Prop} {id : Nat} {a : Act} {w : World} (hF : F.fn = fun _ => True) (hdp : F.depth = none) (hal : F.alive = false) (hnd : (ops.toList.all fun o => match o.op with | .defer _ => false | _ => true) = true)
    (hm : P.follows .mixedOrders = true) (hS : S w.drew) (h : S w.drew → wpAnyH P .any ops (onlyN (fun a w => Q .normal a w)) S ops.size (Array.replicate ops.size false) a w.drew) : (Code.region id ops true).wpIn F n P Q a w := by
  have hnd' : ∀ (i : Nat) o, ops[i]? = some o → ∀ c, o.op ≠ .defer c := fun i o ho c hc => by
    have hm : o ∈ ops.toList := by
      have h2 : ops.toList[i]? = some o := by simpa using ho
      exact List.mem_of_getElem? h2
    have := List.all_eq_true.1 hnd o hm
    rw [hc] at this
    cases this
  refine wpIn_mono (Q := onlyN (fun a w => Q .normal a w)) (wpIn_region_any hm (anyIn_of_held hF hdp hal hnd' (by rintro ⟨_, _, h⟩; exact h) _ _ _ _ (h hS))) ?_
  intro e a w h
  cases e <;> first | exact h | exact h.elim
end
end Go.SL
namespace Go.Proofs.YtcpgelpajppgdaaDoor
open Go.RowKit Go.SL

theorem ins_kids {l : List HProp} {ks : List (List UInt8 × Tr)} {vs : List Value} (hl : vs.length = ks.length) (hk : ∀ (i : Nat) (h : i < ks.length) (h' : i < vs.length), KidsAt l vs[i] ks[i].2.kids) {p : Nat} (hp : p ≤ ks.length) {n : List UInt8} {x : Tr} {v : Value} (hx : KidsAt l v x.kids) :
    ∀ (i : Nat) (h : i < (Tr.insAt p (n, x) ks).length) (h' : i < (Tr.insAt p v vs).length), KidsAt l (Tr.insAt p v vs)[i] (Tr.insAt p (n, x) ks)[i].2.kids := by
  intro i h h'
  rw [Tr.insAt_get hp i h, Tr.insAt_get (by omega) i h']
  by_cases h1 : i < p
  · rw [dif_pos h1, dif_pos h1]
    exact hk i (by omega) (by omega)
  · rw [dif_neg h1, dif_neg h1]
    by_cases h2 : i = p
    · rw [dif_pos h2, dif_pos h2]; exact hx
    · rw [dif_neg h2, dif_neg h2]
      rw [Tr.insAt_len hp] at h
      exact hk (i - 1) (by omega) (by omega)
theorem set_kids {l m : List HProp} {ks : List (List UInt8 × Tr)} {vs : List Value} (hl : vs.length = ks.length) (hk : ∀ (i : Nat) (h : i < ks.length) (h' : i < vs.length), KidsAt m vs[i] ks[i].2.kids) (hm : m <:+ l) (p : Nat) {n : List UInt8} {x : Tr} {v : Value} (hx : KidsAt l v x.kids) :
    ∀ (i : Nat) (h : i < (ks.set p (n, x)).length) (h' : i < (vs.set p v).length), KidsAt l (vs.set p v)[i] (ks.set p (n, x))[i].2.kids := by
  intro i h h'
  rw [List.getElem_set, List.getElem_set]
  split
  · exact hx
  · exact (hk i (by simpa using h) (by simpa using h')).suf hm
theorem withT_more {n : List UInt8} {q : List (List UInt8)} (hq : q ≠ []) (xd : Bool) (xb : List UInt8) (t : Tr) : Tr.withT (n :: q) xd xb t = if t.dir && isIn t.names n then
      (match Tr.withT q xd xb ((t.kids.getD (placeOf t.names n) ([], .zero)).2) with
       | (e, k) => if e = 0 then (0, .nd true [] (t.kids.set (placeOf t.names n) (n, k))) else (e, .zero)) else (8, .zero) := by
  cases q with
  | nil => exact absurd rfl hq
  | cons m r => rw [Tr.withT]
theorem withT_dir {n : List UInt8} {q : List (List UInt8)} (hq : q ≠ []) (xd : Bool) (xb dt : List UInt8) (ks : List (List UInt8 × Tr)) : Tr.withT (n :: q) xd xb (.nd true dt ks) =
    if isIn (ks.map Prod.fst) n = true then (if (Tr.withT q xd xb (ks.getD (placeOf (ks.map Prod.fst) n) ([], .zero)).2).1 = 0 then (0, .nd true [] (ks.set (placeOf (ks.map Prod.fst) n) (n, (Tr.withT q xd xb (ks.getD (placeOf (ks.map Prod.fst) n) ([], .zero)).2).2))) else ((Tr.withT q xd xb (ks.getD (placeOf (ks.map Prod.fst) n) ([], .zero)).2).1, .zero)) else (8, .zero) := by
  rw [withT_more hq]
  rfl
theorem _root_.Go.SL.Ent.mid {F m R : List HProp} {w : World} (h : Ent (F ++ (m ++ R)) w) : Ent (F ++ R) w := by
  have hp : (F ++ (m ++ R)).Perm (m ++ (F ++ R)) := by
    rw [← List.append_assoc, ← List.append_assoc]
    exact List.perm_append_comm.append_right R
  exact (h.perm hp).drop
def zkid : List Value := [.string ⟨#[]⟩, .bool false, .string ⟨#[]⟩, .slice none 0 0]
theorem zkids_len (n : Nat) : (List.replicate n zkid).flatten.length = n * 4 := by
  induction n with
  | zero => rfl
  | succ n ih => rw [List.replicate_succ, List.flatten_cons, List.length_append, ih]; simp [zkid]; omega
/-- the rows of kids with one more, or another one -/
theorem kCs_ins {ks : List (List UInt8 × Tr)} {vs : List Value} (hl : vs.length = ks.length) {p : Nat} (hp : p ≤ ks.length) (k : List UInt8 × Tr) (v : Value) (z : List Value) (hz : z.length = (ks.length + 1) * 4) :
    splice (splice (splice z (0 * 4) ((kCs ks vs).take (p * 4))) ((p + 1) * 4) ((kCs ks vs).drop (p * 4))) (p * 4) (kC k v) = kCs (Tr.insAt p k ks) (Tr.insAt p v vs) := by
  have e1 := kCs_take hl p
  have e2 := kCs_drop hl hp
  have l1 : (kCs (ks.take p) (vs.take p)).length = p * 4 := by rw [kCs_len (by rw [List.length_take, List.length_take]; omega), List.length_take, Nat.min_eq_left hp]
  have l2 : (kCs (ks.drop p) (vs.drop p)).length = (ks.length - p) * 4 := by rw [kCs_len (by rw [List.length_drop, List.length_drop]; omega), List.length_drop]
  rw [e1, e2]
  have h := splice_ins (z := z) (A := kCs (ks.take p) (vs.take p)) (B := kCs (ks.drop p) (vs.drop p)) (N := kC k v) (by rw [l1, l2, kC_len]; omega)
  rw [l1, kC_len] at h
  rw [Nat.zero_mul, show (p + 1) * 4 = p * 4 + 4 by omega, h, Tr.insAt, Tr.insAt, kCs_app (by rw [List.length_take, List.length_take]; omega), kCs_cons, List.append_assoc]
theorem kCs_set {ks : List (List UInt8 × Tr)} {vs : List Value} (hl : vs.length = ks.length) {p : Nat} (hp : p < ks.length) (x : Tr) (v : Value) (z : List Value) (hz : z.length = ks.length * 4) :
    splice (splice (splice z (0 * 4) ((kCs ks vs).take (p * 4))) (p * 4) ((kCs ks vs).drop (p * 4))) (p * 4 + 1) [.bool x.dir, .string ⟨x.data.toArray⟩, v] = kCs (ks.set p (ks[p].1, x)) (vs.set p v) := by
  have l0 := kCs_len hl
  have l1 : ((kCs ks vs).take (p * 4)).length = p * 4 := by rw [List.length_take, l0]; omega
  have h := splice_all (z := z) (A := (kCs ks vs).take (p * 4)) (B := (kCs ks vs).drop (p * 4)) (by rw [l1, List.length_drop, l0]; omega)
  rw [l1] at h
  rw [Nat.zero_mul, h, List.take_append_drop]
  have hk : ks = ks.take p ++ ks[p] :: ks.drop (p + 1) := by rw [← List.drop_eq_getElem_cons hp, List.take_append_drop]
  have hv : vs = vs.take p ++ vs[p]'(by omega) :: vs.drop (p + 1) := by rw [← List.drop_eq_getElem_cons (by omega), List.take_append_drop]
  have lk : (ks.take p).length = p := by rw [List.length_take]; omega
  have lv : (vs.take p).length = p := by rw [List.length_take]; omega
  have e : kCs ks vs = (kCs (ks.take p) (vs.take p) ++ [.string ⟨ks[p].1.toArray⟩]) ++ ([.bool ks[p].2.dir, .string ⟨ks[p].2.data.toArray⟩, vs[p]'(by omega)] ++ kCs (ks.drop (p + 1)) (vs.drop (p + 1))) := by
    conv => lhs; rw [hk, hv, kCs_app (by rw [lk, lv]), kCs_cons]
    simp [kC]
  have l3 : (kCs (ks.take p) (vs.take p) ++ [Value.string ⟨ks[p].1.toArray⟩]).length = p * 4 + 1 := by
    rw [List.length_append, kCs_len (by rw [lk, lv]), lk]; rfl
  have hm := splice_mid (kCs (ks.take p) (vs.take p) ++ [Value.string ⟨ks[p].1.toArray⟩]) [.bool ks[p].2.dir, .string ⟨ks[p].2.data.toArray⟩, vs[p]'(by omega)] [.bool x.dir, .string ⟨x.data.toArray⟩, v] (kCs (ks.drop (p + 1)) (vs.drop (p + 1))) rfl
  rw [e, ← l3, hm]
  have hk2 : ks.set p (ks[p].1, x) = ks.take p ++ (ks[p].1, x) :: ks.drop (p + 1) := by rw [List.set_eq_take_append_cons_drop, if_pos hp]
  have hv2 : vs.set p v = vs.take p ++ v :: vs.drop (p + 1) := by rw [List.set_eq_take_append_cons_drop, if_pos (by omega)]
  rw [hk2, hv2, kCs_app (by rw [lk, lv]), kCs_cons]
  simp [kC]
theorem nd_bytes : zeroList Tryd.prog 67 = some (zkid, 4, 64) := by kernel_rfl
theorem sz_kid : (Tryd.prog.info? 67).map (·.size) = some 4 := by kernel_rfl

set_option maxRecDepth 100000 in
theorem with_bad {d : Bool} {dt : List UInt8} {kv : Value} {L : Nat} (h : d = false ∨ L = 0) {an : Option Addr} {cn : Nat} {xd : Bool} {xb : List UInt8} {l : List HProp} {w : World} (hE : Ent l w) :
    Calls Tryd.prog 56 #[.agg #[.bool d, .string ⟨dt.toArray⟩, kv], .slice an L cn, .agg #[.bool xd, .string ⟨xb.toArray⟩, .slice none 0 0]] w
      (Ret fun v w' => v = .tuple #[.agg #[.bool false, .string ⟨#[]⟩, .slice none 0 0], .int .i64 8] ∧ Ent l w') := by
  cases d with
  | false =>
    go_enter Tryd.func56, Tryd.ntmps56
    go_wp2_with (first
      | go_skip
      | ((with_reducible (show Go.wpList _ _ _ (Go.Oper.mk _ (.box _ (.tmp 0)) _ _ _ _ :: _) _ _)); ((with_reducible (show Go.wpList _ _ _ (Go.Oper.mk _ (.box _ _) _ _ _ _ :: _) _ _)); refine wpl_box hE rfl rfl rfl ?_; clear hE; intro b3 w hE; simp only [Act.eval, Act.put, List.setIfInBounds_toArray, List.set_cons_zero, List.set_cons_succ, getD_lit, List.getD_cons_succ, List.getD_cons_zero, Value.cells] at hE))
      | ((with_reducible (show Go.wpList _ _ _ (Go.Oper.mk _ (.box _ (.tmp 2)) _ _ _ _ :: _) _ _)); ((with_reducible (show Go.wpList _ _ _ (Go.Oper.mk _ (.box _ _) _ _ _ _ :: _) _ _)); refine wpl_box hE rfl rfl rfl ?_; clear hE; intro b5 w hE; simp only [Act.eval, Act.put, List.setIfInBounds_toArray, List.set_cons_zero, List.set_cons_succ, getD_lit, List.getD_cons_succ, List.getD_cons_zero, Value.cells] at hE))
      | ((with_reducible (show Go.wpList _ _ _ (Go.Oper.mk _ (.alloc _) _ _ _ _ :: _) _ _)); refine wpl_alloc hE rfl rfl (by simp [go_sem]; rfl) ?_; clear hE; intro b6 w hE; simp only [Act.eval, Act.put, List.setIfInBounds_toArray, List.set_cons_zero, List.set_cons_succ, getD_lit, List.getD_cons_succ, List.getD_cons_zero, Value.cells] at hE)
      | ((with_reducible (show Go.wpList _ _ _ (Go.Oper.mk _ (.load _ _) _ _ _ _ :: _) _ _)); (first | (refine wpl_load1 hE 0 rfl rfl rfl rfl (by simp [go_sem]) rfl ?_) | (refine wpl_load1 hE 1 rfl rfl rfl rfl (by simp [go_sem]) rfl ?_) | (refine wpl_load1 hE 2 rfl rfl rfl rfl (by simp [go_sem]) rfl ?_) | (refine wpl_load1 hE 3 rfl rfl rfl rfl (by simp [go_sem]) rfl ?_) | (refine wpl_load1 hE 4 rfl rfl rfl rfl (by simp [go_sem]) rfl ?_) | (refine wpl_load1 hE 5 rfl rfl rfl rfl (by simp [go_sem]) rfl ?_) | (refine wpl_load1 hE 6 rfl rfl rfl rfl (by simp [go_sem]) rfl ?_) | (refine wpl_load1 hE 7 rfl rfl rfl rfl (by simp [go_sem]) rfl ?_)))
      | ((with_reducible (show Go.wpList _ _ _ (Go.Oper.mk _ (.store 25 _ _) _ _ _ _ :: _) _ _)); (first | (refine wpl_storeW hE 0 rfl rfl rfl (xs := [.bool false, .string ⟨#[]⟩, .slice none 0 0]) rfl rfl Tryd.sizeOf25 rfl (by simp [Value.oneCell']) rfl ?_) | (refine wpl_storeW hE 1 rfl rfl rfl (xs := [.bool false, .string ⟨#[]⟩, .slice none 0 0]) rfl rfl Tryd.sizeOf25 rfl (by simp [Value.oneCell']) rfl ?_) | (refine wpl_storeW hE 2 rfl rfl rfl (xs := [.bool false, .string ⟨#[]⟩, .slice none 0 0]) rfl rfl Tryd.sizeOf25 rfl (by simp [Value.oneCell']) rfl ?_) | (refine wpl_storeW hE 3 rfl rfl rfl (xs := [.bool false, .string ⟨#[]⟩, .slice none 0 0]) rfl rfl Tryd.sizeOf25 rfl (by simp [Value.oneCell']) rfl ?_) | (refine wpl_storeW hE 4 rfl rfl rfl (xs := [.bool false, .string ⟨#[]⟩, .slice none 0 0]) rfl rfl Tryd.sizeOf25 rfl (by simp [Value.oneCell']) rfl ?_) | (refine wpl_storeW hE 5 rfl rfl rfl (xs := [.bool false, .string ⟨#[]⟩, .slice none 0 0]) rfl rfl Tryd.sizeOf25 rfl (by simp [Value.oneCell']) rfl ?_) | (refine wpl_storeW hE 6 rfl rfl rfl (xs := [.bool false, .string ⟨#[]⟩, .slice none 0 0]) rfl rfl Tryd.sizeOf25 rfl (by simp [Value.oneCell']) rfl ?_) | (refine wpl_storeW hE 7 rfl rfl rfl (xs := [.bool false, .string ⟨#[]⟩, .slice none 0 0]) rfl rfl Tryd.sizeOf25 rfl (by simp [Value.oneCell']) rfl ?_)); clear hE; intro w hE; simp only [List.set_cons_zero, List.set_cons_succ] at hE))
    refine bodyPost_ret (results_cell2 rfl hE 0 rfl rfl Tryd.isAgg25 Tryd.sizeOf25 rfl rfl) rfl ?_
    exact ⟨_, rfl, rfl, hE.tail.tail.tail⟩
  | true =>
    obtain rfl : L = 0 := by simpa using h
    go_enter Tryd.func56, Tryd.ntmps56
    go_wp2_with (first
      | go_skip
      | ((with_reducible (show Go.wpList _ _ _ (Go.Oper.mk _ (.box _ (.tmp 0)) _ _ _ _ :: _) _ _)); ((with_reducible (show Go.wpList _ _ _ (Go.Oper.mk _ (.box _ _) _ _ _ _ :: _) _ _)); refine wpl_box hE rfl rfl rfl ?_; clear hE; intro b3 w hE; simp only [Act.eval, Act.put, List.setIfInBounds_toArray, List.set_cons_zero, List.set_cons_succ, getD_lit, List.getD_cons_succ, List.getD_cons_zero, Value.cells] at hE))
      | ((with_reducible (show Go.wpList _ _ _ (Go.Oper.mk _ (.box _ (.tmp 2)) _ _ _ _ :: _) _ _)); ((with_reducible (show Go.wpList _ _ _ (Go.Oper.mk _ (.box _ _) _ _ _ _ :: _) _ _)); refine wpl_box hE rfl rfl rfl ?_; clear hE; intro b5 w hE; simp only [Act.eval, Act.put, List.setIfInBounds_toArray, List.set_cons_zero, List.set_cons_succ, getD_lit, List.getD_cons_succ, List.getD_cons_zero, Value.cells] at hE))
      | ((with_reducible (show Go.wpList _ _ _ (Go.Oper.mk _ (.alloc _) _ _ _ _ :: _) _ _)); refine wpl_alloc hE rfl rfl (by simp [go_sem]; rfl) ?_; clear hE; intro b6 w hE; simp only [Act.eval, Act.put, List.setIfInBounds_toArray, List.set_cons_zero, List.set_cons_succ, getD_lit, List.getD_cons_succ, List.getD_cons_zero, Value.cells] at hE)
      | ((with_reducible (show Go.wpList _ _ _ (Go.Oper.mk _ (.load _ _) _ _ _ _ :: _) _ _)); (first | (refine wpl_load1 hE 0 rfl rfl rfl rfl (by simp [go_sem]) rfl ?_) | (refine wpl_load1 hE 1 rfl rfl rfl rfl (by simp [go_sem]) rfl ?_) | (refine wpl_load1 hE 2 rfl rfl rfl rfl (by simp [go_sem]) rfl ?_) | (refine wpl_load1 hE 3 rfl rfl rfl rfl (by simp [go_sem]) rfl ?_) | (refine wpl_load1 hE 4 rfl rfl rfl rfl (by simp [go_sem]) rfl ?_) | (refine wpl_load1 hE 5 rfl rfl rfl rfl (by simp [go_sem]) rfl ?_) | (refine wpl_load1 hE 6 rfl rfl rfl rfl (by simp [go_sem]) rfl ?_) | (refine wpl_load1 hE 7 rfl rfl rfl rfl (by simp [go_sem]) rfl ?_)))
      | ((with_reducible (show Go.wpList _ _ _ (Go.Oper.mk _ (.store 25 _ _) _ _ _ _ :: _) _ _)); (first | (refine wpl_storeW hE 0 rfl rfl rfl (xs := [.bool false, .string ⟨#[]⟩, .slice none 0 0]) rfl rfl Tryd.sizeOf25 rfl (by simp [Value.oneCell']) rfl ?_) | (refine wpl_storeW hE 1 rfl rfl rfl (xs := [.bool false, .string ⟨#[]⟩, .slice none 0 0]) rfl rfl Tryd.sizeOf25 rfl (by simp [Value.oneCell']) rfl ?_) | (refine wpl_storeW hE 2 rfl rfl rfl (xs := [.bool false, .string ⟨#[]⟩, .slice none 0 0]) rfl rfl Tryd.sizeOf25 rfl (by simp [Value.oneCell']) rfl ?_) | (refine wpl_storeW hE 3 rfl rfl rfl (xs := [.bool false, .string ⟨#[]⟩, .slice none 0 0]) rfl rfl Tryd.sizeOf25 rfl (by simp [Value.oneCell']) rfl ?_) | (refine wpl_storeW hE 4 rfl rfl rfl (xs := [.bool false, .string ⟨#[]⟩, .slice none 0 0]) rfl rfl Tryd.sizeOf25 rfl (by simp [Value.oneCell']) rfl ?_) | (refine wpl_storeW hE 5 rfl rfl rfl (xs := [.bool false, .string ⟨#[]⟩, .slice none 0 0]) rfl rfl Tryd.sizeOf25 rfl (by simp [Value.oneCell']) rfl ?_) | (refine wpl_storeW hE 6 rfl rfl rfl (xs := [.bool false, .string ⟨#[]⟩, .slice none 0 0]) rfl rfl Tryd.sizeOf25 rfl (by simp [Value.oneCell']) rfl ?_) | (refine wpl_storeW hE 7 rfl rfl rfl (xs := [.bool false, .string ⟨#[]⟩, .slice none 0 0]) rfl rfl Tryd.sizeOf25 rfl (by simp [Value.oneCell']) rfl ?_)); clear hE; intro w hE; simp only [List.set_cons_zero, List.set_cons_succ] at hE))
    refine bodyPost_ret (results_cell2 rfl hE 0 rfl rfl Tryd.isAgg25 Tryd.sizeOf25 rfl rfl) rfl ?_
    exact ⟨_, rfl, rfl, hE.tail.tail.tail⟩

set_option maxRecDepth 100000 in
set_option maxHeartbeats 8000000 in
attribute [-go_sem] Instr.loadAt in
theorem with_last {dt : List UInt8} {ks : List (List UInt8 × Tr)} {kv : Value} {pre lb : List HProp} (hkv : KidsAt lb kv ks) (hr : Rising (ks.map Prod.fst)) (h6 : ks.length ≤ 6) {n : List UInt8} {an : Option Addr} {cn : Nat} {xd : Bool} {xb : List UInt8} (hx : xb.length ≤ 1000000)
    (hn : Knows (pre ++ lb) (reads (.slice an 1 cn) 1 [strv n])) {w : World} (hE : Ent (pre ++ lb) w) :
    Calls Tryd.prog 56 #[.agg #[.bool true, .string ⟨dt.toArray⟩, kv], .slice an 1 cn, .agg #[.bool xd, .string ⟨xb.toArray⟩, .slice none 0 0]] w
      (Ret fun v w' => ∃ m kv', v = .tuple #[nodeV (Tr.withT [n] xd xb (.nd true dt ks)).2 kv', .int .i64 (Tr.withT [n] xd xb (.nd true dt ks)).1] ∧ Ent (pre ++ (m ++ lb)) w' ∧ KidsAt (m ++ lb) kv' (Tr.withT [n] xd xb (.nd true dt ks)).2.kids) := by
  have HT := SL.hid (show Tr.withT [n] xd xb (.nd true dt ks) = if !isIn (ks.map Prod.fst) n then (if 6 < ks.length + 1 ∨ 8192 < xb.length then (6, .zero) else (0, .nd true [] (Tr.insAt (placeOf (ks.map Prod.fst) n) (n, .leafOf xd xb) ks))) else (8, .zero) from by rw [Tr.withT]; rfl)
  have hp := (find_at hr n).2.1
  rw [List.length_map] at hp
  obtain ⟨ao, c, vs, rfl, hc, hl, hkn, hks, hone⟩ := hkv.open
  obtain ⟨bn, on, rfl, hz⟩ := reads_form (hn _ hE) (by omega) (by simp)
  clear hz
  have hNm := SL.hid (show ∀ W, Ent (pre ++ lb) W → W.cell? ⟨bn, on, none⟩ = some (.string ⟨n.toArray⟩) from fun W hW => by
    obtain ⟨b', o', e, h⟩ := reads_form (hn _ hW) (by omega) (by simp)
    cases e
    exact h 0 _ rfl)
  have hF := SL.hid (show ∀ (L : List HProp), (pre ++ lb) <:+ L → ∀ w, Ent L w → Calls Tryd.prog 59 #[.slice ao ks.length c, .string ⟨n.toArray⟩, .func (.func 60) #[] #[]] w
      (Ret fun r w' => r = .tuple #[.int .i64 (placeOf (ks.map Prod.fst) n), .bool (isIn (ks.map Prod.fst) n)] ∧ Ent L w') from fun L hL w hw => find_any (hkv.suf ((List.suffix_append pre lb).trans hL)) hr (by omega) n hw)
  have Hkn := SL.hid (show Knows (pre ++ lb) (reads (.slice ao ks.length c) ks.length (kCs ks vs)) from hkn.append)
  have Hlen := SL.hid (kCs_len hl)
  have Hone := SL.hid hone
  have Hins := SL.hid (fun z hz => kCs_ins (vs := vs) hl hp (n, .leafOf xd xb) (.slice none 0 0) z hz)
  have Hkk := SL.hid (ins_kids hl hks hp (n := n) (x := .leafOf xd xb) (KidsAt.nil lb))
  have Hil := SL.hid (Tr.insAt_len (x := (n, Tr.leafOf xd xb)) hp)
  have Hvl := SL.hid (Tr.insAt_len (x := Value.slice none 0 0) (l := vs) (i := placeOf (ks.map Prod.fst) n) (by omega))
  have Hl := SL.hid hl
  clear hn hkv hr hkn hone hl hks
  generalize placeOf (ks.map Prod.fst) n = p at *
  generalize isIn (ks.map Prod.fst) n = is at *
  cases is with
  | true =>
    rw [if_neg (by simp)] at HT
    rw [HT.out]
    as_aux_lemma =>
    go_enter Tryd.func56, Tryd.ntmps56
    go_wp2_with (first
      | go_skip
      | ((with_reducible (show Go.wpList _ _ _ (Go.Oper.mk _ (.box _ (.tmp 0)) _ _ _ _ :: _) _ _)); ((with_reducible (show Go.wpList _ _ _ (Go.Oper.mk _ (.box _ _) _ _ _ _ :: _) _ _)); refine wpl_box hE rfl rfl rfl ?_; clear hE; intro b3 w hE; simp only [Act.eval, Act.put, List.setIfInBounds_toArray, List.set_cons_zero, List.set_cons_succ, getD_lit, List.getD_cons_succ, List.getD_cons_zero, Value.cells] at hE))
      | ((with_reducible (show Go.wpList _ _ _ (Go.Oper.mk _ (.box _ (.tmp 2)) _ _ _ _ :: _) _ _)); ((with_reducible (show Go.wpList _ _ _ (Go.Oper.mk _ (.box _ _) _ _ _ _ :: _) _ _)); refine wpl_box hE rfl rfl rfl ?_; clear hE; intro b5 w hE; simp only [Act.eval, Act.put, List.setIfInBounds_toArray, List.set_cons_zero, List.set_cons_succ, getD_lit, List.getD_cons_succ, List.getD_cons_zero, Value.cells] at hE))
      | ((with_reducible (show Go.wpList _ _ _ (Go.Oper.mk _ (.alloc _) _ _ _ _ :: _) _ _)); refine wpl_alloc hE rfl rfl (by simp [go_sem]; rfl) ?_; clear hE; intro b6 w hE; simp only [Act.eval, Act.put, List.setIfInBounds_toArray, List.set_cons_zero, List.set_cons_succ, getD_lit, List.getD_cons_succ, List.getD_cons_zero, Value.cells] at hE)
      | ((with_reducible (show Go.wpList _ _ _ (Go.Oper.mk _ (.load _ _) _ _ _ _ :: _) _ _)); (first | (refine wpl_load1 hE 0 rfl rfl rfl rfl (by simp [go_sem]) rfl ?_) | (refine wpl_load1 hE 1 rfl rfl rfl rfl (by simp [go_sem]) rfl ?_) | (refine wpl_load1 hE 2 rfl rfl rfl rfl (by simp [go_sem]) rfl ?_) | (refine wpl_load1 hE 3 rfl rfl rfl rfl (by simp [go_sem]) rfl ?_) | (refine wpl_load1 hE 4 rfl rfl rfl rfl (by simp [go_sem]) rfl ?_) | (refine wpl_load1 hE 5 rfl rfl rfl rfl (by simp [go_sem]) rfl ?_) | (refine wpl_load1 hE 6 rfl rfl rfl rfl (by simp [go_sem]) rfl ?_) | (refine wpl_load1 hE 7 rfl rfl rfl rfl (by simp [go_sem]) rfl ?_))))
    refine wp_region_held_drew (S := (fun w' => ((Instr.loadAt 23 (.pointer (some ⟨b3, 2, none⟩))).run Tryd.prog w' = .ok (.slice ao ks.length c) w') ∧ ((Instr.loadAt 9 (.pointer (some ⟨bn, on, none⟩))).run Tryd.prog w' = .ok (.string ⟨n.toArray⟩) w'))) (by kernel_rfl) ⟨(atVm hE.drew (by repeat (first | exact List.Mem.head _ | refine List.Mem.tail _ ?_)) (by simp [go_sem]) rfl), (atCell (hNm.out _ (hE.drew.suf (by repeat (first | exact List.suffix_refl _ | refine List.IsSuffix.trans ?_ (List.suffix_cons _ _) | refine List.IsSuffix.trans ?_ (List.suffix_append _ _))))) (by simp [go_sem]))⟩ (fun hS => ?_)
    refine tV 0 ⟨some 25, .fieldAddr 25 (.tmp 3) 2, _, _, _, none⟩ hS ?_
    refine tL 1 ⟨some 26, .load 23 (.tmp 25), _, _, _, none⟩ hS ?_
    refine tV 2 ⟨some 27, .move (.tmp 1), _, _, _, none⟩ hS ?_
    refine tV 3 ⟨some 28, .indexAddr 75 (.tmp 27) (.const (.int .i64 0)), _, _, _, none⟩ hS ?_
    refine tL 4 ⟨some 29, .load 9 (.tmp 28), _, _, _, none⟩ hS ?_
    refine wpAnyH_ready (rs := [5]) (by kernel_rfl) (by simp) ?_
    refine (AllReadyH.cons (o := ⟨some 30, .call { callee := .value (.func 59), args := #[.tmp 26, .tmp 29, .func 60], argTypes := #[23, 9, 109] }, _, _, _, none⟩) rfl (fun K hK => ?_) AllReadyH.nil)
    (go_simp; refine (hF.out _ (by repeat (first | exact List.suffix_refl _ | refine List.IsSuffix.trans ?_ (List.suffix_cons _ _) | refine List.IsSuffix.trans ?_ (List.suffix_append _ _))) _ hE.drew).mono ?_; rintro e w3 ⟨v, rfl, rfl, hE3⟩)
    refine hK.out _ _ ⟨(atVm hE3 (by repeat (first | exact List.Mem.head _ | refine List.Mem.tail _ ?_)) (by simp [go_sem]) rfl), (atCell (hNm.out _ (hE3.suf (by repeat (first | exact List.suffix_refl _ | refine List.IsSuffix.trans ?_ (List.suffix_cons _ _) | refine List.IsSuffix.trans ?_ (List.suffix_append _ _))))) (by simp [go_sem]))⟩ (fun hS => ?_)
    clear hK K
    try simp only [Act.put, sb, s0, sz]
    refine tV 6 ⟨some 24, .move (.tmp 30), _, _, _, none⟩ hS ?_
    refine tV 7 ⟨some 31, .extract (.tmp 24) 0, _, _, _, none⟩ hS ?_
    refine tV 8 ⟨some 32, .extract (.tmp 24) 1, _, _, _, none⟩ hS ?_
    refine tV 9 ⟨some 8, .assign (.tmp 31), _, _, _, none⟩ hS ?_
    refine tV 10 ⟨some 9, .assign (.tmp 32), _, _, _, none⟩ hS ?_
    refine wpAnyH_done (by kernel_rfl) ?_ _
    clear hE hS
    have hE := hE3
    clear hE3
    go_wp2_with (first
      | go_skip
      | ((with_reducible (show Go.wpList _ _ _ (Go.Oper.mk _ (.load _ _) _ _ _ _ :: _) _ _)); (first | (refine wpl_load1 hE 0 rfl rfl rfl rfl (by simp [go_sem]) rfl ?_) | (refine wpl_load1 hE 1 rfl rfl rfl rfl (by simp [go_sem]) rfl ?_) | (refine wpl_load1 hE 2 rfl rfl rfl rfl (by simp [go_sem]) rfl ?_) | (refine wpl_load1 hE 3 rfl rfl rfl rfl (by simp [go_sem]) rfl ?_) | (refine wpl_load1 hE 4 rfl rfl rfl rfl (by simp [go_sem]) rfl ?_) | (refine wpl_load1 hE 5 rfl rfl rfl rfl (by simp [go_sem]) rfl ?_) | (refine wpl_load1 hE 6 rfl rfl rfl rfl (by simp [go_sem]) rfl ?_) | (refine wpl_load1 hE 7 rfl rfl rfl rfl (by simp [go_sem]) rfl ?_)))
      | ((with_reducible (show Go.wpList _ _ _ (Go.Oper.mk _ (.store 25 _ _) _ _ _ _ :: _) _ _)); (first | (refine wpl_storeW hE 0 rfl rfl rfl (xs := [.bool false, .string ⟨#[]⟩, .slice none 0 0]) rfl rfl Tryd.sizeOf25 rfl (by simp [Value.oneCell']) rfl ?_) | (refine wpl_storeW hE 1 rfl rfl rfl (xs := [.bool false, .string ⟨#[]⟩, .slice none 0 0]) rfl rfl Tryd.sizeOf25 rfl (by simp [Value.oneCell']) rfl ?_) | (refine wpl_storeW hE 2 rfl rfl rfl (xs := [.bool false, .string ⟨#[]⟩, .slice none 0 0]) rfl rfl Tryd.sizeOf25 rfl (by simp [Value.oneCell']) rfl ?_) | (refine wpl_storeW hE 3 rfl rfl rfl (xs := [.bool false, .string ⟨#[]⟩, .slice none 0 0]) rfl rfl Tryd.sizeOf25 rfl (by simp [Value.oneCell']) rfl ?_) | (refine wpl_storeW hE 4 rfl rfl rfl (xs := [.bool false, .string ⟨#[]⟩, .slice none 0 0]) rfl rfl Tryd.sizeOf25 rfl (by simp [Value.oneCell']) rfl ?_) | (refine wpl_storeW hE 5 rfl rfl rfl (xs := [.bool false, .string ⟨#[]⟩, .slice none 0 0]) rfl rfl Tryd.sizeOf25 rfl (by simp [Value.oneCell']) rfl ?_) | (refine wpl_storeW hE 6 rfl rfl rfl (xs := [.bool false, .string ⟨#[]⟩, .slice none 0 0]) rfl rfl Tryd.sizeOf25 rfl (by simp [Value.oneCell']) rfl ?_) | (refine wpl_storeW hE 7 rfl rfl rfl (xs := [.bool false, .string ⟨#[]⟩, .slice none 0 0]) rfl rfl Tryd.sizeOf25 rfl (by simp [Value.oneCell']) rfl ?_)); clear hE; intro w hE; simp only [List.set_cons_zero, List.set_cons_succ] at hE))
    refine bodyPost_ret (results_cell2 rfl hE 0 rfl rfl Tryd.isAgg25 Tryd.sizeOf25 rfl rfl) rfl ?_
    exact ⟨_, rfl, [], .slice none 0 0, rfl, hE.tail.tail.tail, KidsAt.nil _⟩
  | false =>
    rw [if_pos (by simp)] at HT
    have h0p : (0 : Int) ≤ (p : Int) + 1 := by omega
    have hwp : IntKind.i64.wrap ((p : Int) + 1) = (p : Int) + 1 := wrap_id (by omega)
    have hs1 : ∀ w, (Instr.sliceAt 23 (.slice ao ks.length c) none (some (.int .i64 p)) none).run Tryd.prog w = .ok (.slice ao p c) w := fun w => by
      rw [sliceAt_slice Tryd.underlying23, run_cut_hi Tryd.underlying23 Tryd.sizeOf67 ao _ c .i64 p (by omega), cut_zero]; rfl
    have hs2 : ∀ w, (Instr.sliceAt 23 (.slice ao ks.length c) (some (.int .i64 p)) none none).run Tryd.prog w = .ok (.slice (cutAt 4 ao c p) (ks.length - p) (c - p)) w := fun w => by
      rw [sliceAt_slice Tryd.underlying23, run_cut_lo Tryd.underlying23 Tryd.sizeOf67 ao _ c .i64 p (by omega)]
    have hs3 : ∀ g w, (Instr.sliceAt 23 (.slice (some ⟨g, 0, none⟩) (ks.length + 1) (ks.length + 1)) (some (.int .i64 ((p : Int) + 1))) none none).run Tryd.prog w = .ok (.slice (cutAt 4 (some ⟨g, 0, none⟩) (ks.length + 1) (p + 1)) (ks.length - p) (ks.length - p)) w := fun g w => by
      rw [sliceAt_slice Tryd.underlying23, show (p : Int) + 1 = ((p + 1 : Nat) : Int) from rfl, run_cut_lo Tryd.underlying23 Tryd.sizeOf67 _ _ (ks.length + 1) .i64 (p + 1) (by omega), Nat.add_sub_add_right]
    have hpN : (p : Int) < (ks.length : Int) + 1 := by omega
    have hpN2 : p < ks.length + 1 := by omega
    have HpN := SL.hid (show p ≤ ks.length ∧ ks.length ≤ c ∧ ks.length ≤ 6 from by omega)
    have Hc1 := SL.hid (show (6 < ks.length + 1 ∨ 8192 < xb.length) ↔ ((decide ((6 : Int) < (ks.length : Int) + 1) || decide ((8192 : Int) < (xb.length : Int))) = true) from by
      rw [Bool.or_eq_true, decide_eq_true_eq, decide_eq_true_eq]; omega)
    clear hc
    as_aux_lemma =>
    go_enter Tryd.func56, Tryd.ntmps56
    go_wp2_with (first
      | go_skip
      | ((with_reducible (show Go.wpList _ _ _ (Go.Oper.mk _ (.box _ (.tmp 0)) _ _ _ _ :: _) _ _)); ((with_reducible (show Go.wpList _ _ _ (Go.Oper.mk _ (.box _ _) _ _ _ _ :: _) _ _)); refine wpl_box hE rfl rfl rfl ?_; clear hE; intro b3 w hE; simp only [Act.eval, Act.put, List.setIfInBounds_toArray, List.set_cons_zero, List.set_cons_succ, getD_lit, List.getD_cons_succ, List.getD_cons_zero, Value.cells] at hE))
      | ((with_reducible (show Go.wpList _ _ _ (Go.Oper.mk _ (.box _ (.tmp 2)) _ _ _ _ :: _) _ _)); ((with_reducible (show Go.wpList _ _ _ (Go.Oper.mk _ (.box _ _) _ _ _ _ :: _) _ _)); refine wpl_box hE rfl rfl rfl ?_; clear hE; intro b5 w hE; simp only [Act.eval, Act.put, List.setIfInBounds_toArray, List.set_cons_zero, List.set_cons_succ, getD_lit, List.getD_cons_succ, List.getD_cons_zero, Value.cells] at hE))
      | ((with_reducible (show Go.wpList _ _ _ (Go.Oper.mk _ (.alloc _) _ _ _ _ :: _) _ _)); refine wpl_alloc hE rfl rfl (by simp [go_sem]; rfl) ?_; clear hE; intro b6 w hE; simp only [Act.eval, Act.put, List.setIfInBounds_toArray, List.set_cons_zero, List.set_cons_succ, getD_lit, List.getD_cons_succ, List.getD_cons_zero, Value.cells] at hE)
      | ((with_reducible (show Go.wpList _ _ _ (Go.Oper.mk _ (.load _ _) _ _ _ _ :: _) _ _)); (first | (refine wpl_load1 hE 0 rfl rfl rfl rfl (by simp [go_sem]) rfl ?_) | (refine wpl_load1 hE 1 rfl rfl rfl rfl (by simp [go_sem]) rfl ?_) | (refine wpl_load1 hE 2 rfl rfl rfl rfl (by simp [go_sem]) rfl ?_) | (refine wpl_load1 hE 3 rfl rfl rfl rfl (by simp [go_sem]) rfl ?_) | (refine wpl_load1 hE 4 rfl rfl rfl rfl (by simp [go_sem]) rfl ?_) | (refine wpl_load1 hE 5 rfl rfl rfl rfl (by simp [go_sem]) rfl ?_) | (refine wpl_load1 hE 6 rfl rfl rfl rfl (by simp [go_sem]) rfl ?_) | (refine wpl_load1 hE 7 rfl rfl rfl rfl (by simp [go_sem]) rfl ?_))))
    refine wp_region_held_drew (S := (fun w' => ((Instr.loadAt 23 (.pointer (some ⟨b3, 2, none⟩))).run Tryd.prog w' = .ok (.slice ao ks.length c) w') ∧ ((Instr.loadAt 9 (.pointer (some ⟨bn, on, none⟩))).run Tryd.prog w' = .ok (.string ⟨n.toArray⟩) w'))) (by kernel_rfl) ⟨(atVm hE.drew (by repeat (first | exact List.Mem.head _ | refine List.Mem.tail _ ?_)) (by simp [go_sem]) rfl), (atCell (hNm.out _ (hE.drew.suf (by repeat (first | exact List.suffix_refl _ | refine List.IsSuffix.trans ?_ (List.suffix_cons _ _) | refine List.IsSuffix.trans ?_ (List.suffix_append _ _))))) (by simp [go_sem]))⟩ (fun hS => ?_)
    refine tV 0 ⟨some 25, .fieldAddr 25 (.tmp 3) 2, _, _, _, none⟩ hS ?_
    refine tL 1 ⟨some 26, .load 23 (.tmp 25), _, _, _, none⟩ hS ?_
    refine tV 2 ⟨some 27, .move (.tmp 1), _, _, _, none⟩ hS ?_
    refine tV 3 ⟨some 28, .indexAddr 75 (.tmp 27) (.const (.int .i64 0)), _, _, _, none⟩ hS ?_
    refine tL 4 ⟨some 29, .load 9 (.tmp 28), _, _, _, none⟩ hS ?_
    refine wpAnyH_ready (rs := [5]) (by kernel_rfl) (by simp) ?_
    refine (AllReadyH.cons (o := ⟨some 30, .call { callee := .value (.func 59), args := #[.tmp 26, .tmp 29, .func 60], argTypes := #[23, 9, 109] }, _, _, _, none⟩) rfl (fun K hK => ?_) AllReadyH.nil)
    (go_simp; refine (hF.out _ (by repeat (first | exact List.suffix_refl _ | refine List.IsSuffix.trans ?_ (List.suffix_cons _ _) | refine List.IsSuffix.trans ?_ (List.suffix_append _ _))) _ hE.drew).mono ?_; rintro e w3 ⟨v, rfl, rfl, hE3⟩)
    refine hK.out _ _ ⟨(atVm hE3 (by repeat (first | exact List.Mem.head _ | refine List.Mem.tail _ ?_)) (by simp [go_sem]) rfl), (atCell (hNm.out _ (hE3.suf (by repeat (first | exact List.suffix_refl _ | refine List.IsSuffix.trans ?_ (List.suffix_cons _ _) | refine List.IsSuffix.trans ?_ (List.suffix_append _ _))))) (by simp [go_sem]))⟩ (fun hS => ?_)
    clear hK K
    try simp only [Act.put, sb, s0, sz]
    refine tV 6 ⟨some 24, .move (.tmp 30), _, _, _, none⟩ hS ?_
    refine tV 7 ⟨some 31, .extract (.tmp 24) 0, _, _, _, none⟩ hS ?_
    refine tV 8 ⟨some 32, .extract (.tmp 24) 1, _, _, _, none⟩ hS ?_
    refine tV 9 ⟨some 8, .assign (.tmp 31), _, _, _, none⟩ hS ?_
    refine tV 10 ⟨some 9, .assign (.tmp 32), _, _, _, none⟩ hS ?_
    refine wpAnyH_done (by kernel_rfl) ?_ _
    clear hE hS
    have hE := hE3
    clear hE3
    go_wp2_with (first
      | go_skip
      | ((with_reducible (show Go.wpList _ _ _ (Go.Oper.mk _ (.load _ _) _ _ _ _ :: _) _ _)); (first | (refine wpl_load1 hE 0 rfl rfl rfl rfl (by simp [go_sem]) rfl ?_) | (refine wpl_load1 hE 1 rfl rfl rfl rfl (by simp [go_sem]) rfl ?_) | (refine wpl_load1 hE 2 rfl rfl rfl rfl (by simp [go_sem]) rfl ?_) | (refine wpl_load1 hE 3 rfl rfl rfl rfl (by simp [go_sem]) rfl ?_) | (refine wpl_load1 hE 4 rfl rfl rfl rfl (by simp [go_sem]) rfl ?_) | (refine wpl_load1 hE 5 rfl rfl rfl rfl (by simp [go_sem]) rfl ?_) | (refine wpl_load1 hE 6 rfl rfl rfl rfl (by simp [go_sem]) rfl ?_) | (refine wpl_load1 hE 7 rfl rfl rfl rfl (by simp [go_sem]) rfl ?_)))
      | ((with_reducible (show Go.wpList _ _ _ (Go.Oper.mk _ (.makeSlice _ _ _) _ _ _ _ :: _) _ _)); refine wpl_make hE rfl rfl Tryd.underlying23 nd_bytes rfl (by decide) (ks.length + 1) rfl rfl (by have := HpN.out; omega) (by have := HpN.out; omega) ?_; clear hE; intro g w4 hE)
      | ((with_reducible (show Go.wpList _ _ _ (Go.Oper.mk _ (.call { callee := .builtin .copy, args := _, argTypes := _ }) _ _ _ _ :: _) _ _)); refine wpl_copyK (size := 4) (j := 0) (dLen := ks.length + 1) (dCap := ks.length + 1) hE 0 rfl rfl rfl (by rw [cut_zero]; rfl) rfl Tryd.underlying23 sz_kid (m := p) (ys := (kCs ks vs).take (p * 4)) (reads_first (Hkn.out _ (hE.suf (by repeat (first | exact List.suffix_refl _ | refine List.IsSuffix.trans ?_ (List.suffix_cons _ _) | refine List.IsSuffix.trans ?_ (List.suffix_append _ _))))) HpN.out.1) (by rw [List.length_take, Hlen.out]; have := HpN.out; omega) (fun u hu => Hone.out u (List.mem_of_mem_take hu)) (by have := HpN.out; omega) (by have := HpN.out; omega) ?_; clear hE; intro w5 hE; simp only [List.set_cons_zero] at hE))
    have hs4 := hs3 g
    clear hs3 hs1
    refine wp_region_held_drew (S := (fun w' => ((Instr.loadAt 23 (.pointer (some ⟨b3, 2, none⟩))).run Tryd.prog w' = .ok (.slice ao ks.length c) w'))) (by kernel_rfl) (atVm hE.drew (by repeat (first | exact List.Mem.head _ | refine List.Mem.tail _ ?_)) (by simp [go_sem]) rfl) (fun hS => ?_)
    refine tV 0 ⟨some 55, .move (.tmp 12), _, _, _, none⟩ hS ?_
    refine tV 1 ⟨some 56, .move (.tmp 8), _, _, _, none⟩ hS ?_
    refine tV 2 ⟨some 57, .binOp .add 3 (.tmp 56) (.const (.int .i64 1)) 3, _, _, _, none⟩ hS ?_
    refine tV 3 ⟨some 58, .slice 23 (.tmp 55) (some (.tmp 57)) none none, _, _, _, none⟩ hS ?_
    refine tV 4 ⟨some 59, .fieldAddr 25 (.tmp 3) 2, _, _, _, none⟩ hS ?_
    refine tL 5 ⟨some 60, .load 23 (.tmp 59), _, _, _, none⟩ hS ?_
    refine tV 6 ⟨some 61, .move (.tmp 8), _, _, _, none⟩ hS ?_
    refine tV 7 ⟨some 62, .slice 23 (.tmp 60) (some (.tmp 61)) none none, _, _, _, none⟩ hS ?_
    refine wpAnyH_ready (rs := [8]) (by kernel_rfl) (by simp) ?_
    refine (AllReadyH.cons (o := ⟨some 63, .call { callee := .builtin .copy, args := #[.tmp 58, .tmp 62], argTypes := #[23, 23] }, _, _, _, none⟩) rfl (fun K hK => ?_) AllReadyH.nil)
    (refine step_copyK (size := 4) (j := p + 1) (dLen := ks.length - p) (dCap := ks.length - p) hE.drew 0 rfl rfl (by rfl) (by rfl) (by rfl) Tryd.underlying23 sz_kid (m := ks.length - p) (ys := (kCs ks vs).drop (p * 4)) (reads_behind (Hkn.out _ (hE.drew.suf (by repeat (first | exact List.suffix_refl _ | refine List.IsSuffix.trans ?_ (List.suffix_cons _ _) | refine List.IsSuffix.trans ?_ (List.suffix_append _ _))))) Hlen.out HpN.out.2.1 HpN.out.1) (by rw [List.length_drop, Hlen.out, Nat.sub_mul]) (fun u hu => Hone.out u (List.mem_of_mem_drop hu)) (by have := HpN.out; omega) (by have := HpN.out; omega) ?_; intro w6 hE6; simp only [List.set_cons_zero] at hE6)
    refine hK.out _ _ (atVm hE6 (by repeat (first | exact List.Mem.head _ | refine List.Mem.tail _ ?_)) (by simp [go_sem]) rfl) (fun hS => ?_)
    clear hK K
    try simp only [Act.put, sb, s0, sz]
    refine wpAnyH_done (by kernel_rfl) ?_ _
    clear hE hS hs2 hs4
    have hE := hE6
    clear hE6
    go_wp2_with (first | go_skip)
    refine wp_region_held_drew (S := (fun w' => ((Instr.loadAt 9 (.pointer (some ⟨bn, on, none⟩))).run Tryd.prog w' = .ok (.string ⟨n.toArray⟩) w') ∧ ((Instr.loadAt 25 (.pointer (some ⟨b5, 0, none⟩))).run Tryd.prog w' = .ok (.agg #[.bool xd, .string ⟨xb.toArray⟩, .slice none 0 0]) w'))) (by kernel_rfl) ⟨(atCell (hNm.out _ (hE.drew.suf (by repeat (first | exact List.suffix_refl _ | refine List.IsSuffix.trans ?_ (List.suffix_cons _ _) | refine List.IsSuffix.trans ?_ (List.suffix_append _ _))))) (by simp [go_sem])), (atWm (vs := [.bool xd, .string ⟨xb.toArray⟩, .slice none 0 0]) hE.drew (by repeat (first | exact List.Mem.head _ | refine List.Mem.tail _ ?_)) Tryd.isAgg25 Tryd.sizeOf25 rfl)⟩ (fun hS => ?_)
    refine tV 0 ⟨some 64, .move (.tmp 12), _, _, _, none⟩ hS ?_
    refine tV 1 ⟨some 65, .move (.tmp 8), _, _, _, none⟩ hS ?_
    refine tV 2 ⟨some 66, .move (.tmp 1), _, _, _, none⟩ hS ?_
    refine tV 3 ⟨some 67, .indexAddr 75 (.tmp 66) (.const (.int .i64 0)), _, _, _, none⟩ hS ?_
    refine tL 4 ⟨some 68, .load 9 (.tmp 67), _, _, _, none⟩ hS ?_
    refine tL 5 ⟨some 69, .load 25 (.tmp 5), _, _, _, none⟩ hS ?_
    refine tV 6 ⟨some 70, .build 67 #[(0, .tmp 68), (1, .tmp 69)], _, _, _, none⟩ hS ?_
    refine tV 7 ⟨some 71, .indexAddr 23 (.tmp 64) (.tmp 65), _, _, _, none⟩ hS ?_
    refine wpAnyH_ready (rs := [8]) (by kernel_rfl) (by simp) ?_
    refine (AllReadyH.cons (o := ⟨none, .store 67 (.tmp 71) (.tmp 70), _, _, _, none⟩) rfl (fun K hK => ?_) AllReadyH.nil)
    (refine step_storeRow hE.drew 0 (kC (n, .leafOf xd xb) (.slice none 0 0)) rfl rfl (by rfl) (by rfl) (by rfl) Tryd.sizeOf67 rfl (by simp [kC, Value.oneCell']) (off := p * 4) (by have := HpN.out; omega) ?_; intro w7 hE7; simp only [List.set_cons_zero] at hE7)
    refine hK.out _ _ ⟨(atCell (hNm.out _ (hE7.suf (by repeat (first | exact List.suffix_refl _ | refine List.IsSuffix.trans ?_ (List.suffix_cons _ _) | refine List.IsSuffix.trans ?_ (List.suffix_append _ _))))) (by simp [go_sem])), (atWm (vs := [.bool xd, .string ⟨xb.toArray⟩, .slice none 0 0]) hE7 (by repeat (first | exact List.Mem.head _ | refine List.Mem.tail _ ?_)) Tryd.isAgg25 Tryd.sizeOf25 rfl)⟩ (fun hS => ?_)
    clear hK K
    try simp only [Act.put, sb, s0, sz]
    refine wpAnyH_done (by kernel_rfl) ?_ _
    clear hE hS
    have hE := hE7
    clear hE7
    have hZ := Hins.out (List.replicate (ks.length + 1) zkid).flatten (zkids_len _)
    rw [hZ] at hE
    cases c1 : decide ((6 : Int) < (ks.length : Int) + 1) <;> cases c2 : decide ((8192 : Int) < (xb.length : Int))
    all_goals rw [c1, c2] at Hc1
    rotate_left
    all_goals try (
      rw [if_pos (Hc1.out.2 (by rfl))] at HT
      go_wp2_with (first
        | go_skip
        | ((with_reducible (show Go.wpList _ _ _ (Go.Oper.mk _ (.load _ _) _ _ _ _ :: _) _ _)); (first | (refine wpl_load1 hE 0 rfl rfl rfl rfl (by simp [go_sem]) rfl ?_) | (refine wpl_load1 hE 1 rfl rfl rfl rfl (by simp [go_sem]) rfl ?_) | (refine wpl_load1 hE 2 rfl rfl rfl rfl (by simp [go_sem]) rfl ?_) | (refine wpl_load1 hE 3 rfl rfl rfl rfl (by simp [go_sem]) rfl ?_) | (refine wpl_load1 hE 4 rfl rfl rfl rfl (by simp [go_sem]) rfl ?_) | (refine wpl_load1 hE 5 rfl rfl rfl rfl (by simp [go_sem]) rfl ?_) | (refine wpl_load1 hE 6 rfl rfl rfl rfl (by simp [go_sem]) rfl ?_) | (refine wpl_load1 hE 7 rfl rfl rfl rfl (by simp [go_sem]) rfl ?_)))
        | ((with_reducible (show Go.wpList _ _ _ (Go.Oper.mk _ (.store 25 _ _) _ _ _ _ :: _) _ _)); refine wpl_storeW hE 1 rfl rfl rfl (xs := [.bool false, .string ⟨#[]⟩, .slice none 0 0]) rfl rfl Tryd.sizeOf25 rfl (by simp [Value.oneCell']) rfl ?_; clear hE; intro w8 hE; simp only [List.set_cons_zero, List.set_cons_succ] at hE))
      refine bodyPost_ret (results_cell2 rfl hE 1 rfl rfl Tryd.isAgg25 Tryd.sizeOf25 rfl rfl) rfl ?_
      rw [HT.out]
      exact ⟨_, rfl, [], .slice none 0 0, rfl, hE.tail.tail.tail.tail, KidsAt.nil _⟩)
    rw [if_neg (fun h => absurd (Hc1.out.1 h) (by decide))] at HT
    go_wp2_with (first
      | go_skip
      | ((with_reducible (show Go.wpList _ _ _ (Go.Oper.mk _ (.load _ _) _ _ _ _ :: _) _ _)); (first | (refine wpl_load1 hE 0 rfl rfl rfl rfl (by simp [go_sem]) rfl ?_) | (refine wpl_load1 hE 1 rfl rfl rfl rfl (by simp [go_sem]) rfl ?_) | (refine wpl_load1 hE 2 rfl rfl rfl rfl (by simp [go_sem]) rfl ?_) | (refine wpl_load1 hE 3 rfl rfl rfl rfl (by simp [go_sem]) rfl ?_) | (refine wpl_load1 hE 4 rfl rfl rfl rfl (by simp [go_sem]) rfl ?_) | (refine wpl_load1 hE 5 rfl rfl rfl rfl (by simp [go_sem]) rfl ?_) | (refine wpl_load1 hE 6 rfl rfl rfl rfl (by simp [go_sem]) rfl ?_) | (refine wpl_load1 hE 7 rfl rfl rfl rfl (by simp [go_sem]) rfl ?_)))
      | ((with_reducible (show Go.wpList _ _ _ (Go.Oper.mk _ (.store 25 _ _) _ _ _ _ :: _) _ _)); refine wpl_storeW hE 1 rfl rfl rfl (xs := [.bool true, .string ⟨#[]⟩, .slice (some ⟨g, 0, none⟩) (ks.length + 1) (ks.length + 1)]) rfl rfl Tryd.sizeOf25 rfl (by simp [Value.oneCell']) rfl ?_; clear hE; intro w8 hE; simp only [List.set_cons_zero, List.set_cons_succ] at hE))
    refine bodyPost_ret (results_cell2 rfl hE 1 rfl rfl Tryd.isAgg25 Tryd.sizeOf25 rfl rfl) rfl ?_
    rw [HT.out]
    refine ⟨_, rfl, [row 67 4 (.slice (some ⟨g, 0, none⟩) (ks.length + 1) (ks.length + 1)) (ks.length + 1) (kCs (Tr.insAt p (n, Tr.leafOf xd xb) ks) (Tr.insAt p (.slice none 0 0) vs))], .slice (some ⟨g, 0, none⟩) (ks.length + 1) (ks.length + 1), rfl, Ent.keepNew (((hE.erase 1).erase 1).erase 1), ?_⟩
    have e : (Tr.insAt p (n, Tr.leafOf xd xb) ks).length = ks.length + 1 := Hil.out
    have hE9 : ∀ w, Ent ([row 67 4 (.slice (some ⟨g, 0, none⟩) (ks.length + 1) (ks.length + 1)) (ks.length + 1) (kCs (Tr.insAt p (n, Tr.leafOf xd xb) ks) (Tr.insAt p (.slice none 0 0) vs))] ++ lb) w → reads (.slice (some ⟨g, 0, none⟩) (ks.length + 1) (ks.length + 1)) (ks.length + 1) (kCs (Tr.insAt p (n, Tr.leafOf xd xb) ks) (Tr.insAt p (.slice none 0 0) vs)) w := fun w h => reads_row h 0 rfl
    show KidsAt _ _ (Tr.insAt p (n, Tr.leafOf xd xb) ks)
    have h := KidsAt.mk (l := [row 67 4 (.slice (some ⟨g, 0, none⟩) (ks.length + 1) (ks.length + 1)) (ks.length + 1) (kCs (Tr.insAt p (n, Tr.leafOf xd xb) ks) (Tr.insAt p (.slice none 0 0) vs))] ++ lb) (some ⟨g, 0, none⟩) (ks.length + 1) (Tr.insAt p (n, Tr.leafOf xd xb) ks) (Tr.insAt p (.slice none 0 0) vs) (by omega) (by rw [Hvl.out, e, Hl.out]) (by rw [e]; exact hE9) (fun i h h' => (Hkk.out i h h').suf (List.suffix_append _ _))
    rwa [e] at h

/-- the contract of with at names and a node -/
def WithC (q : List (List UInt8)) (xd : Bool) (xb : List UInt8) : Prop :=
  ∀ (t : Tr) (dp : Nat), Tr.Wf dp t → ∀ (kv : Value) (pre lb : List HProp) (an : Option Addr) (cn : Nat) (w : World), KidsAt lb kv t.kids → q.length ≤ cn → Knows (pre ++ lb) (reads (.slice an q.length cn) q.length (q.map strv)) → Ent (pre ++ lb) w →
    Calls Tryd.prog 56 #[nodeV t kv, .slice an q.length cn, .agg #[.bool xd, .string ⟨xb.toArray⟩, .slice none 0 0]] w
      (Ret fun v w' => ∃ m kv', v = .tuple #[nodeV (Tr.withT q xd xb t).2 kv', .int .i64 (Tr.withT q xd xb t).1] ∧ Ent (pre ++ (m ++ lb)) w' ∧ KidsAt (m ++ lb) kv' (Tr.withT q xd xb t).2.kids)

set_option maxRecDepth 100000 in
set_option maxHeartbeats 8000000 in
attribute [-go_sem] Instr.loadAt in
theorem with_more {dt : List UInt8} {ks : List (List UInt8 × Tr)} {dp : Nat} (hw : Tr.Wf dp (.nd true dt ks)) {kv : Value} {pre lb : List HProp} (hkv : KidsAt lb kv ks) (hr : Rising (ks.map Prod.fst)) (h6 : ks.length ≤ 6) {n : List UInt8} {q : List (List UInt8)} (hq : q ≠ []) (hql : q.length ≤ 1000) {an : Option Addr} {cn : Nat} (hcn : (n :: q).length ≤ cn) {xd : Bool} {xb : List UInt8}
    (IH : WithC q xd xb) (hn : Knows (pre ++ lb) (reads (.slice an (n :: q).length cn) (n :: q).length ((n :: q).map strv))) {w : World} (hE : Ent (pre ++ lb) w) :
    Calls Tryd.prog 56 #[.agg #[.bool true, .string ⟨dt.toArray⟩, kv], .slice an (n :: q).length cn, .agg #[.bool xd, .string ⟨xb.toArray⟩, .slice none 0 0]] w
      (Ret fun v w' => ∃ m kv', v = .tuple #[nodeV (Tr.withT (n :: q) xd xb (.nd true dt ks)).2 kv', .int .i64 (Tr.withT (n :: q) xd xb (.nd true dt ks)).1] ∧ Ent (pre ++ (m ++ lb)) w' ∧ KidsAt (m ++ lb) kv' (Tr.withT (n :: q) xd xb (.nd true dt ks)).2.kids) := by
  have hT := withT_dir (n := n) hq xd xb dt ks
  have hp := (find_at hr n).2.1
  rw [List.length_map] at hp
  have hplace : isIn (ks.map Prod.fst) n = true → ∃ x : Tr, ks[placeOf (ks.map Prod.fst) n]? = some (n, x) := fun h => by
    obtain ⟨hi, e, _⟩ := Tr.kid_place (t := .nd true dt ks) hr h
    exact ⟨_, (List.getElem?_eq_getElem hi).trans (congrArg some (Prod.ext e rfl))⟩
  obtain ⟨ao, c, vs, rfl, hc, hl, hkn, hks, hone⟩ := hkv.open
  obtain ⟨bn, on, rfl, hz⟩ := reads_form (hn _ hE) (by simp) (by simp)
  clear hz
  have hNm := SL.hid (show ∀ W, Ent (pre ++ lb) W → W.cell? ⟨bn, on, none⟩ = some (.string ⟨n.toArray⟩) from fun W hW => by
    obtain ⟨b', o', e, h⟩ := reads_form (hn _ hW) (by simp) (by simp)
    cases e
    exact h 0 _ rfl)
  have hF := SL.hid (show ∀ (L : List HProp), (pre ++ lb) <:+ L → ∀ w, Ent L w → Calls Tryd.prog 59 #[.slice ao ks.length c, .string ⟨n.toArray⟩, .func (.func 60) #[] #[]] w
      (Ret fun r w' => r = .tuple #[.int .i64 (placeOf (ks.map Prod.fst) n), .bool (isIn (ks.map Prod.fst) n)] ∧ Ent L w') from fun L hL w hw => find_any (hkv.suf ((List.suffix_append pre lb).trans hL)) hr (by omega) n hw)
  have Hkn := SL.hid (show Knows (pre ++ lb) (reads (.slice ao ks.length c) ks.length (kCs ks vs)) from hkn.append)
  have Hlen := SL.hid (kCs_len hl)
  have Hone := SL.hid hone
  have Hl := SL.hid hl
  have hq0 : 0 < q.length := by cases q with | nil => exact absurd rfl hq | cons a b => simp
  have hL0 : (((n :: q).length : Int) == 0) = false := by rw [beq_eq_false_iff_ne]; simp; omega
  have hL1 : (((n :: q).length : Int) == 1) = false := by rw [beq_eq_false_iff_ne]; simp; omega
  have hs4 : ∀ w, (Instr.sliceAt 75 (.slice (some ⟨bn, on, none⟩) (n :: q).length cn) (some (.int .i64 1)) none none).run Tryd.prog w = .ok (.slice (cutAt 1 (some ⟨bn, on, none⟩) cn 1) q.length (cn - 1)) w := fun w => by
    rw [sliceAt_slice Tryd.underlying75]
    exact run_cut_lo Tryd.underlying75 Tryd.sizeOf9 _ (n :: q).length cn .i64 1 (by simp)
  have Hn2 := SL.hid (show Knows (pre ++ lb) (reads (.slice (cutAt 1 (some ⟨bn, on, none⟩) cn 1) q.length (cn - 1)) q.length (q.map strv)) from fun w hw => by
    have h := reads_behind (size := 1) (hn w hw) (by simp) hcn (k := 1) (by simp)
    simpa using h)
  have hix : 0 < (n :: q).length := by simp
  have Hcn := SL.hid (show q.length ≤ cn - 1 by simp at hcn; omega)
  clear hn hkv hr hkn hone hcn
  generalize placeOf (ks.map Prod.fst) n = p at *
  generalize isIn (ks.map Prod.fst) n = is at *
  generalize (n :: q).length = L at *
  cases is with
  | false =>
    have HT := SL.hid (hT.trans (if_neg (by simp)))
    clear hT hplace
    rw [HT.out]
    as_aux_lemma =>
    go_enter Tryd.func56, Tryd.ntmps56
    go_wp2_with (first
      | go_skip
      | ((with_reducible (show Go.wpList _ _ _ (Go.Oper.mk _ (.box _ (.tmp 0)) _ _ _ _ :: _) _ _)); ((with_reducible (show Go.wpList _ _ _ (Go.Oper.mk _ (.box _ _) _ _ _ _ :: _) _ _)); refine wpl_box hE rfl rfl rfl ?_; clear hE; intro b3 w hE; simp only [Act.eval, Act.put, List.setIfInBounds_toArray, List.set_cons_zero, List.set_cons_succ, getD_lit, List.getD_cons_succ, List.getD_cons_zero, Value.cells] at hE))
      | ((with_reducible (show Go.wpList _ _ _ (Go.Oper.mk _ (.box _ (.tmp 2)) _ _ _ _ :: _) _ _)); ((with_reducible (show Go.wpList _ _ _ (Go.Oper.mk _ (.box _ _) _ _ _ _ :: _) _ _)); refine wpl_box hE rfl rfl rfl ?_; clear hE; intro b5 w hE; simp only [Act.eval, Act.put, List.setIfInBounds_toArray, List.set_cons_zero, List.set_cons_succ, getD_lit, List.getD_cons_succ, List.getD_cons_zero, Value.cells] at hE))
      | ((with_reducible (show Go.wpList _ _ _ (Go.Oper.mk _ (.alloc _) _ _ _ _ :: _) _ _)); refine wpl_alloc hE rfl rfl (by simp [go_sem]; rfl) ?_; clear hE; intro b6 w hE; simp only [Act.eval, Act.put, List.setIfInBounds_toArray, List.set_cons_zero, List.set_cons_succ, getD_lit, List.getD_cons_succ, List.getD_cons_zero, Value.cells] at hE)
      | ((with_reducible (show Go.wpList _ _ _ (Go.Oper.mk _ (.load _ _) _ _ _ _ :: _) _ _)); (first | (refine wpl_load1 hE 0 rfl rfl rfl rfl (by simp [go_sem]) rfl ?_) | (refine wpl_load1 hE 1 rfl rfl rfl rfl (by simp [go_sem]) rfl ?_) | (refine wpl_load1 hE 2 rfl rfl rfl rfl (by simp [go_sem]) rfl ?_) | (refine wpl_load1 hE 3 rfl rfl rfl rfl (by simp [go_sem]) rfl ?_) | (refine wpl_load1 hE 4 rfl rfl rfl rfl (by simp [go_sem]) rfl ?_) | (refine wpl_load1 hE 5 rfl rfl rfl rfl (by simp [go_sem]) rfl ?_) | (refine wpl_load1 hE 6 rfl rfl rfl rfl (by simp [go_sem]) rfl ?_) | (refine wpl_load1 hE 7 rfl rfl rfl rfl (by simp [go_sem]) rfl ?_))))
    refine wp_region_held_drew (S := (fun w' => ((Instr.loadAt 23 (.pointer (some ⟨b3, 2, none⟩))).run Tryd.prog w' = .ok (.slice ao ks.length c) w') ∧ ((Instr.loadAt 9 (.pointer (some ⟨bn, on, none⟩))).run Tryd.prog w' = .ok (.string ⟨n.toArray⟩) w'))) (by kernel_rfl) ⟨(atVm hE.drew (by repeat (first | exact List.Mem.head _ | refine List.Mem.tail _ ?_)) (by simp [go_sem]) rfl), (atCell (hNm.out _ (hE.drew.suf (by repeat (first | exact List.suffix_refl _ | refine List.IsSuffix.trans ?_ (List.suffix_cons _ _) | refine List.IsSuffix.trans ?_ (List.suffix_append _ _))))) (by simp [go_sem]))⟩ (fun hS => ?_)
    refine tV 0 ⟨some 25, .fieldAddr 25 (.tmp 3) 2, _, _, _, none⟩ hS ?_
    refine tL 1 ⟨some 26, .load 23 (.tmp 25), _, _, _, none⟩ hS ?_
    refine tV 2 ⟨some 27, .move (.tmp 1), _, _, _, none⟩ hS ?_
    refine tV 3 ⟨some 28, .indexAddr 75 (.tmp 27) (.const (.int .i64 0)), _, _, _, none⟩ hS ?_
    refine tL 4 ⟨some 29, .load 9 (.tmp 28), _, _, _, none⟩ hS ?_
    refine wpAnyH_ready (rs := [5]) (by kernel_rfl) (by simp) ?_
    refine (AllReadyH.cons (o := ⟨some 30, .call { callee := .value (.func 59), args := #[.tmp 26, .tmp 29, .func 60], argTypes := #[23, 9, 109] }, _, _, _, none⟩) rfl (fun K hK => ?_) AllReadyH.nil)
    (go_simp; refine (hF.out _ (by repeat (first | exact List.suffix_refl _ | refine List.IsSuffix.trans ?_ (List.suffix_cons _ _) | refine List.IsSuffix.trans ?_ (List.suffix_append _ _))) _ hE.drew).mono ?_; rintro e w3 ⟨v, rfl, rfl, hE3⟩)
    refine hK.out _ _ ⟨(atVm hE3 (by repeat (first | exact List.Mem.head _ | refine List.Mem.tail _ ?_)) (by simp [go_sem]) rfl), (atCell (hNm.out _ (hE3.suf (by repeat (first | exact List.suffix_refl _ | refine List.IsSuffix.trans ?_ (List.suffix_cons _ _) | refine List.IsSuffix.trans ?_ (List.suffix_append _ _))))) (by simp [go_sem]))⟩ (fun hS => ?_)
    clear hK K
    try simp only [Act.put, sb, s0, sz]
    refine tV 6 ⟨some 24, .move (.tmp 30), _, _, _, none⟩ hS ?_
    refine tV 7 ⟨some 31, .extract (.tmp 24) 0, _, _, _, none⟩ hS ?_
    refine tV 8 ⟨some 32, .extract (.tmp 24) 1, _, _, _, none⟩ hS ?_
    refine tV 9 ⟨some 8, .assign (.tmp 31), _, _, _, none⟩ hS ?_
    refine tV 10 ⟨some 9, .assign (.tmp 32), _, _, _, none⟩ hS ?_
    refine wpAnyH_done (by kernel_rfl) ?_ _
    clear hE hS
    have hE := hE3
    clear hE3
    go_wp2_with (first
      | go_skip
      | ((with_reducible (show Go.wpList _ _ _ (Go.Oper.mk _ (.load _ _) _ _ _ _ :: _) _ _)); (first | (refine wpl_load1 hE 0 rfl rfl rfl rfl (by simp [go_sem]) rfl ?_) | (refine wpl_load1 hE 1 rfl rfl rfl rfl (by simp [go_sem]) rfl ?_) | (refine wpl_load1 hE 2 rfl rfl rfl rfl (by simp [go_sem]) rfl ?_) | (refine wpl_load1 hE 3 rfl rfl rfl rfl (by simp [go_sem]) rfl ?_) | (refine wpl_load1 hE 4 rfl rfl rfl rfl (by simp [go_sem]) rfl ?_) | (refine wpl_load1 hE 5 rfl rfl rfl rfl (by simp [go_sem]) rfl ?_) | (refine wpl_load1 hE 6 rfl rfl rfl rfl (by simp [go_sem]) rfl ?_) | (refine wpl_load1 hE 7 rfl rfl rfl rfl (by simp [go_sem]) rfl ?_)))
      | ((with_reducible (show Go.wpList _ _ _ (Go.Oper.mk _ (.store 25 _ _) _ _ _ _ :: _) _ _)); (first | (refine wpl_storeW hE 0 rfl rfl rfl (xs := [.bool false, .string ⟨#[]⟩, .slice none 0 0]) rfl rfl Tryd.sizeOf25 rfl (by simp [Value.oneCell']) rfl ?_) | (refine wpl_storeW hE 1 rfl rfl rfl (xs := [.bool false, .string ⟨#[]⟩, .slice none 0 0]) rfl rfl Tryd.sizeOf25 rfl (by simp [Value.oneCell']) rfl ?_) | (refine wpl_storeW hE 2 rfl rfl rfl (xs := [.bool false, .string ⟨#[]⟩, .slice none 0 0]) rfl rfl Tryd.sizeOf25 rfl (by simp [Value.oneCell']) rfl ?_) | (refine wpl_storeW hE 3 rfl rfl rfl (xs := [.bool false, .string ⟨#[]⟩, .slice none 0 0]) rfl rfl Tryd.sizeOf25 rfl (by simp [Value.oneCell']) rfl ?_) | (refine wpl_storeW hE 4 rfl rfl rfl (xs := [.bool false, .string ⟨#[]⟩, .slice none 0 0]) rfl rfl Tryd.sizeOf25 rfl (by simp [Value.oneCell']) rfl ?_) | (refine wpl_storeW hE 5 rfl rfl rfl (xs := [.bool false, .string ⟨#[]⟩, .slice none 0 0]) rfl rfl Tryd.sizeOf25 rfl (by simp [Value.oneCell']) rfl ?_) | (refine wpl_storeW hE 6 rfl rfl rfl (xs := [.bool false, .string ⟨#[]⟩, .slice none 0 0]) rfl rfl Tryd.sizeOf25 rfl (by simp [Value.oneCell']) rfl ?_) | (refine wpl_storeW hE 7 rfl rfl rfl (xs := [.bool false, .string ⟨#[]⟩, .slice none 0 0]) rfl rfl Tryd.sizeOf25 rfl (by simp [Value.oneCell']) rfl ?_)); clear hE; intro w hE; simp only [List.set_cons_zero, List.set_cons_succ] at hE))
    refine bodyPost_ret (results_cell2 rfl hE 0 rfl rfl Tryd.isAgg25 Tryd.sizeOf25 rfl rfl) rfl ?_
    exact ⟨_, rfl, [], .slice none 0 0, rfl, hE.tail.tail.tail, KidsAt.nil _⟩
  | true =>
    obtain ⟨x0, hx0⟩ := hplace rfl
    obtain ⟨hpk, hpe⟩ := List.getElem?_eq_some_iff.1 hx0
    have hpn : ks[p].1 = n := by rw [hpe]
    clear hx0 hpe
    have hg : ks.getD p ([], Tr.zero) = ks[p] := by rw [List.getD_eq_getElem?_getD, List.getElem?_eq_getElem hpk]; rfl
    rw [if_pos rfl, hg] at hT
    obtain ⟨dp', rfl, hwk⟩ := Tr.wf_kid hw (List.getElem_mem hpk)
    have HK := SL.hid (show ∀ (A B C D : HProp) (w : World), Ent (A :: B :: C :: D :: (pre ++ lb)) w → Calls Tryd.prog 56 #[nodeV ks[p].2 (vs[p]'(by omega)), .slice (cutAt 1 (some ⟨bn, on, none⟩) cn 1) q.length (cn - 1), .agg #[.bool xd, .string ⟨xb.toArray⟩, .slice none 0 0]] w
      (Ret fun v w' => ∃ m kv', v = .tuple #[nodeV (Tr.withT q xd xb ks[p].2).2 kv', .int .i64 (Tr.withT q xd xb ks[p].2).1] ∧ Ent (A :: B :: C :: D :: (pre ++ (m ++ lb))) w' ∧ KidsAt (m ++ lb) kv' (Tr.withT q xd xb ks[p].2).2.kids) from
      fun A B C D w h => IH ks[p].2 dp' hwk _ (A :: B :: C :: D :: pre) lb _ _ w (hks p hpk (by omega)) Hcn.out (fun w hw => Hn2.out _ (hw.suf (by exact (List.suffix_append [A, B, C, D] (pre ++ lb))))) h)
    have HK5 := SL.hid (show ∀ (A B C D E : HProp) (w : World), Ent (A :: B :: C :: D :: E :: (pre ++ lb)) w → Calls Tryd.prog 56 #[nodeV ks[p].2 (vs[p]'(by omega)), .slice (cutAt 1 (some ⟨bn, on, none⟩) cn 1) q.length (cn - 1), .agg #[.bool xd, .string ⟨xb.toArray⟩, .slice none 0 0]] w
      (Ret fun v w' => ∃ m kv', v = .tuple #[nodeV (Tr.withT q xd xb ks[p].2).2 kv', .int .i64 (Tr.withT q xd xb ks[p].2).1] ∧ Ent (A :: B :: C :: D :: E :: (pre ++ (m ++ lb))) w' ∧ KidsAt (m ++ lb) kv' (Tr.withT q xd xb ks[p].2).2.kids) from
      fun A B C D E w h => IH ks[p].2 dp' hwk _ (A :: B :: C :: D :: E :: pre) lb _ _ w (hks p hpk (by omega)) Hcn.out (fun w hw => Hn2.out _ (hw.suf (by exact (List.suffix_append [A, B, C, D, E] (pre ++ lb))))) h)
    have hLd := SL.hid (show ∀ (W : World), Ent (pre ++ lb) W → ∀ j v, [Value.bool ks[p].2.dir, .string ⟨ks[p].2.data.toArray⟩, vs[p]'(by omega)][j]? = some v → ∃ b off, ao = some ⟨b, off, none⟩ ∧ W.cell? ⟨b, off + p * 4 + 1 + j, none⟩ = some v from fun W hW j v hv => by
      obtain ⟨b, off, e, h⟩ := kids_at hl (Hkn.out W hW) hpk
      exact ⟨b, off, e, by have := h (1 + j) v (by rw [kC, Nat.add_comm 1 j]; simpa using hv); rwa [← Nat.add_assoc] at this⟩)
    obtain ⟨bk, ok, hao, hz⟩ := kids_at hl (Hkn.out _ hE) hpk
    clear hz
    subst hao
    have hLe := SL.hid (show ∀ (W : World), Ent (pre ++ lb) W → ∀ j v, [Value.bool ks[p].2.dir, .string ⟨ks[p].2.data.toArray⟩, vs[p]'(by omega)][j]? = some v → W.cell? ((⟨bk, ok + p * 4 + 1, none⟩ : Addr).add j) = some v from fun W hW j v hv => by
      obtain ⟨b, off, e, h⟩ := hLd.out W hW j v hv
      cases e
      rwa [Addr.add_lit])
    have Hset := SL.hid (fun (x : Tr) (v : Value) (z : List Value) (hz : z.length = ks.length * 4) => kCs_set hl hpk x v z hz)
    rw [hpn] at Hset
    have Hkk := SL.hid (show ∀ (m : List HProp) (A : HProp) (x : Tr) (v : Value), KidsAt (m ++ lb) v x.kids → ∀ (i : Nat) (h : i < (ks.set p (n, x)).length) (h' : i < (vs.set p v).length), KidsAt (A :: (m ++ lb)) (vs.set p v)[i] (ks.set p (n, x))[i].2.kids from fun m A x v hx =>
      set_kids hl hks ((List.suffix_append m lb).trans (List.suffix_cons _ _)) p (hx.suf (List.suffix_cons _ _)))
    have hs1 : ∀ w, (Instr.sliceAt 23 (.slice (some ⟨bk, ok, none⟩) ks.length c) none (some (.int .i64 p)) none).run Tryd.prog w = .ok (.slice (some ⟨bk, ok, none⟩) p c) w := fun w => by
      rw [sliceAt_slice Tryd.underlying23, run_cut_hi Tryd.underlying23 Tryd.sizeOf67 _ _ c .i64 p (by omega), cut_zero]; rfl
    have hs2 : ∀ w, (Instr.sliceAt 23 (.slice (some ⟨bk, ok, none⟩) ks.length c) (some (.int .i64 p)) none none).run Tryd.prog w = .ok (.slice (cutAt 4 (some ⟨bk, ok, none⟩) c p) (ks.length - p) (c - p)) w := fun w => by
      rw [sliceAt_slice Tryd.underlying23, run_cut_lo Tryd.underlying23 Tryd.sizeOf67 _ _ c .i64 p (by omega)]
    have hs3 : ∀ g w, (Instr.sliceAt 23 (.slice (some ⟨g, 0, none⟩) ks.length ks.length) (some (.int .i64 p)) none none).run Tryd.prog w = .ok (.slice (cutAt 4 (some ⟨g, 0, none⟩) ks.length p) (ks.length - p) (ks.length - p)) w := fun g w => by
      rw [sliceAt_slice Tryd.underlying23, run_cut_lo Tryd.underlying23 Tryd.sizeOf67 _ _ ks.length .i64 p (by omega)]
    have HpN := SL.hid (show p < ks.length ∧ ks.length ≤ c ∧ ks.length ≤ 6 from ⟨hpk, hc, h6⟩)
    have Hkl := SL.hid (show (ks.set p (n, (Tr.withT q xd xb ks[p].2).2)).length = ks.length ∧ ∀ v, (vs.set p v).length = ks.length from ⟨by simp, fun v => by simp [hl]⟩)
    simp only [nodeV] at HK HK5
    clear hw hks hc hwk hLd
    generalize hres : Tr.withT q xd xb ks[p].2 = res at *
    obtain ⟨er, kd⟩ := res
    simp only at HK HK5 hT Hkl
    clear hres
    have HT := SL.hid hT
    clear hT hplace
    generalize ks[p].2.dir = kdr at *
    generalize ks[p].2.data = kdt at *
    obtain ⟨kvp, hkvp⟩ : ∃ x, vs[p]'(by omega) = x := ⟨_, rfl⟩
    rw [hkvp] at HK HK5 hLe
    clear hkvp hl
    as_aux_lemma =>
    go_enter Tryd.func56, Tryd.ntmps56
    go_wp2_with (first
      | go_skip
      | ((with_reducible (show Go.wpList _ _ _ (Go.Oper.mk _ (.box _ (.tmp 0)) _ _ _ _ :: _) _ _)); ((with_reducible (show Go.wpList _ _ _ (Go.Oper.mk _ (.box _ _) _ _ _ _ :: _) _ _)); refine wpl_box hE rfl rfl rfl ?_; clear hE; intro b3 w hE; simp only [Act.eval, Act.put, List.setIfInBounds_toArray, List.set_cons_zero, List.set_cons_succ, getD_lit, List.getD_cons_succ, List.getD_cons_zero, Value.cells] at hE))
      | ((with_reducible (show Go.wpList _ _ _ (Go.Oper.mk _ (.box _ (.tmp 2)) _ _ _ _ :: _) _ _)); ((with_reducible (show Go.wpList _ _ _ (Go.Oper.mk _ (.box _ _) _ _ _ _ :: _) _ _)); refine wpl_box hE rfl rfl rfl ?_; clear hE; intro b5 w hE; simp only [Act.eval, Act.put, List.setIfInBounds_toArray, List.set_cons_zero, List.set_cons_succ, getD_lit, List.getD_cons_succ, List.getD_cons_zero, Value.cells] at hE))
      | ((with_reducible (show Go.wpList _ _ _ (Go.Oper.mk _ (.alloc _) _ _ _ _ :: _) _ _)); refine wpl_alloc hE rfl rfl (by simp [go_sem]; rfl) ?_; clear hE; intro b6 w hE; simp only [Act.eval, Act.put, List.setIfInBounds_toArray, List.set_cons_zero, List.set_cons_succ, getD_lit, List.getD_cons_succ, List.getD_cons_zero, Value.cells] at hE)
      | ((with_reducible (show Go.wpList _ _ _ (Go.Oper.mk _ (.load _ _) _ _ _ _ :: _) _ _)); (first | (refine wpl_load1 hE 0 rfl rfl rfl rfl (by simp [go_sem]) rfl ?_) | (refine wpl_load1 hE 1 rfl rfl rfl rfl (by simp [go_sem]) rfl ?_) | (refine wpl_load1 hE 2 rfl rfl rfl rfl (by simp [go_sem]) rfl ?_) | (refine wpl_load1 hE 3 rfl rfl rfl rfl (by simp [go_sem]) rfl ?_) | (refine wpl_load1 hE 4 rfl rfl rfl rfl (by simp [go_sem]) rfl ?_) | (refine wpl_load1 hE 5 rfl rfl rfl rfl (by simp [go_sem]) rfl ?_) | (refine wpl_load1 hE 6 rfl rfl rfl rfl (by simp [go_sem]) rfl ?_) | (refine wpl_load1 hE 7 rfl rfl rfl rfl (by simp [go_sem]) rfl ?_))))
    refine wp_region_held_drew (S := (fun w' => ((Instr.loadAt 23 (.pointer (some ⟨b3, 2, none⟩))).run Tryd.prog w' = .ok (.slice (some ⟨bk, ok, none⟩) ks.length c) w') ∧ ((Instr.loadAt 9 (.pointer (some ⟨bn, on, none⟩))).run Tryd.prog w' = .ok (.string ⟨n.toArray⟩) w'))) (by kernel_rfl) ⟨(atVm hE.drew (by repeat (first | exact List.Mem.head _ | refine List.Mem.tail _ ?_)) (by simp [go_sem]) rfl), (atCell (hNm.out _ (hE.drew.suf (by repeat (first | exact List.suffix_refl _ | refine List.IsSuffix.trans ?_ (List.suffix_cons _ _) | refine List.IsSuffix.trans ?_ (List.suffix_append _ _))))) (by simp [go_sem]))⟩ (fun hS => ?_)
    refine tV 0 ⟨some 25, .fieldAddr 25 (.tmp 3) 2, _, _, _, none⟩ hS ?_
    refine tL 1 ⟨some 26, .load 23 (.tmp 25), _, _, _, none⟩ hS ?_
    refine tV 2 ⟨some 27, .move (.tmp 1), _, _, _, none⟩ hS ?_
    refine tV 3 ⟨some 28, .indexAddr 75 (.tmp 27) (.const (.int .i64 0)), _, _, _, none⟩ hS ?_
    refine tL 4 ⟨some 29, .load 9 (.tmp 28), _, _, _, none⟩ hS ?_
    refine wpAnyH_ready (rs := [5]) (by kernel_rfl) (by simp) ?_
    refine (AllReadyH.cons (o := ⟨some 30, .call { callee := .value (.func 59), args := #[.tmp 26, .tmp 29, .func 60], argTypes := #[23, 9, 109] }, _, _, _, none⟩) rfl (fun K hK => ?_) AllReadyH.nil)
    (go_simp; refine (hF.out _ (by repeat (first | exact List.suffix_refl _ | refine List.IsSuffix.trans ?_ (List.suffix_cons _ _) | refine List.IsSuffix.trans ?_ (List.suffix_append _ _))) _ hE.drew).mono ?_; rintro e w3 ⟨v, rfl, rfl, hE3⟩)
    refine hK.out _ _ ⟨(atVm hE3 (by repeat (first | exact List.Mem.head _ | refine List.Mem.tail _ ?_)) (by simp [go_sem]) rfl), (atCell (hNm.out _ (hE3.suf (by repeat (first | exact List.suffix_refl _ | refine List.IsSuffix.trans ?_ (List.suffix_cons _ _) | refine List.IsSuffix.trans ?_ (List.suffix_append _ _))))) (by simp [go_sem]))⟩ (fun hS => ?_)
    clear hK K
    try simp only [Act.put, sb, s0, sz]
    refine tV 6 ⟨some 24, .move (.tmp 30), _, _, _, none⟩ hS ?_
    refine tV 7 ⟨some 31, .extract (.tmp 24) 0, _, _, _, none⟩ hS ?_
    refine tV 8 ⟨some 32, .extract (.tmp 24) 1, _, _, _, none⟩ hS ?_
    refine tV 9 ⟨some 8, .assign (.tmp 31), _, _, _, none⟩ hS ?_
    refine tV 10 ⟨some 9, .assign (.tmp 32), _, _, _, none⟩ hS ?_
    refine wpAnyH_done (by kernel_rfl) ?_ _
    clear hE hS
    have hE := hE3
    clear hE3
    go_wp2_with (first
      | go_skip
      | ((with_reducible (show Go.wpList _ _ _ (Go.Oper.mk _ (.load _ _) _ _ _ _ :: _) _ _)); (first | (refine wpl_load1 hE 0 rfl rfl rfl rfl (by simp [go_sem]) rfl ?_) | (refine wpl_load1 hE 1 rfl rfl rfl rfl (by simp [go_sem]) rfl ?_) | (refine wpl_load1 hE 2 rfl rfl rfl rfl (by simp [go_sem]) rfl ?_) | (refine wpl_load1 hE 3 rfl rfl rfl rfl (by simp [go_sem]) rfl ?_) | (refine wpl_load1 hE 4 rfl rfl rfl rfl (by simp [go_sem]) rfl ?_) | (refine wpl_load1 hE 5 rfl rfl rfl rfl (by simp [go_sem]) rfl ?_) | (refine wpl_load1 hE 6 rfl rfl rfl rfl (by simp [go_sem]) rfl ?_) | (refine wpl_load1 hE 7 rfl rfl rfl rfl (by simp [go_sem]) rfl ?_)))
      | ((with_reducible (show Go.wpList _ _ _ (Go.Oper.mk _ (.makeSlice _ _ _) _ _ _ _ :: _) _ _)); refine wpl_make hE rfl rfl Tryd.underlying23 nd_bytes rfl (by decide) ks.length rfl rfl (by have := HpN.out; omega) (by have := HpN.out; omega) ?_; clear hE; intro g w4 hE)
      | ((with_reducible (show Go.wpList _ _ _ (Go.Oper.mk _ (.call { callee := .builtin .copy, args := _, argTypes := _ }) _ _ _ _ :: _) _ _)); refine wpl_copyK (size := 4) (j := 0) (dLen := ks.length) (dCap := ks.length) hE 0 rfl rfl rfl (by rw [cut_zero]; rfl) rfl Tryd.underlying23 sz_kid (m := p) (ys := (kCs ks vs).take (p * 4)) (reads_first (Hkn.out _ (hE.suf (by repeat (first | exact List.suffix_refl _ | refine List.IsSuffix.trans ?_ (List.suffix_cons _ _) | refine List.IsSuffix.trans ?_ (List.suffix_append _ _))))) (by have := HpN.out; omega)) (by rw [List.length_take, Hlen.out]; have := HpN.out; omega) (fun u hu => Hone.out u (List.mem_of_mem_take hu)) (by have := HpN.out; omega) (by have := HpN.out; omega) ?_; clear hE; intro w5 hE; simp only [List.set_cons_zero] at hE))
    have hs5 := hs3 g
    clear hs3 hs1
    refine wp_region_held_drew (S := (fun w' => ((Instr.loadAt 23 (.pointer (some ⟨b3, 2, none⟩))).run Tryd.prog w' = .ok (.slice (some ⟨bk, ok, none⟩) ks.length c) w') ∧ ((Instr.loadAt 25 (.pointer (some ⟨bk, ok + p * 4 + 1, none⟩))).run Tryd.prog w' = .ok (.agg #[.bool kdr, .string ⟨kdt.toArray⟩, kvp]) w') ∧ ((Instr.loadAt 25 (.pointer (some ⟨b5, 0, none⟩))).run Tryd.prog w' = .ok (.agg #[.bool xd, .string ⟨xb.toArray⟩, .slice none 0 0]) w'))) (by kernel_rfl) ⟨(atVm hE.drew (by repeat (first | exact List.Mem.head _ | refine List.Mem.tail _ ?_)) (by simp [go_sem]) rfl), (atCells Tryd.isAgg25 Tryd.sizeOf25 [.bool kdr, .string ⟨kdt.toArray⟩, kvp] rfl (hLe.out _ (by first | (refine hE.drew.suf ?_; (repeat (first | exact List.suffix_refl _ | refine List.IsSuffix.trans ?_ (List.suffix_cons _ _))); done) | (refine Ent.mid (m := m) (hE.drew.suf ?_); (repeat (first | exact List.suffix_refl _ | refine List.IsSuffix.trans ?_ (List.suffix_cons _ _))))))), (atWm (vs := [.bool xd, .string ⟨xb.toArray⟩, .slice none 0 0]) hE.drew (by repeat (first | exact List.Mem.head _ | refine List.Mem.tail _ ?_)) Tryd.isAgg25 Tryd.sizeOf25 rfl)⟩ (fun hS => ?_)
    refine tV 0 ⟨some 82, .fieldAddr 25 (.tmp 3) 2, _, _, _, none⟩ hS ?_
    refine tL 1 ⟨some 83, .load 23 (.tmp 82), _, _, _, none⟩ hS ?_
    refine tV 2 ⟨some 84, .move (.tmp 8), _, _, _, none⟩ hS ?_
    refine tV 3 ⟨some 85, .indexAddr 23 (.tmp 83) (.tmp 84), _, _, _, none⟩ hS ?_
    refine tV 4 ⟨some 86, .fieldAddr 67 (.tmp 85) 1, _, _, _, none⟩ hS ?_
    refine tL 5 ⟨some 87, .load 25 (.tmp 86), _, _, _, none⟩ hS ?_
    refine tV 6 ⟨some 88, .move (.tmp 1), _, _, _, none⟩ hS ?_
    refine tV 7 ⟨some 89, .slice 75 (.tmp 88) (some (.const (.int .i64 1))) none none, _, _, _, none⟩ hS ?_
    refine tL 8 ⟨some 90, .load 25 (.tmp 5), _, _, _, none⟩ hS ?_
    refine wpAnyH_ready (rs := [9, 13]) (by kernel_rfl) (by simp) ?_
    refine (AllReadyH.cons (o := ⟨some 91, .call { callee := .value (.func 56), args := #[.tmp 87, .tmp 89, .tmp 90], argTypes := #[25, 75, 25] }, _, _, _, none⟩) rfl (fun K hK => ?_) (AllReadyH.cons (o := ⟨some 13, .alloc 25, _, _, _, none⟩) rfl (fun K hK => ?_) AllReadyH.nil))
    focus
      (go_simp; (first | have H := HK5.out _ _ _ _ _ _ hA | have H := HK.out _ _ _ _ _ hE.drew); refine H.mono ?_; clear H; rintro e w6 ⟨v, rfl, m, kv', rfl, hH, hKA⟩)
      refine hK.out _ _ ⟨(atVm hH (by repeat (first | exact List.Mem.head _ | refine List.Mem.tail _ ?_)) (by simp [go_sem]) rfl), (atCells Tryd.isAgg25 Tryd.sizeOf25 [.bool kdr, .string ⟨kdt.toArray⟩, kvp] rfl (hLe.out _ (by first | (refine hH.suf ?_; (repeat (first | exact List.suffix_refl _ | refine List.IsSuffix.trans ?_ (List.suffix_cons _ _))); done) | (refine Ent.mid (m := m) (hH.suf ?_); (repeat (first | exact List.suffix_refl _ | refine List.IsSuffix.trans ?_ (List.suffix_cons _ _))))))), (atWm (vs := [.bool xd, .string ⟨xb.toArray⟩, .slice none 0 0]) hH (by repeat (first | exact List.Mem.head _ | refine List.Mem.tail _ ?_)) Tryd.isAgg25 Tryd.sizeOf25 rfl)⟩ (fun hS => ?_)
      clear hK K
      try simp only [Act.put, sb, s0, sz]
      refine tV 10 ⟨some 81, .move (.tmp 91), _, _, _, none⟩ hS ?_
      refine tV 11 ⟨some 92, .extract (.tmp 81) 0, _, _, _, none⟩ hS ?_
      refine tV 12 ⟨some 93, .extract (.tmp 81) 1, _, _, _, none⟩ hS ?_
      refine wpAnyH_ready (rs := [13]) (by kernel_rfl) (by simp) ?_
      refine (AllReadyH.cons (o := ⟨some 13, .alloc 25, _, _, _, none⟩) rfl (fun K hK => ?_) AllReadyH.nil)
      (go_simp; (first | have hA := hH.alloc (.cells #[.bool false, .string ⟨#[]⟩, .slice none 0 0] 25) | have hA := hE.drew.alloc (.cells #[.bool false, .string ⟨#[]⟩, .slice none 0 0] 25)))
      refine hK.out _ _ ⟨(atVm hA (by repeat (first | exact List.Mem.head _ | refine List.Mem.tail _ ?_)) (by simp [go_sem]) rfl), (atCells Tryd.isAgg25 Tryd.sizeOf25 [.bool kdr, .string ⟨kdt.toArray⟩, kvp] rfl (hLe.out _ (by first | (refine hA.suf ?_; (repeat (first | exact List.suffix_refl _ | refine List.IsSuffix.trans ?_ (List.suffix_cons _ _))); done) | (refine Ent.mid (m := m) (hA.suf ?_); (repeat (first | exact List.suffix_refl _ | refine List.IsSuffix.trans ?_ (List.suffix_cons _ _))))))), (atWm (vs := [.bool xd, .string ⟨xb.toArray⟩, .slice none 0 0]) hA (by repeat (first | exact List.Mem.head _ | refine List.Mem.tail _ ?_)) Tryd.isAgg25 Tryd.sizeOf25 rfl)⟩ (fun hS => ?_)
      clear hK K
      try simp only [Act.put, sb, s0, sz]
      refine wpAnyH_ready (rs := [14]) (by kernel_rfl) (by simp) ?_
      refine (AllReadyH.cons (o := ⟨none, .store 25 (.tmp 13) (.tmp 92), _, _, _, none⟩) rfl (fun K hK => ?_) AllReadyH.nil)
      ((first | refine step_storeW hA 0 rfl (by rfl) (by rfl) (by rfl) (xs := [.bool kd.dir, .string ⟨kd.data.toArray⟩, kv']) (by rfl) Tryd.sizeOf25 rfl (by obtain ⟨a1, a2, rfl⟩ := hKA.slice; simp [Value.oneCell']) rfl ?_ | refine step_storeW hH 0 rfl (by rfl) (by rfl) (by rfl) (xs := [.bool kd.dir, .string ⟨kd.data.toArray⟩, kv']) (by rfl) Tryd.sizeOf25 rfl (by obtain ⟨a1, a2, rfl⟩ := hKA.slice; simp [Value.oneCell']) rfl ?_); intro w7 hEs; simp only [List.set_cons_zero, List.set_cons_succ] at hEs)
      refine hK.out _ _ ⟨(atVm hEs (by repeat (first | exact List.Mem.head _ | refine List.Mem.tail _ ?_)) (by simp [go_sem]) rfl), (atCells Tryd.isAgg25 Tryd.sizeOf25 [.bool kdr, .string ⟨kdt.toArray⟩, kvp] rfl (hLe.out _ (by first | (refine hEs.suf ?_; (repeat (first | exact List.suffix_refl _ | refine List.IsSuffix.trans ?_ (List.suffix_cons _ _))); done) | (refine Ent.mid (m := m) (hEs.suf ?_); (repeat (first | exact List.suffix_refl _ | refine List.IsSuffix.trans ?_ (List.suffix_cons _ _))))))), (atWm (vs := [.bool xd, .string ⟨xb.toArray⟩, .slice none 0 0]) hEs (by repeat (first | exact List.Mem.head _ | refine List.Mem.tail _ ?_)) Tryd.isAgg25 Tryd.sizeOf25 rfl)⟩ (fun hS => ?_)
      clear hK K
      try simp only [Act.put, sb, s0, sz]
      refine tV 15 ⟨some 14, .assign (.tmp 93), _, _, _, none⟩ hS ?_
      refine wpAnyH_done (by kernel_rfl) ?_ _
    rotate_right
    focus
      (go_simp; (first | have hA := hH.alloc (.cells #[.bool false, .string ⟨#[]⟩, .slice none 0 0] 25) | have hA := hE.drew.alloc (.cells #[.bool false, .string ⟨#[]⟩, .slice none 0 0] 25)))
      refine hK.out _ _ ⟨(atVm hA (by repeat (first | exact List.Mem.head _ | refine List.Mem.tail _ ?_)) (by simp [go_sem]) rfl), (atCells Tryd.isAgg25 Tryd.sizeOf25 [.bool kdr, .string ⟨kdt.toArray⟩, kvp] rfl (hLe.out _ (by first | (refine hA.suf ?_; (repeat (first | exact List.suffix_refl _ | refine List.IsSuffix.trans ?_ (List.suffix_cons _ _))); done) | (refine Ent.mid (m := m) (hA.suf ?_); (repeat (first | exact List.suffix_refl _ | refine List.IsSuffix.trans ?_ (List.suffix_cons _ _))))))), (atWm (vs := [.bool xd, .string ⟨xb.toArray⟩, .slice none 0 0]) hA (by repeat (first | exact List.Mem.head _ | refine List.Mem.tail _ ?_)) Tryd.isAgg25 Tryd.sizeOf25 rfl)⟩ (fun hS => ?_)
      clear hK K
      try simp only [Act.put, sb, s0, sz]
      refine wpAnyH_ready (rs := [9]) (by kernel_rfl) (by simp) ?_
      refine (AllReadyH.cons (o := ⟨some 91, .call { callee := .value (.func 56), args := #[.tmp 87, .tmp 89, .tmp 90], argTypes := #[25, 75, 25] }, _, _, _, none⟩) rfl (fun K hK => ?_) AllReadyH.nil)
      (go_simp; (first | have H := HK5.out _ _ _ _ _ _ hA | have H := HK.out _ _ _ _ _ hE.drew); refine H.mono ?_; clear H; rintro e w6 ⟨v, rfl, m, kv', rfl, hH, hKA⟩)
      refine hK.out _ _ ⟨(atVm hH (by repeat (first | exact List.Mem.head _ | refine List.Mem.tail _ ?_)) (by simp [go_sem]) rfl), (atCells Tryd.isAgg25 Tryd.sizeOf25 [.bool kdr, .string ⟨kdt.toArray⟩, kvp] rfl (hLe.out _ (by first | (refine hH.suf ?_; (repeat (first | exact List.suffix_refl _ | refine List.IsSuffix.trans ?_ (List.suffix_cons _ _))); done) | (refine Ent.mid (m := m) (hH.suf ?_); (repeat (first | exact List.suffix_refl _ | refine List.IsSuffix.trans ?_ (List.suffix_cons _ _))))))), (atWm (vs := [.bool xd, .string ⟨xb.toArray⟩, .slice none 0 0]) hH (by repeat (first | exact List.Mem.head _ | refine List.Mem.tail _ ?_)) Tryd.isAgg25 Tryd.sizeOf25 rfl)⟩ (fun hS => ?_)
      clear hK K
      try simp only [Act.put, sb, s0, sz]
      refine tV 10 ⟨some 81, .move (.tmp 91), _, _, _, none⟩ hS ?_
      refine tV 11 ⟨some 92, .extract (.tmp 81) 0, _, _, _, none⟩ hS ?_
      refine tV 12 ⟨some 93, .extract (.tmp 81) 1, _, _, _, none⟩ hS ?_
      refine wpAnyH_ready (rs := [14]) (by kernel_rfl) (by simp) ?_
      refine (AllReadyH.cons (o := ⟨none, .store 25 (.tmp 13) (.tmp 92), _, _, _, none⟩) rfl (fun K hK => ?_) AllReadyH.nil)
      ((first | refine step_storeW hA 0 rfl (by rfl) (by rfl) (by rfl) (xs := [.bool kd.dir, .string ⟨kd.data.toArray⟩, kv']) (by rfl) Tryd.sizeOf25 rfl (by obtain ⟨a1, a2, rfl⟩ := hKA.slice; simp [Value.oneCell']) rfl ?_ | refine step_storeW hH 0 rfl (by rfl) (by rfl) (by rfl) (xs := [.bool kd.dir, .string ⟨kd.data.toArray⟩, kv']) (by rfl) Tryd.sizeOf25 rfl (by obtain ⟨a1, a2, rfl⟩ := hKA.slice; simp [Value.oneCell']) rfl ?_); intro w7 hEs; simp only [List.set_cons_zero, List.set_cons_succ] at hEs)
      refine hK.out _ _ ⟨(atVm hEs (by repeat (first | exact List.Mem.head _ | refine List.Mem.tail _ ?_)) (by simp [go_sem]) rfl), (atCells Tryd.isAgg25 Tryd.sizeOf25 [.bool kdr, .string ⟨kdt.toArray⟩, kvp] rfl (hLe.out _ (by first | (refine hEs.suf ?_; (repeat (first | exact List.suffix_refl _ | refine List.IsSuffix.trans ?_ (List.suffix_cons _ _))); done) | (refine Ent.mid (m := m) (hEs.suf ?_); (repeat (first | exact List.suffix_refl _ | refine List.IsSuffix.trans ?_ (List.suffix_cons _ _))))))), (atWm (vs := [.bool xd, .string ⟨xb.toArray⟩, .slice none 0 0]) hEs (by repeat (first | exact List.Mem.head _ | refine List.Mem.tail _ ?_)) Tryd.isAgg25 Tryd.sizeOf25 rfl)⟩ (fun hS => ?_)
      clear hK K
      try simp only [Act.put, sb, s0, sz]
      refine tV 15 ⟨some 14, .assign (.tmp 93), _, _, _, none⟩ hS ?_
      refine wpAnyH_done (by kernel_rfl) ?_ _
    all_goals
      first
        | (change Ent (pt w5.heap.size (.cells [.bool kd.dir, .string ⟨kd.data.toArray⟩, kv'].toArray _) :: _) _ at hEs; generalize w5.heap.size = ra at *)
        | (change Ent (pt w6.heap.size (.cells [.bool kd.dir, .string ⟨kd.data.toArray⟩, kv'].toArray _) :: _) _ at hEs; generalize w6.heap.size = ra at *)
      have hE := hEs
      clear hEs hS
      try clear hH
      try clear hA
      replace hE : Ent (pt ra (.cells #[.bool kd.dir, .string ⟨kd.data.toArray⟩, kv'] 25) :: row 67 4 (.slice (some ⟨g, 0, none⟩) ks.length ks.length) ks.length (splice (List.replicate ks.length zkid).flatten (0 * 4) ((kCs ks vs).take (p * 4))) :: pt b6 (.cells #[.bool false, .string ⟨#[]⟩, .slice none 0 0] 25) :: pt b5 (.cells #[.bool xd, .string ⟨xb.toArray⟩, .slice none 0 0] 25) :: pt b3 (.cells #[.bool true, .string ⟨dt.toArray⟩, .slice (some ⟨bk, ok, none⟩) ks.length c] 25) :: (pre ++ (m ++ lb))) w7 := hE
      cases he : (er == 0) with
      | false =>
        have her : ¬ er = 0 := by simpa using he
        have hne : (er != 0) = true := by simp [bne, he]
        rw [if_neg her] at HT
        clear her he
        go_wp2_with (first
          | go_skip
          | ((with_reducible (show Go.wpList _ _ _ (Go.Oper.mk _ (.load _ _) _ _ _ _ :: _) _ _)); (first | (refine wpl_load1 hE 0 rfl rfl rfl rfl (by simp [go_sem]) rfl ?_) | (refine wpl_load1 hE 1 rfl rfl rfl rfl (by simp [go_sem]) rfl ?_) | (refine wpl_load1 hE 2 rfl rfl rfl rfl (by simp [go_sem]) rfl ?_) | (refine wpl_load1 hE 3 rfl rfl rfl rfl (by simp [go_sem]) rfl ?_) | (refine wpl_load1 hE 4 rfl rfl rfl rfl (by simp [go_sem]) rfl ?_) | (refine wpl_load1 hE 5 rfl rfl rfl rfl (by simp [go_sem]) rfl ?_) | (refine wpl_load1 hE 6 rfl rfl rfl rfl (by simp [go_sem]) rfl ?_) | (refine wpl_load1 hE 7 rfl rfl rfl rfl (by simp [go_sem]) rfl ?_)))
          | ((with_reducible (show Go.wpList _ _ _ (Go.Oper.mk _ (.store 25 _ _) _ _ _ _ :: _) _ _)); refine wpl_storeW hE 2 rfl rfl rfl (xs := [.bool false, .string ⟨#[]⟩, .slice none 0 0]) rfl rfl Tryd.sizeOf25 rfl (by simp [Value.oneCell']) rfl ?_; clear hE; intro w8 hE; simp only [List.set_cons_zero, List.set_cons_succ] at hE))
        refine bodyPost_ret (results_cell2 rfl hE 2 rfl rfl Tryd.isAgg25 Tryd.sizeOf25 rfl rfl) rfl ?_
        rw [HT.out]
        exact ⟨_, rfl, m, .slice none 0 0, rfl, hE.tail.tail.tail.tail.tail, KidsAt.nil _⟩
      | true =>
        obtain rfl : er = 0 := by simpa using he
        rw [if_pos rfl] at HT
        go_wp2_with (first
          | go_skip
          | ((with_reducible (show Go.wpList _ _ _ (Go.Oper.mk _ (.load _ _) _ _ _ _ :: _) _ _)); (first | (refine wpl_load1 hE 0 rfl rfl rfl rfl (by simp [go_sem]) rfl ?_) | (refine wpl_load1 hE 1 rfl rfl rfl rfl (by simp [go_sem]) rfl ?_) | (refine wpl_load1 hE 2 rfl rfl rfl rfl (by simp [go_sem]) rfl ?_) | (refine wpl_load1 hE 3 rfl rfl rfl rfl (by simp [go_sem]) rfl ?_) | (refine wpl_load1 hE 4 rfl rfl rfl rfl (by simp [go_sem]) rfl ?_) | (refine wpl_load1 hE 5 rfl rfl rfl rfl (by simp [go_sem]) rfl ?_) | (refine wpl_load1 hE 6 rfl rfl rfl rfl (by simp [go_sem]) rfl ?_) | (refine wpl_load1 hE 7 rfl rfl rfl rfl (by simp [go_sem]) rfl ?_))))
        refine wp_region_held_drew (S := (fun w' => ((Instr.loadAt 23 (.pointer (some ⟨b3, 2, none⟩))).run Tryd.prog w' = .ok (.slice (some ⟨bk, ok, none⟩) ks.length c) w'))) (by kernel_rfl) (atVm hE.drew (by repeat (first | exact List.Mem.head _ | refine List.Mem.tail _ ?_)) (by simp [go_sem]) rfl) (fun hS => ?_)
        refine tV 0 ⟨some 98, .move (.tmp 12), _, _, _, none⟩ hS ?_
        refine tV 1 ⟨some 99, .move (.tmp 8), _, _, _, none⟩ hS ?_
        refine tV 2 ⟨some 100, .slice 23 (.tmp 98) (some (.tmp 99)) none none, _, _, _, none⟩ hS ?_
        refine tV 3 ⟨some 101, .fieldAddr 25 (.tmp 3) 2, _, _, _, none⟩ hS ?_
        refine tL 4 ⟨some 102, .load 23 (.tmp 101), _, _, _, none⟩ hS ?_
        refine tV 5 ⟨some 103, .move (.tmp 8), _, _, _, none⟩ hS ?_
        refine tV 6 ⟨some 104, .slice 23 (.tmp 102) (some (.tmp 103)) none none, _, _, _, none⟩ hS ?_
        refine wpAnyH_ready (rs := [7]) (by kernel_rfl) (by simp) ?_
        refine (AllReadyH.cons (o := ⟨some 105, .call { callee := .builtin .copy, args := #[.tmp 100, .tmp 104], argTypes := #[23, 23] }, _, _, _, none⟩) rfl (fun K hK => ?_) AllReadyH.nil)
        (refine step_copyK (size := 4) (j := p) (dLen := ks.length - p) (dCap := ks.length - p) hE.drew 1 rfl rfl (by rfl) (by rfl) (by rfl) Tryd.underlying23 sz_kid (m := ks.length - p) (ys := (kCs ks vs).drop (p * 4)) (reads_behind (Hkn.out _ (Ent.mid (hE.drew.suf (by repeat (first | exact List.suffix_refl _ | refine List.IsSuffix.trans ?_ (List.suffix_cons _ _) | refine List.IsSuffix.trans ?_ (List.suffix_append _ _)))))) Hlen.out HpN.out.2.1 (by have := HpN.out; omega)) (by rw [List.length_drop, Hlen.out, Nat.sub_mul]) (fun u hu => Hone.out u (List.mem_of_mem_drop hu)) (by have := HpN.out; omega) (by have := HpN.out; omega) ?_; intro w8 hE8; simp only [List.set_cons_zero, List.set_cons_succ] at hE8)
        refine hK.out _ _ (atVm hE8 (by repeat (first | exact List.Mem.head _ | refine List.Mem.tail _ ?_)) (by simp [go_sem]) rfl) (fun hS => ?_)
        clear hK K
        try simp only [Act.put, sb, s0, sz]
        refine wpAnyH_done (by kernel_rfl) ?_ _
        clear hE hS hs2 hs5
        have hE := hE8
        clear hE8
        have hZ := Hset.out kd kv' (List.replicate ks.length zkid).flatten (zkids_len _)
        have hpi : (p : Int) < (ks.length : Int) := by have := HpN.out; omega
        have hpj : p < ks.length := HpN.out.1
        go_wp2_with (first
          | go_skip
          | ((with_reducible (show Go.wpList _ _ _ (Go.Oper.mk _ (.load 25 (.tmp 13)) _ _ _ _ :: _) _ _)); refine wpl_loadW (xs := [.bool kd.dir, .string ⟨kd.data.toArray⟩, kv']) hE 0 rfl rfl rfl rfl Tryd.isAgg25 Tryd.sizeOf25 rfl ?_)
          | ((with_reducible (show Go.wpList _ _ _ (Go.Oper.mk _ (.store 25 (.tmp 110) _) _ _ _ _ :: _) _ _)); refine wpl_storeRowA hE 1 [.bool kd.dir, .string ⟨kd.data.toArray⟩, kv'] rfl rfl rfl rfl rfl Tryd.sizeOf25 rfl (by obtain ⟨a1, a2, rfl⟩ := hKA.slice; simp [Value.oneCell']) (off := p * 4 + 1) (by have := HpN.out; omega) ?_; clear hE; intro w9 hE; simp only [List.set_cons_zero, List.set_cons_succ] at hE; rw [hZ] at hE)
          | ((with_reducible (show Go.wpList _ _ _ (Go.Oper.mk _ (.store 25 (.tmp 6) _) _ _ _ _ :: _) _ _)); refine wpl_storeW hE 2 rfl rfl rfl (xs := [.bool true, .string ⟨#[]⟩, .slice (some ⟨g, 0, none⟩) ks.length ks.length]) rfl rfl Tryd.sizeOf25 rfl (by simp [Value.oneCell']) rfl ?_; clear hE; intro w10 hE; simp only [List.set_cons_zero, List.set_cons_succ] at hE))
        refine bodyPost_ret (results_cell2 rfl hE 2 rfl rfl Tryd.isAgg25 Tryd.sizeOf25 rfl rfl) rfl ?_
        rw [HT.out]
        refine ⟨_, rfl, row 67 4 (.slice (some ⟨g, 0, none⟩) ks.length ks.length) ks.length (kCs (ks.set p (n, kd)) (vs.set p kv')) :: m, .slice (some ⟨g, 0, none⟩) ks.length ks.length, rfl, Ent.keepNew (((hE.tail.erase 1).erase 1).erase 1), ?_⟩
        have hkl := Hkl.out
        have h := KidsAt.mk (l := row 67 4 (.slice (some ⟨g, 0, none⟩) ks.length ks.length) ks.length (kCs (ks.set p (n, kd)) (vs.set p kv')) :: (m ++ lb)) (some ⟨g, 0, none⟩) ks.length (ks.set p (n, kd)) (vs.set p kv') (by rw [hkl.1]; exact Nat.le_refl _) (by rw [hkl.1, hkl.2]) (by rw [hkl.1]; exact fun w h => reads_row h 0 rfl) (Hkk.out m _ kd kv' hKA)
        rw [hkl.1] at h
        exact h
theorem with_any : ∀ (q : List (List UInt8)), q.length ≤ 1000 → ∀ (xd : Bool) (xb : List UInt8), xb.length ≤ 1000000 → WithC q xd xb
  | [], _, xd, xb, _ => fun t dp hw kv pre lb an cn w hkv hcn hn hE => by
    obtain ⟨d, dt, ks⟩ := t
    refine (with_bad (d := d) (L := 0) (.inr rfl) hE).mono ?_
    rintro e w' ⟨v, rfl, rfl, h⟩
    exact ⟨_, rfl, [], .slice none 0 0, rfl, h, KidsAt.nil _⟩
  | n :: q, hl, xd, xb, hx => fun t dp hw kv pre lb an cn w hkv hcn hn hE => by
    obtain ⟨d, dt, ks⟩ := t
    have hr := Tr.wf_rising hw
    have h6 := (Tr.wf_size hw).2
    cases d with
    | false =>
      have hz : Tr.withT (n :: q) xd xb (.nd false dt ks) = (8, .zero) := by cases q <;> rfl
      refine (with_bad (d := false) (.inl rfl) hE).mono ?_
      rintro e w' ⟨v, rfl, rfl, h⟩
      exact ⟨_, rfl, [], .slice none 0 0, by rw [hz]; rfl, h, by rw [hz]; exact KidsAt.nil _⟩
    | true =>
      by_cases hq : q = []
      · subst hq
        exact with_last hkv hr h6 hx hn hE
      · exact with_more hw hkv hr h6 hq (by simp at hl; omega) hcn (with_any q (by simp at hl; omega) xd xb hx) hn hE
end Go.Proofs.YtcpgelpajppgdaaDoor
namespace Go.Proofs.YtcpgelpajppgdaaDoor
open Go.RowKit Go.SL

def enC (x : En) : List Value := [.string ⟨x.path.toArray⟩, .bool x.dir, .string ⟨x.data.toArray⟩]
theorem enC_len (x : En) : (enC x).length = 3 := rfl
theorem enC_one (x : En) : ∀ u ∈ enC x, u.oneCell' = true := by simp [enC, Value.oneCell']
theorem enC_flat_len (xs : List En) : (xs.flatMap enC).length = xs.length * 3 := flatMap_len enC 3 enC_len xs
theorem mkb (a b : List UInt8) : ((⟨a.toArray⟩ : ByteArray) == ⟨b.toArray⟩) = (a == b) := by
  rw [beq_toListBytes, ByteArray.toList_eq, ByteArray.toList_eq]
/-- where an entry of a row lies -/
theorem en_at {w : World} {ao : Option Addr} {c : Nat} {xs : List En} (hr : reads (.slice ao xs.length c) xs.length (xs.flatMap enC) w) {k : Nat} (hk : k < xs.length) : ∃ b off, ao = some ⟨b, off, none⟩ ∧ ∀ j v, (enC xs[k])[j]? = some v → w.cell? ⟨b, off + k * 3 + j, none⟩ = some v := by
  obtain ⟨b, off, rfl, hc⟩ := reads_form hr (by omega) (by rw [enC_flat_len]; omega)
  refine ⟨b, off, rfl, fun j v hv => ?_⟩
  rw [Nat.add_assoc]
  exact hc _ _ (flatMap_at enC 3 enC_len xs k j xs[k] v (List.getElem?_eq_getElem hk) hv)
def BuRel (es : List En) (b2 b4 : Nat) (l : List HProp) (i : Value) (wr : World) : Prop :=
  ∃ (k : Nat) (t : Tr) (m : List HProp) (kv : Value), k ≤ es.length ∧ i = .int .i64 k ∧ buildT es = goT t (es.drop k) ∧ Good t (es.take k) ∧ KidsAt (m ++ l) kv t.kids ∧
    Ent (pt b4 (.cells #[.bool t.dir, .string ⟨t.data.toArray⟩, kv] 25) :: pt b2 (.cells #[.bool false, .string ⟨#[]⟩, .slice none 0 0] 25) :: (m ++ l)) wr

set_option maxRecDepth 100000 in
set_option maxHeartbeats 8000000 in
theorem Build_any {es : List En} (hn : es.length ≤ 1000) (hb : ∀ x ∈ es, x.path.length ≤ 1000000 ∧ x.data.length ≤ 1000000) {ao : Option Addr} {c : Nat} {l : List HProp} {w : World} (hk : Knows l (reads (.slice ao es.length c) es.length (es.flatMap enC))) (hE : Ent l w) :
    Calls Tryd.prog 29 #[.slice ao es.length c] w (Ret fun v w' => ∃ m kv, v = .tuple #[nodeV (buildT es).2 kv, .int .i64 (buildT es).1] ∧ Ent (m ++ l) w' ∧ KidsAt (m ++ l) kv (buildT es).2.kids) := by
  cases h64 : decide ((64 : Int) < (es.length : Int)) with
  | true =>
    have hT : buildT es = (6, .zero) := by rw [buildT, if_pos (by have := of_decide_eq_true h64; omega)]
    rw [hT]
    go_enter Tryd.func29, Tryd.ntmps29
    go_wp2_with (first
      | go_skip
      | ((with_reducible (show Go.wpList _ _ _ (Go.Oper.mk _ (.alloc _) _ _ _ _ :: _) _ _)); refine wpl_alloc hE rfl rfl (by simp [go_sem]; rfl) ?_; clear hE; intro b2 w hE; simp only [Act.eval, Act.put, List.setIfInBounds_toArray, List.set_cons_zero, List.set_cons_succ, getD_lit, List.getD_cons_succ, List.getD_cons_zero, Value.cells] at hE)
      | ((with_reducible (show Go.wpList _ _ _ (Go.Oper.mk _ (.store 25 _ _) _ _ _ _ :: _) _ _)); (first | (refine wpl_storeW hE 0 rfl rfl rfl (xs := [.bool false, .string ⟨#[]⟩, .slice none 0 0]) rfl rfl Tryd.sizeOf25 rfl (by simp [Value.oneCell']) rfl ?_) | (refine wpl_storeW hE 1 rfl rfl rfl (xs := [.bool false, .string ⟨#[]⟩, .slice none 0 0]) rfl rfl Tryd.sizeOf25 rfl (by simp [Value.oneCell']) rfl ?_) | (refine wpl_storeW hE 2 rfl rfl rfl (xs := [.bool false, .string ⟨#[]⟩, .slice none 0 0]) rfl rfl Tryd.sizeOf25 rfl (by simp [Value.oneCell']) rfl ?_) | (refine wpl_storeW hE 3 rfl rfl rfl (xs := [.bool false, .string ⟨#[]⟩, .slice none 0 0]) rfl rfl Tryd.sizeOf25 rfl (by simp [Value.oneCell']) rfl ?_) | (refine wpl_storeW hE 4 rfl rfl rfl (xs := [.bool false, .string ⟨#[]⟩, .slice none 0 0]) rfl rfl Tryd.sizeOf25 rfl (by simp [Value.oneCell']) rfl ?_) | (refine wpl_storeW hE 5 rfl rfl rfl (xs := [.bool false, .string ⟨#[]⟩, .slice none 0 0]) rfl rfl Tryd.sizeOf25 rfl (by simp [Value.oneCell']) rfl ?_) | (refine wpl_storeW hE 6 rfl rfl rfl (xs := [.bool false, .string ⟨#[]⟩, .slice none 0 0]) rfl rfl Tryd.sizeOf25 rfl (by simp [Value.oneCell']) rfl ?_) | (refine wpl_storeW hE 7 rfl rfl rfl (xs := [.bool false, .string ⟨#[]⟩, .slice none 0 0]) rfl rfl Tryd.sizeOf25 rfl (by simp [Value.oneCell']) rfl ?_)); clear hE; intro w hE; simp only [List.set_cons_zero, List.set_cons_succ] at hE))
    refine bodyPost_ret (results_cell2 rfl hE 0 rfl rfl Tryd.isAgg25 Tryd.sizeOf25 rfl rfl) rfl ?_
    exact ⟨_, rfl, [], .slice none 0 0, rfl, hE.tail, KidsAt.nil _⟩
  | false =>
    have hT0 : buildT es = goT root es := by rw [buildT, if_neg (by have := of_decide_eq_false h64; omega)]
    go_enter Tryd.func29, Tryd.ntmps29
    have Tok := SL.hid True.intro
    go_wp2_with (first
      | go_skip
      | ((with_reducible (show Go.wpList _ _ _ (Go.Oper.mk _ (.alloc _) _ _ _ _ :: _) _ _)); clear Tok; ((with_reducible (show Go.wpList _ _ _ (Go.Oper.mk _ (.alloc _) _ _ _ _ :: _) _ _)); refine wpl_alloc hE rfl rfl (by simp [go_sem]; rfl) ?_; clear hE; intro b2 w hE; simp only [Act.eval, Act.put, List.setIfInBounds_toArray, List.set_cons_zero, List.set_cons_succ, getD_lit, List.getD_cons_succ, List.getD_cons_zero, Value.cells] at hE))
      | ((with_reducible (show Go.wpList _ _ _ (Go.Oper.mk _ (.alloc _) _ _ _ _ :: _) _ _)); refine wpl_alloc hE rfl rfl (by simp [go_sem]; rfl) ?_; clear hE; intro b4 w hE; simp only [Act.eval, Act.put, List.setIfInBounds_toArray, List.set_cons_zero, List.set_cons_succ, getD_lit, List.getD_cons_succ, List.getD_cons_zero, Value.cells] at hE)
      | ((with_reducible (show Go.wpList _ _ _ (Go.Oper.mk _ (.store 25 _ _) _ _ _ _ :: _) _ _)); refine wpl_storeW hE 0 rfl rfl rfl (xs := [.bool true, .string ⟨#[]⟩, .slice none 0 0]) rfl rfl Tryd.sizeOf25 rfl (by simp [Value.oneCell']) rfl ?_; clear hE; intro w8 hE; simp only [List.set_cons_zero] at hE))
    clear h64
    go_loopw [16] (fun i wr => BuRel es b2 b4 l i wr) (fun i _ => es.length - (intOf i).toNat)
    case atStart => exact ⟨0, root, [], .slice none 0 0, Nat.zero_le _, rfl, by rw [List.drop_zero]; exact hT0, by rw [List.take_zero]; exact good_root, KidsAt.nil _, hE⟩
    case round =>
      clear hE hT0
      obtain ⟨k, t, m, kv, hkn, rfl, hB, hG, hkv, hE⟩ := hrel
      by_cases hlt : k < es.length
      · obtain ⟨b, off, rfl, hz⟩ := en_at (hk _ (hE.suf (l' := l) (by exact (List.suffix_append m l).trans (List.suffix_append [_, _] _)))) hlt
        clear hz
        have hL := SL.hid (show ∀ W, Ent l W → ∀ j v, (enC es[k])[j]? = some v → W.cell? ⟨b, off + k * 3 + j, none⟩ = some v from fun W hW => by
          obtain ⟨b', off', e, h⟩ := en_at (hk _ hW) hlt
          cases e
          exact h)
        replace hL := SL.hid (show ∀ W, Ent (m ++ l) W → ∀ j v, (enC es[k])[j]? = some v → W.cell? ⟨b, off + k * 3 + j, none⟩ = some v from fun W hW => hL.out W hW.drop)
        have hx := hb _ (List.getElem_mem hlt)
        have htk := List.take_succ_eq_append_getElem hlt
        have hdk : es.drop k = es[k] :: es.drop (k + 1) := List.drop_eq_getElem_cons hlt
        rw [hdk] at hB
        generalize es[k] = x at *
        obtain ⟨xp, xd, xb⟩ := x
        simp only at hx
        have Hxb := SL.hid hx.2
        have HS := SL.hid (show ∀ (L : List HProp) (w : World), Ent L w → Calls Tryd.prog 36 #[.string ⟨xp.toArray⟩] w (Ret fun v w' => ∃ ao c, v = .tuple #[.slice ao (splitL xp).length c, .int .i64 (splitE xp)] ∧ Ent (rowS ao c (splitL xp) :: L) w') from fun L w h => Split_any hx.1 h)
        have hmb := mkb xb []
        have hmb2 : ((⟨xb.toArray⟩ : ByteArray) != ⟨#[]⟩) = !(xb == []) := by rw [bne, mkb]
        clear hdk hx
        by_cases hse : splitE xp = 0
        · have Hse := SL.hid hse
          rw [hse] at HS
          clear hse
          cases xd with
          | true =>
            cases hxb : (xb == []) with
            | false =>
              have HT := SL.hid (show buildT es = (8, .zero) from by
                rw [hB, goT, addT]
                simp only [Hse.out]
                have h1 : xb ≠ [] := by simpa using hxb
                simp [h1])
              rw [hxb] at hmb hmb2
              as_aux_lemma =>
              go_wp2_with (first
                | go_skip
                | ((with_reducible (show Go.wpList _ _ _ (Go.Oper.mk _ (.load 63 _) _ _ _ _ :: _) _ _)); refine wpl_loadC rfl rfl rfl Tryd.isAgg63 Tryd.sizeOf63 (enC ⟨xp, true, xb⟩) rfl (fun j v hv => by rw [Addr.add_lit]; exact hL.out _ (hE.suf sfx) j v hv) ?_)
                | ((with_reducible (show Go.wpList _ _ _ (Go.Oper.mk _ (.alloc 63) _ _ _ _ :: _) _ _)); refine wpl_allocN hE rfl rfl (n := 3) (by kernel_rfl) ?_; clear hE; intro b6 cs w1 hq hE)
                | ((with_reducible (show Go.wpList _ _ _ (Go.Oper.mk _ (.store 63 _ _) _ _ _ _ :: _) _ _)); refine wpl_storeN hE 0 rfl rfl rfl rfl (xs := enC ⟨xp, true, xb⟩) rfl Tryd.sizeOf63 rfl (by simp [enC, Value.oneCell']) hq ?_; clear hE hq; intro w2 hE; simp only [List.set_cons_zero] at hE; replace hE : Ent (pt b6 (.cells #[.string ⟨xp.toArray⟩, .bool true, .string ⟨xb.toArray⟩] 63) :: pt b4 (.cells #[.bool t.dir, .string ⟨t.data.toArray⟩, kv] 25) :: pt b2 (.cells #[.bool false, .string ⟨#[]⟩, .slice none 0 0] 25) :: (m ++ l)) w2 := hE)
                | (go_at_call 36; refine (HS.out _ _ hE).mono ?_; clear hE; rintro e w3 ⟨v, rfl, an, cn, rfl, hE⟩)
                | ((with_reducible (show Go.wpList _ _ _ (Go.Oper.mk _ (.load 25 _) _ _ _ _ :: _) _ _)); refine wpl_loadW (xs := [.bool t.dir, .string ⟨t.data.toArray⟩, kv]) hE 2 rfl rfl rfl rfl Tryd.isAgg25 Tryd.sizeOf25 rfl ?_)
                | ((with_reducible (show Go.wpList _ _ _ (Go.Oper.mk _ (.load _ _) _ _ _ _ :: _) _ _)); (first | (refine wpl_load1 hE 0 rfl rfl rfl rfl (by simp [go_sem]) rfl ?_) | (refine wpl_load1 hE 1 rfl rfl rfl rfl (by simp [go_sem]) rfl ?_) | (refine wpl_load1 hE 2 rfl rfl rfl rfl (by simp [go_sem]) rfl ?_) | (refine wpl_load1 hE 3 rfl rfl rfl rfl (by simp [go_sem]) rfl ?_) | (refine wpl_load1 hE 4 rfl rfl rfl rfl (by simp [go_sem]) rfl ?_) | (refine wpl_load1 hE 5 rfl rfl rfl rfl (by simp [go_sem]) rfl ?_) | (refine wpl_load1 hE 6 rfl rfl rfl rfl (by simp [go_sem]) rfl ?_) | (refine wpl_load1 hE 7 rfl rfl rfl rfl (by simp [go_sem]) rfl ?_)))
                | ((with_reducible (show Go.wpList _ _ _ (Go.Oper.mk _ (.store 25 _ _) _ _ _ _ :: _) _ _)); refine wpl_storeW hE 3 rfl rfl rfl (xs := [.bool false, .string ⟨#[]⟩, .slice none 0 0]) rfl rfl Tryd.sizeOf25 rfl (by simp [Value.oneCell']) rfl ?_; clear hE; intro w8 hE; simp only [List.set_cons_zero, List.set_cons_succ] at hE))
              refine bodyPost_ret (results_cell2 rfl hE 3 rfl rfl Tryd.isAgg25 Tryd.sizeOf25 rfl rfl) rfl ?_
              rw [HT.out]
              exact ⟨_, rfl, m, .slice none 0 0, rfl, hE.tail.tail.tail.tail, KidsAt.nil _⟩
            | true =>
              obtain rfl : xb = [] := by simpa using hxb
              clear hmb hmb2 hxb
              have HW := SL.hid (show ∀ (A B C D : HProp) (w : World) (an : Option Addr) (cn : Nat), Ent (A :: B :: C :: D :: (m ++ l)) w → (splitL xp).length ≤ cn → Knows (A :: B :: C :: D :: (m ++ l)) (reads (.slice an (splitL xp).length cn) (splitL xp).length ((splitL xp).map strv)) →
                  Calls Tryd.prog 56 #[.agg #[.bool t.dir, .string ⟨t.data.toArray⟩, kv], .slice an (splitL xp).length cn, .agg #[.bool true, .string ⟨([] : List UInt8).toArray⟩, .slice none 0 0]] w
                    (Ret fun v w' => ∃ m' kv', v = .tuple #[.agg #[.bool (Tr.withT (splitL xp) true ([] : List UInt8) t).2.dir, .string ⟨(Tr.withT (splitL xp) true ([] : List UInt8) t).2.data.toArray⟩, kv'], .int .i64 (Tr.withT (splitL xp) true ([] : List UInt8) t).1] ∧ Ent (A :: B :: C :: D :: (m' ++ (m ++ l))) w' ∧ KidsAt (m' ++ (m ++ l)) kv' (Tr.withT (splitL xp) true ([] : List UInt8) t).2.kids) from
                fun A B C D w an cn h3 h1 h2 => with_any (splitL xp) (by have := (splitL_names xp).1; omega) true ([] : List UInt8) Hxb.out t 6 hG.2.1 kv [A, B, C, D] (m ++ l) an cn w hkv h1 h2 h3)
              have hadd : addT t ⟨xp, true, ([] : List UInt8)⟩ = Tr.withT (splitL xp) true ([] : List UInt8) t := by rw [addT]; simp only [Hse.out]; rw [if_neg (by simp), if_neg (by simp)]
              have HT := SL.hid (show ((Tr.withT (splitL xp) true ([] : List UInt8) t).1 = 0 → buildT es = goT (Tr.withT (splitL xp) true ([] : List UInt8) t).2 (es.drop (k + 1))) ∧ (¬ (Tr.withT (splitL xp) true ([] : List UInt8) t).1 = 0 → buildT es = ((Tr.withT (splitL xp) true ([] : List UInt8) t).1, .zero)) from by
                rw [hB, goT, hadd]
                exact ⟨fun h => if_pos h, fun h => if_neg h⟩)
              have HG := SL.hid (show (Tr.withT (splitL xp) true ([] : List UInt8) t).1 = 0 → Good (Tr.withT (splitL xp) true ([] : List UInt8) t).2 (es.take (k + 1)) from fun h => by
                have := add_good hG (x := ⟨xp, true, ([] : List UInt8)⟩) (by rw [hadd]; exact h)
                rw [hadd, ← htk] at this
                exact this)
              clear hadd hB hG hkv
              try clear hx0
              try clear hxb
              generalize hres : Tr.withT (splitL xp) true ([] : List UInt8) t = res at *
              clear hres
              generalize splitL xp = ns at *
              obtain ⟨er, kd⟩ := res
              simp only at HW HT HG
              cases her : (er == 0) with
              | true =>
                obtain rfl : er = 0 := by simpa using her
                clear her
                as_aux_lemma =>
                go_wp2_with (first
                  | go_skip
                  | ((with_reducible (show Go.wpList _ _ _ (Go.Oper.mk _ (.load 63 _) _ _ _ _ :: _) _ _)); refine wpl_loadC rfl rfl rfl Tryd.isAgg63 Tryd.sizeOf63 (enC ⟨xp, true, ([] : List UInt8)⟩) rfl (fun j v hv => by rw [Addr.add_lit]; exact hL.out _ (hE.suf sfx) j v hv) ?_)
                  | ((with_reducible (show Go.wpList _ _ _ (Go.Oper.mk _ (.alloc 63) _ _ _ _ :: _) _ _)); refine wpl_allocN hE rfl rfl (n := 3) (by kernel_rfl) ?_; clear hE; intro b6 cs w1 hq hE)
                  | ((with_reducible (show Go.wpList _ _ _ (Go.Oper.mk _ (.store 63 _ _) _ _ _ _ :: _) _ _)); refine wpl_storeN hE 0 rfl rfl rfl rfl (xs := enC ⟨xp, true, ([] : List UInt8)⟩) rfl Tryd.sizeOf63 rfl (by simp [enC, Value.oneCell']) hq ?_; clear hE hq; intro w2 hE; simp only [List.set_cons_zero] at hE; replace hE : Ent (pt b6 (.cells #[.string ⟨xp.toArray⟩, .bool true, .string ⟨([] : List UInt8).toArray⟩] 63) :: pt b4 (.cells #[.bool t.dir, .string ⟨t.data.toArray⟩, kv] 25) :: pt b2 (.cells #[.bool false, .string ⟨#[]⟩, .slice none 0 0] 25) :: (m ++ l)) w2 := hE)
                  | (go_at_call 36; refine (HS.out _ _ hE).mono ?_; clear hE; rintro e w3 ⟨v, rfl, an, cn, rfl, hE⟩)
                  | ((with_reducible (show Go.wpList _ _ _ (Go.Oper.mk _ (.load 25 _) _ _ _ _ :: _) _ _)); refine wpl_loadW (xs := [.bool t.dir, .string ⟨t.data.toArray⟩, kv]) hE 2 rfl rfl rfl rfl Tryd.isAgg25 Tryd.sizeOf25 rfl ?_)
                  | ((with_reducible (show Go.wpList _ _ _ (Go.Oper.mk _ (.load _ _) _ _ _ _ :: _) _ _)); (first | (refine wpl_load1 hE 0 rfl rfl rfl rfl (by simp [go_sem]) rfl ?_) | (refine wpl_load1 hE 1 rfl rfl rfl rfl (by simp [go_sem]) rfl ?_) | (refine wpl_load1 hE 2 rfl rfl rfl rfl (by simp [go_sem]) rfl ?_) | (refine wpl_load1 hE 3 rfl rfl rfl rfl (by simp [go_sem]) rfl ?_) | (refine wpl_load1 hE 4 rfl rfl rfl rfl (by simp [go_sem]) rfl ?_) | (refine wpl_load1 hE 5 rfl rfl rfl rfl (by simp [go_sem]) rfl ?_) | (refine wpl_load1 hE 6 rfl rfl rfl rfl (by simp [go_sem]) rfl ?_) | (refine wpl_load1 hE 7 rfl rfl rfl rfl (by simp [go_sem]) rfl ?_)))
                  | (go_at_call 56; have H := HW.out _ _ _ _ _ an cn hE (row_cap hE 0 rfl) (fun w h => reads_row h 0 rfl); refine H.mono ?_; clear H hE; rintro e w7 ⟨v, rfl, m', kv', rfl, hE, hKA⟩)
                  | ((with_reducible (show Go.wpList _ _ _ (Go.Oper.mk _ (.store 25 (.tmp 4) _) _ _ _ _ :: _) _ _)); refine wpl_storeW hE 2 rfl rfl rfl (xs := [.bool kd.dir, .string ⟨kd.data.toArray⟩, kv']) rfl rfl Tryd.sizeOf25 rfl (by obtain ⟨a1, a2, rfl⟩ := hKA.slice; simp [Value.oneCell']) rfl ?_; clear hE; intro w8 hE; simp only [List.set_cons_zero, List.set_cons_succ] at hE)
                  | ((with_reducible (show Go.wpList _ _ _ (Go.Oper.mk _ (.store 25 (.tmp 2) _) _ _ _ _ :: _) _ _)); refine wpl_storeW hE 3 rfl rfl rfl (xs := [.bool false, .string ⟨#[]⟩, .slice none 0 0]) rfl rfl Tryd.sizeOf25 rfl (by simp [Value.oneCell']) rfl ?_; clear hE; intro w8 hE; simp only [List.set_cons_zero, List.set_cons_succ] at hE))
                go_roundw
                case rel => exact ⟨k + 1, kd, m' ++ m, kv', hlt, by simp, HT.out.1 (by trivial), HG.out (by trivial), by rw [List.append_assoc]; exact hKA, by rw [List.append_assoc]; exact hE.tail.tail⟩
                case measure => simp [intOf]; omega
              | false =>
                have hne : ¬ er = 0 := by simpa using her
                have hne2 : (er != 0) = true := by simp [bne, her]
                have HT2 := SL.hid (HT.out.2 hne)
                clear hne
                as_aux_lemma =>
                go_wp2_with (first
                  | go_skip
                  | ((with_reducible (show Go.wpList _ _ _ (Go.Oper.mk _ (.load 63 _) _ _ _ _ :: _) _ _)); refine wpl_loadC rfl rfl rfl Tryd.isAgg63 Tryd.sizeOf63 (enC ⟨xp, true, ([] : List UInt8)⟩) rfl (fun j v hv => by rw [Addr.add_lit]; exact hL.out _ (hE.suf sfx) j v hv) ?_)
                  | ((with_reducible (show Go.wpList _ _ _ (Go.Oper.mk _ (.alloc 63) _ _ _ _ :: _) _ _)); refine wpl_allocN hE rfl rfl (n := 3) (by kernel_rfl) ?_; clear hE; intro b6 cs w1 hq hE)
                  | ((with_reducible (show Go.wpList _ _ _ (Go.Oper.mk _ (.store 63 _ _) _ _ _ _ :: _) _ _)); refine wpl_storeN hE 0 rfl rfl rfl rfl (xs := enC ⟨xp, true, ([] : List UInt8)⟩) rfl Tryd.sizeOf63 rfl (by simp [enC, Value.oneCell']) hq ?_; clear hE hq; intro w2 hE; simp only [List.set_cons_zero] at hE; replace hE : Ent (pt b6 (.cells #[.string ⟨xp.toArray⟩, .bool true, .string ⟨([] : List UInt8).toArray⟩] 63) :: pt b4 (.cells #[.bool t.dir, .string ⟨t.data.toArray⟩, kv] 25) :: pt b2 (.cells #[.bool false, .string ⟨#[]⟩, .slice none 0 0] 25) :: (m ++ l)) w2 := hE)
                  | (go_at_call 36; refine (HS.out _ _ hE).mono ?_; clear hE; rintro e w3 ⟨v, rfl, an, cn, rfl, hE⟩)
                  | ((with_reducible (show Go.wpList _ _ _ (Go.Oper.mk _ (.load 25 _) _ _ _ _ :: _) _ _)); refine wpl_loadW (xs := [.bool t.dir, .string ⟨t.data.toArray⟩, kv]) hE 2 rfl rfl rfl rfl Tryd.isAgg25 Tryd.sizeOf25 rfl ?_)
                  | ((with_reducible (show Go.wpList _ _ _ (Go.Oper.mk _ (.load _ _) _ _ _ _ :: _) _ _)); (first | (refine wpl_load1 hE 0 rfl rfl rfl rfl (by simp [go_sem]) rfl ?_) | (refine wpl_load1 hE 1 rfl rfl rfl rfl (by simp [go_sem]) rfl ?_) | (refine wpl_load1 hE 2 rfl rfl rfl rfl (by simp [go_sem]) rfl ?_) | (refine wpl_load1 hE 3 rfl rfl rfl rfl (by simp [go_sem]) rfl ?_) | (refine wpl_load1 hE 4 rfl rfl rfl rfl (by simp [go_sem]) rfl ?_) | (refine wpl_load1 hE 5 rfl rfl rfl rfl (by simp [go_sem]) rfl ?_) | (refine wpl_load1 hE 6 rfl rfl rfl rfl (by simp [go_sem]) rfl ?_) | (refine wpl_load1 hE 7 rfl rfl rfl rfl (by simp [go_sem]) rfl ?_)))
                  | (go_at_call 56; have H := HW.out _ _ _ _ _ an cn hE (row_cap hE 0 rfl) (fun w h => reads_row h 0 rfl); refine H.mono ?_; clear H hE; rintro e w7 ⟨v, rfl, m', kv', rfl, hE, hKA⟩)
                  | ((with_reducible (show Go.wpList _ _ _ (Go.Oper.mk _ (.store 25 (.tmp 4) _) _ _ _ _ :: _) _ _)); refine wpl_storeW hE 2 rfl rfl rfl (xs := [.bool kd.dir, .string ⟨kd.data.toArray⟩, kv']) rfl rfl Tryd.sizeOf25 rfl (by obtain ⟨a1, a2, rfl⟩ := hKA.slice; simp [Value.oneCell']) rfl ?_; clear hE; intro w8 hE; simp only [List.set_cons_zero, List.set_cons_succ] at hE)
                  | ((with_reducible (show Go.wpList _ _ _ (Go.Oper.mk _ (.store 25 (.tmp 2) _) _ _ _ _ :: _) _ _)); refine wpl_storeW hE 3 rfl rfl rfl (xs := [.bool false, .string ⟨#[]⟩, .slice none 0 0]) rfl rfl Tryd.sizeOf25 rfl (by simp [Value.oneCell']) rfl ?_; clear hE; intro w8 hE; simp only [List.set_cons_zero, List.set_cons_succ] at hE))
                refine bodyPost_ret (results_cell2 rfl hE 3 rfl rfl Tryd.isAgg25 Tryd.sizeOf25 rfl rfl) rfl ?_
                rw [HT2.out]
                exact ⟨_, rfl, m' ++ m, .slice none 0 0, rfl, by rw [List.append_assoc]; exact hE.tail.tail.tail.tail, KidsAt.nil _⟩
          | false =>
            cases hxb : (xb == [])
            all_goals
              rw [hxb] at hmb hmb2
              have HW := SL.hid (show ∀ (A B C D : HProp) (w : World) (an : Option Addr) (cn : Nat), Ent (A :: B :: C :: D :: (m ++ l)) w → (splitL xp).length ≤ cn → Knows (A :: B :: C :: D :: (m ++ l)) (reads (.slice an (splitL xp).length cn) (splitL xp).length ((splitL xp).map strv)) →
                  Calls Tryd.prog 56 #[.agg #[.bool t.dir, .string ⟨t.data.toArray⟩, kv], .slice an (splitL xp).length cn, .agg #[.bool false, .string ⟨xb.toArray⟩, .slice none 0 0]] w
                    (Ret fun v w' => ∃ m' kv', v = .tuple #[.agg #[.bool (Tr.withT (splitL xp) false xb t).2.dir, .string ⟨(Tr.withT (splitL xp) false xb t).2.data.toArray⟩, kv'], .int .i64 (Tr.withT (splitL xp) false xb t).1] ∧ Ent (A :: B :: C :: D :: (m' ++ (m ++ l))) w' ∧ KidsAt (m' ++ (m ++ l)) kv' (Tr.withT (splitL xp) false xb t).2.kids) from
                fun A B C D w an cn h3 h1 h2 => with_any (splitL xp) (by have := (splitL_names xp).1; omega) false xb Hxb.out t 6 hG.2.1 kv [A, B, C, D] (m ++ l) an cn w hkv h1 h2 h3)
              have hadd : addT t ⟨xp, false, xb⟩ = Tr.withT (splitL xp) false xb t := by rw [addT]; simp only [Hse.out]; rw [if_neg (by simp), if_neg (by simp)]
              have HT := SL.hid (show ((Tr.withT (splitL xp) false xb t).1 = 0 → buildT es = goT (Tr.withT (splitL xp) false xb t).2 (es.drop (k + 1))) ∧ (¬ (Tr.withT (splitL xp) false xb t).1 = 0 → buildT es = ((Tr.withT (splitL xp) false xb t).1, .zero)) from by
                rw [hB, goT, hadd]
                exact ⟨fun h => if_pos h, fun h => if_neg h⟩)
              have HG := SL.hid (show (Tr.withT (splitL xp) false xb t).1 = 0 → Good (Tr.withT (splitL xp) false xb t).2 (es.take (k + 1)) from fun h => by
                have := add_good hG (x := ⟨xp, false, xb⟩) (by rw [hadd]; exact h)
                rw [hadd, ← htk] at this
                exact this)
              clear hadd hB hG hkv
              try clear hx0
              try clear hxb
              generalize hres : Tr.withT (splitL xp) false xb t = res at *
              clear hres
              generalize splitL xp = ns at *
              obtain ⟨er, kd⟩ := res
              simp only at HW HT HG
              cases her : (er == 0) with
              | true =>
                obtain rfl : er = 0 := by simpa using her
                clear her
                as_aux_lemma =>
                go_wp2_with (first
                  | go_skip
                  | ((with_reducible (show Go.wpList _ _ _ (Go.Oper.mk _ (.load 63 _) _ _ _ _ :: _) _ _)); refine wpl_loadC rfl rfl rfl Tryd.isAgg63 Tryd.sizeOf63 (enC ⟨xp, false, xb⟩) rfl (fun j v hv => by rw [Addr.add_lit]; exact hL.out _ (hE.suf sfx) j v hv) ?_)
                  | ((with_reducible (show Go.wpList _ _ _ (Go.Oper.mk _ (.alloc 63) _ _ _ _ :: _) _ _)); refine wpl_allocN hE rfl rfl (n := 3) (by kernel_rfl) ?_; clear hE; intro b6 cs w1 hq hE)
                  | ((with_reducible (show Go.wpList _ _ _ (Go.Oper.mk _ (.store 63 _ _) _ _ _ _ :: _) _ _)); refine wpl_storeN hE 0 rfl rfl rfl rfl (xs := enC ⟨xp, false, xb⟩) rfl Tryd.sizeOf63 rfl (by simp [enC, Value.oneCell']) hq ?_; clear hE hq; intro w2 hE; simp only [List.set_cons_zero] at hE; replace hE : Ent (pt b6 (.cells #[.string ⟨xp.toArray⟩, .bool false, .string ⟨xb.toArray⟩] 63) :: pt b4 (.cells #[.bool t.dir, .string ⟨t.data.toArray⟩, kv] 25) :: pt b2 (.cells #[.bool false, .string ⟨#[]⟩, .slice none 0 0] 25) :: (m ++ l)) w2 := hE)
                  | (go_at_call 36; refine (HS.out _ _ hE).mono ?_; clear hE; rintro e w3 ⟨v, rfl, an, cn, rfl, hE⟩)
                  | ((with_reducible (show Go.wpList _ _ _ (Go.Oper.mk _ (.load 25 _) _ _ _ _ :: _) _ _)); refine wpl_loadW (xs := [.bool t.dir, .string ⟨t.data.toArray⟩, kv]) hE 2 rfl rfl rfl rfl Tryd.isAgg25 Tryd.sizeOf25 rfl ?_)
                  | ((with_reducible (show Go.wpList _ _ _ (Go.Oper.mk _ (.load _ _) _ _ _ _ :: _) _ _)); (first | (refine wpl_load1 hE 0 rfl rfl rfl rfl (by simp [go_sem]) rfl ?_) | (refine wpl_load1 hE 1 rfl rfl rfl rfl (by simp [go_sem]) rfl ?_) | (refine wpl_load1 hE 2 rfl rfl rfl rfl (by simp [go_sem]) rfl ?_) | (refine wpl_load1 hE 3 rfl rfl rfl rfl (by simp [go_sem]) rfl ?_) | (refine wpl_load1 hE 4 rfl rfl rfl rfl (by simp [go_sem]) rfl ?_) | (refine wpl_load1 hE 5 rfl rfl rfl rfl (by simp [go_sem]) rfl ?_) | (refine wpl_load1 hE 6 rfl rfl rfl rfl (by simp [go_sem]) rfl ?_) | (refine wpl_load1 hE 7 rfl rfl rfl rfl (by simp [go_sem]) rfl ?_)))
                  | (go_at_call 56; have H := HW.out _ _ _ _ _ an cn hE (row_cap hE 0 rfl) (fun w h => reads_row h 0 rfl); refine H.mono ?_; clear H hE; rintro e w7 ⟨v, rfl, m', kv', rfl, hE, hKA⟩)
                  | ((with_reducible (show Go.wpList _ _ _ (Go.Oper.mk _ (.store 25 (.tmp 4) _) _ _ _ _ :: _) _ _)); refine wpl_storeW hE 2 rfl rfl rfl (xs := [.bool kd.dir, .string ⟨kd.data.toArray⟩, kv']) rfl rfl Tryd.sizeOf25 rfl (by obtain ⟨a1, a2, rfl⟩ := hKA.slice; simp [Value.oneCell']) rfl ?_; clear hE; intro w8 hE; simp only [List.set_cons_zero, List.set_cons_succ] at hE)
                  | ((with_reducible (show Go.wpList _ _ _ (Go.Oper.mk _ (.store 25 (.tmp 2) _) _ _ _ _ :: _) _ _)); refine wpl_storeW hE 3 rfl rfl rfl (xs := [.bool false, .string ⟨#[]⟩, .slice none 0 0]) rfl rfl Tryd.sizeOf25 rfl (by simp [Value.oneCell']) rfl ?_; clear hE; intro w8 hE; simp only [List.set_cons_zero, List.set_cons_succ] at hE))
                go_roundw
                case rel => exact ⟨k + 1, kd, m' ++ m, kv', hlt, by simp, HT.out.1 (by trivial), HG.out (by trivial), by rw [List.append_assoc]; exact hKA, by rw [List.append_assoc]; exact hE.tail.tail⟩
                case measure => simp [intOf]; omega
              | false =>
                have hne : ¬ er = 0 := by simpa using her
                have hne2 : (er != 0) = true := by simp [bne, her]
                have HT2 := SL.hid (HT.out.2 hne)
                clear hne
                as_aux_lemma =>
                go_wp2_with (first
                  | go_skip
                  | ((with_reducible (show Go.wpList _ _ _ (Go.Oper.mk _ (.load 63 _) _ _ _ _ :: _) _ _)); refine wpl_loadC rfl rfl rfl Tryd.isAgg63 Tryd.sizeOf63 (enC ⟨xp, false, xb⟩) rfl (fun j v hv => by rw [Addr.add_lit]; exact hL.out _ (hE.suf sfx) j v hv) ?_)
                  | ((with_reducible (show Go.wpList _ _ _ (Go.Oper.mk _ (.alloc 63) _ _ _ _ :: _) _ _)); refine wpl_allocN hE rfl rfl (n := 3) (by kernel_rfl) ?_; clear hE; intro b6 cs w1 hq hE)
                  | ((with_reducible (show Go.wpList _ _ _ (Go.Oper.mk _ (.store 63 _ _) _ _ _ _ :: _) _ _)); refine wpl_storeN hE 0 rfl rfl rfl rfl (xs := enC ⟨xp, false, xb⟩) rfl Tryd.sizeOf63 rfl (by simp [enC, Value.oneCell']) hq ?_; clear hE hq; intro w2 hE; simp only [List.set_cons_zero] at hE; replace hE : Ent (pt b6 (.cells #[.string ⟨xp.toArray⟩, .bool false, .string ⟨xb.toArray⟩] 63) :: pt b4 (.cells #[.bool t.dir, .string ⟨t.data.toArray⟩, kv] 25) :: pt b2 (.cells #[.bool false, .string ⟨#[]⟩, .slice none 0 0] 25) :: (m ++ l)) w2 := hE)
                  | (go_at_call 36; refine (HS.out _ _ hE).mono ?_; clear hE; rintro e w3 ⟨v, rfl, an, cn, rfl, hE⟩)
                  | ((with_reducible (show Go.wpList _ _ _ (Go.Oper.mk _ (.load 25 _) _ _ _ _ :: _) _ _)); refine wpl_loadW (xs := [.bool t.dir, .string ⟨t.data.toArray⟩, kv]) hE 2 rfl rfl rfl rfl Tryd.isAgg25 Tryd.sizeOf25 rfl ?_)
                  | ((with_reducible (show Go.wpList _ _ _ (Go.Oper.mk _ (.load _ _) _ _ _ _ :: _) _ _)); (first | (refine wpl_load1 hE 0 rfl rfl rfl rfl (by simp [go_sem]) rfl ?_) | (refine wpl_load1 hE 1 rfl rfl rfl rfl (by simp [go_sem]) rfl ?_) | (refine wpl_load1 hE 2 rfl rfl rfl rfl (by simp [go_sem]) rfl ?_) | (refine wpl_load1 hE 3 rfl rfl rfl rfl (by simp [go_sem]) rfl ?_) | (refine wpl_load1 hE 4 rfl rfl rfl rfl (by simp [go_sem]) rfl ?_) | (refine wpl_load1 hE 5 rfl rfl rfl rfl (by simp [go_sem]) rfl ?_) | (refine wpl_load1 hE 6 rfl rfl rfl rfl (by simp [go_sem]) rfl ?_) | (refine wpl_load1 hE 7 rfl rfl rfl rfl (by simp [go_sem]) rfl ?_)))
                  | (go_at_call 56; have H := HW.out _ _ _ _ _ an cn hE (row_cap hE 0 rfl) (fun w h => reads_row h 0 rfl); refine H.mono ?_; clear H hE; rintro e w7 ⟨v, rfl, m', kv', rfl, hE, hKA⟩)
                  | ((with_reducible (show Go.wpList _ _ _ (Go.Oper.mk _ (.store 25 (.tmp 4) _) _ _ _ _ :: _) _ _)); refine wpl_storeW hE 2 rfl rfl rfl (xs := [.bool kd.dir, .string ⟨kd.data.toArray⟩, kv']) rfl rfl Tryd.sizeOf25 rfl (by obtain ⟨a1, a2, rfl⟩ := hKA.slice; simp [Value.oneCell']) rfl ?_; clear hE; intro w8 hE; simp only [List.set_cons_zero, List.set_cons_succ] at hE)
                  | ((with_reducible (show Go.wpList _ _ _ (Go.Oper.mk _ (.store 25 (.tmp 2) _) _ _ _ _ :: _) _ _)); refine wpl_storeW hE 3 rfl rfl rfl (xs := [.bool false, .string ⟨#[]⟩, .slice none 0 0]) rfl rfl Tryd.sizeOf25 rfl (by simp [Value.oneCell']) rfl ?_; clear hE; intro w8 hE; simp only [List.set_cons_zero, List.set_cons_succ] at hE))
                refine bodyPost_ret (results_cell2 rfl hE 3 rfl rfl Tryd.isAgg25 Tryd.sizeOf25 rfl rfl) rfl ?_
                rw [HT2.out]
                exact ⟨_, rfl, m' ++ m, .slice none 0 0, rfl, by rw [List.append_assoc]; exact hE.tail.tail.tail.tail, KidsAt.nil _⟩
        · have HT := SL.hid (show buildT es = (splitE xp, .zero) from by
            rw [hB, goT, addT]
            simp only
            rw [if_pos hse]
            rw [if_neg hse])
          have h1 : (splitE xp == 0) = false := by simpa using hse
          have h2 : (splitE xp != 0) = true := by simpa using hse
          generalize splitE xp = se at *
          as_aux_lemma =>
          go_wp2_with (first
            | go_skip
            | ((with_reducible (show Go.wpList _ _ _ (Go.Oper.mk _ (.load 63 _) _ _ _ _ :: _) _ _)); refine wpl_loadC rfl rfl rfl Tryd.isAgg63 Tryd.sizeOf63 (enC ⟨xp, xd, xb⟩) rfl (fun j v hv => by rw [Addr.add_lit]; exact hL.out _ (hE.suf sfx) j v hv) ?_)
            | ((with_reducible (show Go.wpList _ _ _ (Go.Oper.mk _ (.alloc 63) _ _ _ _ :: _) _ _)); refine wpl_allocN hE rfl rfl (n := 3) (by kernel_rfl) ?_; clear hE; intro b6 cs w1 hq hE)
            | ((with_reducible (show Go.wpList _ _ _ (Go.Oper.mk _ (.store 63 _ _) _ _ _ _ :: _) _ _)); refine wpl_storeN hE 0 rfl rfl rfl rfl (xs := enC ⟨xp, xd, xb⟩) rfl Tryd.sizeOf63 rfl (by simp [enC, Value.oneCell']) hq ?_; clear hE hq; intro w2 hE; simp only [List.set_cons_zero] at hE; replace hE : Ent (pt b6 (.cells #[.string ⟨xp.toArray⟩, .bool xd, .string ⟨xb.toArray⟩] 63) :: pt b4 (.cells #[.bool t.dir, .string ⟨t.data.toArray⟩, kv] 25) :: pt b2 (.cells #[.bool false, .string ⟨#[]⟩, .slice none 0 0] 25) :: (m ++ l)) w2 := hE)
            | (go_at_call 36; refine (HS.out _ _ hE).mono ?_; clear hE; rintro e w3 ⟨v, rfl, an, cn, rfl, hE⟩)
            | ((with_reducible (show Go.wpList _ _ _ (Go.Oper.mk _ (.load 25 _) _ _ _ _ :: _) _ _)); refine wpl_loadW (xs := [.bool t.dir, .string ⟨t.data.toArray⟩, kv]) hE 2 rfl rfl rfl rfl Tryd.isAgg25 Tryd.sizeOf25 rfl ?_)
            | ((with_reducible (show Go.wpList _ _ _ (Go.Oper.mk _ (.load _ _) _ _ _ _ :: _) _ _)); (first | (refine wpl_load1 hE 0 rfl rfl rfl rfl (by simp [go_sem]) rfl ?_) | (refine wpl_load1 hE 1 rfl rfl rfl rfl (by simp [go_sem]) rfl ?_) | (refine wpl_load1 hE 2 rfl rfl rfl rfl (by simp [go_sem]) rfl ?_) | (refine wpl_load1 hE 3 rfl rfl rfl rfl (by simp [go_sem]) rfl ?_) | (refine wpl_load1 hE 4 rfl rfl rfl rfl (by simp [go_sem]) rfl ?_) | (refine wpl_load1 hE 5 rfl rfl rfl rfl (by simp [go_sem]) rfl ?_) | (refine wpl_load1 hE 6 rfl rfl rfl rfl (by simp [go_sem]) rfl ?_) | (refine wpl_load1 hE 7 rfl rfl rfl rfl (by simp [go_sem]) rfl ?_)))
            | ((with_reducible (show Go.wpList _ _ _ (Go.Oper.mk _ (.store 25 _ _) _ _ _ _ :: _) _ _)); refine wpl_storeW hE 3 rfl rfl rfl (xs := [.bool false, .string ⟨#[]⟩, .slice none 0 0]) rfl rfl Tryd.sizeOf25 rfl (by simp [Value.oneCell']) rfl ?_; clear hE; intro w8 hE; simp only [List.set_cons_zero, List.set_cons_succ] at hE))
          refine bodyPost_ret (results_cell2 rfl hE 3 rfl rfl Tryd.isAgg25 Tryd.sizeOf25 rfl rfl) rfl ?_
          rw [HT.out]
          exact ⟨_, rfl, m, .slice none 0 0, rfl, hE.tail.tail.tail.tail, KidsAt.nil _⟩
      · obtain rfl : k = es.length := by omega
        rw [List.drop_length] at hB
        have HT := SL.hid (show buildT es = (0, t) from hB)
        as_aux_lemma =>
        go_wp2_with (first
          | go_skip
          | ((with_reducible (show Go.wpList _ _ _ (Go.Oper.mk _ (.load 25 _) _ _ _ _ :: _) _ _)); refine wpl_loadW (xs := [.bool t.dir, .string ⟨t.data.toArray⟩, kv]) hE 0 rfl rfl rfl rfl Tryd.isAgg25 Tryd.sizeOf25 rfl ?_)
          | ((with_reducible (show Go.wpList _ _ _ (Go.Oper.mk _ (.store 25 _ _) _ _ _ _ :: _) _ _)); refine wpl_storeW hE 1 rfl rfl rfl (xs := [.bool t.dir, .string ⟨t.data.toArray⟩, kv]) rfl rfl Tryd.sizeOf25 rfl (by obtain ⟨a1, a2, rfl⟩ := hkv.slice; simp [Value.oneCell']) rfl ?_; clear hE; intro w8 hE; simp only [List.set_cons_zero, List.set_cons_succ] at hE))
        refine bodyPost_ret (results_cell2 rfl hE 1 rfl rfl Tryd.isAgg25 Tryd.sizeOf25 rfl rfl) rfl ?_
        rw [HT.out]
        exact ⟨_, rfl, m, kv, rfl, hE.tail.tail, hkv⟩
end Go.Proofs.YtcpgelpajppgdaaDoor
namespace Go.Proofs.YtcpgelpajppgdaaDoor
open Go.RowKit Go.SL

def sdC (s : Sd) : List Value := [.bool s.there, .bool s.dir, .string ⟨s.data.toArray⟩]
def sdV (s : Sd) : Value := .agg #[.bool s.there, .bool s.dir, .string ⟨s.data.toArray⟩]
set_option maxRecDepth 100000 in
theorem pathOf_any (x : En) {l : List HProp} {w : World} (hE : Ent l w) :
    Calls Tryd.prog 31 #[.agg #[.string ⟨x.path.toArray⟩, .bool x.dir, .string ⟨x.data.toArray⟩]] w (Ret fun v w' => v = .string ⟨x.path.toArray⟩ ∧ Ent l w') := by
  go_enter Tryd.func31, Tryd.ntmps31
  go_wp2_with (first
    | go_skip
    | ((with_reducible (show Go.wpList _ _ _ (Go.Oper.mk _ (.box _ _) _ _ _ _ :: _) _ _)); refine wpl_box hE rfl rfl rfl ?_; clear hE; intro b1 w hE; simp only [Act.eval, Act.put, List.setIfInBounds_toArray, List.set_cons_zero, List.set_cons_succ, getD_lit, List.getD_cons_succ, List.getD_cons_zero, Value.cells] at hE)
    | ((with_reducible (show Go.wpList _ _ _ (Go.Oper.mk _ (.load _ _) _ _ _ _ :: _) _ _)); (first | (refine wpl_load1 hE 0 rfl rfl rfl rfl (by simp [go_sem]) rfl ?_) | (refine wpl_load1 hE 1 rfl rfl rfl rfl (by simp [go_sem]) rfl ?_) | (refine wpl_load1 hE 2 rfl rfl rfl rfl (by simp [go_sem]) rfl ?_) | (refine wpl_load1 hE 3 rfl rfl rfl rfl (by simp [go_sem]) rfl ?_) | (refine wpl_load1 hE 4 rfl rfl rfl rfl (by simp [go_sem]) rfl ?_) | (refine wpl_load1 hE 5 rfl rfl rfl rfl (by simp [go_sem]) rfl ?_) | (refine wpl_load1 hE 6 rfl rfl rfl rfl (by simp [go_sem]) rfl ?_) | (refine wpl_load1 hE 7 rfl rfl rfl rfl (by simp [go_sem]) rfl ?_))))
  go_ret
  exact ⟨_, rfl, rfl, hE.tail⟩
theorem maySd_eq (t d : Bool) (b : List UInt8) : maySd ⟨t, d, b⟩ = bif t then (!d || b == []) else (!d && b == []) := by
  by_cases h : b = []
  · subst h
    cases t <;> cases d <;> rfl
  · have h1 : (b == []) = false := by simpa using h
    have h2 : ((⟨t, d, b⟩ : Sd) == .no) = false := by
      rw [beq_eq_false_iff_ne]
      intro e
      exact h (congrArg Sd.data e)
    rw [maySd, h2]
    simp only
    rw [h1]
    cases t <;> cases d <;> rfl
set_option maxRecDepth 100000 in
theorem rside_any (s : Sd) {l : List HProp} {w : World} (hE : Ent l w) :
    Calls Tryd.prog 65 #[sdV s] w (Ret fun v w' => v = .bool (maySd s) ∧ Ent l w') := by
  obtain ⟨t, d, b⟩ := s
  simp only [sdV]
  have Hm := SL.hid (maySd_eq t d b)
  cases hb : (b == [])
  all_goals
    rw [hb] at Hm
    cases t <;> cases d
    all_goals
      go_enter Tryd.func65, Tryd.ntmps65
      go_wp2_with (first
        | go_skip
        | ((with_reducible (show Go.wpList _ _ _ (Go.Oper.mk _ (.box _ _) _ _ _ _ :: _) _ _)); refine wpl_box hE rfl rfl rfl ?_; clear hE; intro b1 w hE; simp only [Act.eval, Act.put, List.setIfInBounds_toArray, List.set_cons_zero, List.set_cons_succ, getD_lit, List.getD_cons_succ, List.getD_cons_zero, Value.cells] at hE)
        | ((with_reducible (show Go.wpList _ _ _ (Go.Oper.mk _ (.load _ _) _ _ _ _ :: _) _ _)); (first | (refine wpl_load1 hE 0 rfl rfl rfl rfl (by simp [go_sem]) rfl ?_) | (refine wpl_load1 hE 1 rfl rfl rfl rfl (by simp [go_sem]) rfl ?_) | (refine wpl_load1 hE 2 rfl rfl rfl rfl (by simp [go_sem]) rfl ?_) | (refine wpl_load1 hE 3 rfl rfl rfl rfl (by simp [go_sem]) rfl ?_) | (refine wpl_load1 hE 4 rfl rfl rfl rfl (by simp [go_sem]) rfl ?_) | (refine wpl_load1 hE 5 rfl rfl rfl rfl (by simp [go_sem]) rfl ?_) | (refine wpl_load1 hE 6 rfl rfl rfl rfl (by simp [go_sem]) rfl ?_) | (refine wpl_load1 hE 7 rfl rfl rfl rfl (by simp [go_sem]) rfl ?_))))
      go_ret
      exact ⟨_, rfl, by rw [Hm.out] <;> rfl, hE.tail⟩
set_option maxRecDepth 100000 in
theorem side_may_any (s : Sd) {l : List HProp} {w : World} (hE : Ent l w) :
    Calls Tryd.prog 63 #[sdV s] w (Ret fun v w' => v = .bool (maySd s) ∧ Ent l w') := by
  obtain ⟨t, d, b⟩ := s
  simp only [sdV]
  have Hm := SL.hid (maySd_eq t d b)
  cases hb : (b == [])
  all_goals
    rw [hb] at Hm
    cases t <;> cases d
    all_goals
      go_enter Tryd.func63, Tryd.ntmps63
      go_wp2_with (first
        | go_skip
        | ((with_reducible (show Go.wpList _ _ _ (Go.Oper.mk _ (.box _ _) _ _ _ _ :: _) _ _)); refine wpl_box hE rfl rfl rfl ?_; clear hE; intro b1 w hE; simp only [Act.eval, Act.put, List.setIfInBounds_toArray, List.set_cons_zero, List.set_cons_succ, getD_lit, List.getD_cons_succ, List.getD_cons_zero, Value.cells] at hE)
        | ((with_reducible (show Go.wpList _ _ _ (Go.Oper.mk _ (.load 36 _) _ _ _ _ :: _) _ _)); (first | (refine wpl_loadW hE 0 rfl rfl rfl rfl Tryd.isAgg36 Tryd.sizeOf36 rfl ?_) | (refine wpl_loadW hE 1 rfl rfl rfl rfl Tryd.isAgg36 Tryd.sizeOf36 rfl ?_) | (refine wpl_loadW hE 2 rfl rfl rfl rfl Tryd.isAgg36 Tryd.sizeOf36 rfl ?_) | (refine wpl_loadW hE 3 rfl rfl rfl rfl Tryd.isAgg36 Tryd.sizeOf36 rfl ?_) | (refine wpl_loadW hE 4 rfl rfl rfl rfl Tryd.isAgg36 Tryd.sizeOf36 rfl ?_) | (refine wpl_loadW hE 5 rfl rfl rfl rfl Tryd.isAgg36 Tryd.sizeOf36 rfl ?_) | (refine wpl_loadW hE 6 rfl rfl rfl rfl Tryd.isAgg36 Tryd.sizeOf36 rfl ?_) | (refine wpl_loadW hE 7 rfl rfl rfl rfl Tryd.isAgg36 Tryd.sizeOf36 rfl ?_)))
        | ((with_reducible (show Go.wpList _ _ _ (Go.Oper.mk _ (.load _ _) _ _ _ _ :: _) _ _)); (first | (refine wpl_load1 hE 0 rfl rfl rfl rfl (by simp [go_sem]) rfl ?_) | (refine wpl_load1 hE 1 rfl rfl rfl rfl (by simp [go_sem]) rfl ?_) | (refine wpl_load1 hE 2 rfl rfl rfl rfl (by simp [go_sem]) rfl ?_) | (refine wpl_load1 hE 3 rfl rfl rfl rfl (by simp [go_sem]) rfl ?_) | (refine wpl_load1 hE 4 rfl rfl rfl rfl (by simp [go_sem]) rfl ?_) | (refine wpl_load1 hE 5 rfl rfl rfl rfl (by simp [go_sem]) rfl ?_) | (refine wpl_load1 hE 6 rfl rfl rfl rfl (by simp [go_sem]) rfl ?_) | (refine wpl_load1 hE 7 rfl rfl rfl rfl (by simp [go_sem]) rfl ?_))))
      go_ret
      exact ⟨_, rfl, by rw [Hm.out] <;> rfl, hE.tail⟩
end Go.Proofs.YtcpgelpajppgdaaDoor
namespace Go.Proofs.YtcpgelpajppgdaaDoor
open Go.RowKit Go.SL

def AtRel (q : List (List UInt8)) (t0 : Tr) (b2 b4 : Nat) (lk l : List HProp) (i : Value) (wr : World) : Prop :=
  ∃ (k : Nat) (t : Tr) (d : Nat) (kv : Value), k ≤ q.length ∧ i = .int .i64 k ∧ atT 11 10 q t0 = atT 11 10 (q.drop k) t ∧ Tr.Wf d t ∧ KidsAt lk kv t.kids ∧
    Ent (pt b4 (.cells #[.bool false, .string ⟨#[]⟩, .slice none 0 0] 25) :: pt b2 (.cells #[.bool t.dir, .string ⟨t.data.toArray⟩, kv] 25) :: l) wr
set_option maxRecDepth 100000 in
set_option maxHeartbeats 8000000 in
attribute [-go_sem] Instr.loadAt in
theorem At_in {t0 : Tr} {d0 : Nat} (hw : Tr.Wf d0 t0) {kv0 : Value} {lk l : List HProp} (hlk : ∀ W, Ent l W → Ent lk W) (hkv : KidsAt lk kv0 t0.kids) {q : List (List UInt8)} (hq : q.length ≤ 1000) {an : Option Addr} {cn : Nat} {w : World} (hn : Knows l (reads (.slice an q.length cn) q.length (q.map strv))) (hE : Ent l w) :
    Calls Tryd.prog 37 #[nodeV t0 kv0, .slice an q.length cn] w (Ret fun v w' => ∃ kv', v = .tuple #[nodeV (atT 11 10 q t0).2 kv', .int .i64 (atT 11 10 q t0).1] ∧ Ent l w' ∧ KidsAt lk kv' (atT 11 10 q t0).2.kids) := by
  have Hlk := SL.hid hlk
  clear hlk
  unfold nodeV
  go_enter Tryd.func37, Tryd.ntmps37
  go_wp2_with (first
    | go_skip
    | ((with_reducible (show Go.wpList _ _ _ (Go.Oper.mk _ (.box _ _) _ _ _ _ :: _) _ _)); refine wpl_box hE rfl rfl rfl ?_; clear hE; intro b2 w hE; simp only [Act.eval, Act.put, List.setIfInBounds_toArray, List.set_cons_zero, List.set_cons_succ, getD_lit, List.getD_cons_succ, List.getD_cons_zero, Value.cells] at hE)
    | ((with_reducible (show Go.wpList _ _ _ (Go.Oper.mk _ (.alloc _) _ _ _ _ :: _) _ _)); refine wpl_alloc hE rfl rfl (by simp [go_sem]; rfl) ?_; clear hE; intro b4 w hE; simp only [Act.eval, Act.put, List.setIfInBounds_toArray, List.set_cons_zero, List.set_cons_succ, getD_lit, List.getD_cons_succ, List.getD_cons_zero, Value.cells] at hE))
  go_loopw [12] (fun i wr => AtRel q t0 b2 b4 lk l i wr) (fun i _ => q.length - (intOf i).toNat)
  case atStart => exact ⟨0, t0, d0, kv0, Nat.zero_le _, rfl, rfl, hw, hkv, hE⟩
  case round =>
    clear hE hw hkv
    obtain ⟨k, t, d, kv, hkn, rfl, hB, hw, hkv, hE⟩ := hrel
    by_cases hlt : k < q.length
    · obtain ⟨b, off, rfl, hz⟩ := reads_form (hn _ hE.tail.tail) (by omega) (by rw [List.length_map]; omega)
      clear hz
      have hln : (Instr.loadAt 9 (.pointer (some ⟨b, off + k, none⟩))).run Tryd.prog wr = .ok (.string ⟨q[k].toArray⟩) wr := atCell (str_cells (hn _ hE.tail.tail) hlt) (by simp [go_sem])
      have hdk : q.drop k = q[k] :: q.drop (k + 1) := List.drop_eq_getElem_cons hlt
      rw [hdk, atT] at hB
      have hr := Tr.wf_rising hw
      have h6 := (Tr.wf_size hw).2
      obtain ⟨t_d, t_b, ks⟩ := t
      obtain ⟨ao, c, vs, rfl, hc, hl, hkk, hks, hone⟩ := hkv.open
      replace hl : vs.length = ks.length := hl
      replace h6 : ks.length ≤ 6 := h6
      replace hkk : Knows lk (reads (.slice ao ks.length c) ks.length (kCs ks vs)) := hkk
      replace hks : ∀ (i : Nat) (h : i < ks.length) (h' : i < vs.length), KidsAt lk vs[i] ks[i].2.kids := hks
      replace hkv : KidsAt lk (.slice ao ks.length c) ks := hkv
      have hF := SL.hid (show ∀ (L : List HProp), l <:+ L → ∀ w, Ent L w → Calls Tryd.prog 59 #[.slice ao ks.length c, .string ⟨q[k].toArray⟩, .func (.func 60) #[] #[]] w
        (Ret fun r w' => r = .tuple #[.int .i64 (placeOf (ks.map Prod.fst) q[k]), .bool (isIn (ks.map Prod.fst) q[k])] ∧ Ent L w') from fun L hL w hw => find_any (hkv.mono fun p hp W hW => hp W (Hlk.out W (hW.suf hL))) hr (by omega) _ hw)
      have hplace : isIn (ks.map Prod.fst) q[k] = true → ∃ x : Tr, ks[placeOf (ks.map Prod.fst) q[k]]? = some (q[k], x) ∧ Tr.kid? (.nd t_d t_b ks) q[k] = some x := fun h => by
        obtain ⟨hi, e, e2⟩ := Tr.kid_place (t := .nd t_d t_b ks) hr h
        exact ⟨_, (List.getElem?_eq_getElem hi).trans (congrArg some (Prod.ext e rfl)), e2⟩
      have hnone : isIn (ks.map Prod.fst) q[k] = false → Tr.kid? (.nd t_d t_b ks) q[k] = none := fun h => Tr.kid_none.2 h
      have Hn := SL.hid hn
      have Hks := SL.hid hks
      have hks2 := Hks
      simp only [Tr.dir, Tr.data] at hB hE ⊢
      generalize placeOf (ks.map Prod.fst) q[k] = p at *
      generalize isIn (ks.map Prod.fst) q[k] = is at *
      cases t_d with
      | false =>
        have HT := SL.hid (show atT 11 10 q t0 = (11, .zero) from hB.trans (if_neg (by simp)))
        clear hB hplace hnone hks2
        generalize q[k] = x at *
        as_aux_lemma =>
          go_wp2_with (first
            | go_skip
            | ((with_reducible (show Go.wpList _ _ _ (Go.Oper.mk _ (.load 9 _) _ _ _ _ :: _) _ _)); refine wpl_run rfl (w' := wr) (v := .string ⟨x.toArray⟩) (by simp only [execOp, Act.eval]; simp [hln]) ?_)
            | ((with_reducible (show Go.wpList _ _ _ (Go.Oper.mk _ (.load 23 _) _ _ _ _ :: _) _ _)); refine wpl_load1 hE 1 rfl rfl rfl rfl (by simp [go_sem]) rfl ?_)
            | ((with_reducible (show Go.wpList _ _ _ (Go.Oper.mk _ (.load 4 _) _ _ _ _ :: _) _ _)); refine wpl_load1 hE 1 rfl rfl rfl rfl (by simp [go_sem]) rfl ?_)
            | (go_at_call 59; refine (hF.out _ (by exact List.suffix_append [_, _] l) _ hE).mono ?_; clear hE; rintro e w3 ⟨v, rfl, rfl, hE⟩)
            | ((with_reducible (show Go.wpList _ _ _ (Go.Oper.mk _ (.store 25 _ _) _ _ _ _ :: _) _ _)); refine wpl_storeW hE 0 rfl rfl rfl (xs := [.bool false, .string ⟨#[]⟩, .slice none 0 0]) rfl rfl Tryd.sizeOf25 rfl (by simp [Value.oneCell']) rfl ?_; clear hE; intro w8 hE; simp only [List.set_cons_zero, List.set_cons_succ] at hE))
          refine bodyPost_ret (results_cell2 rfl hE 0 rfl rfl Tryd.isAgg25 Tryd.sizeOf25 rfl rfl) rfl ?_
          rw [HT.out]
          exact ⟨_, rfl, .slice none 0 0, rfl, hE.tail.tail, KidsAt.nil _⟩
      | true =>
        cases is with
        | false =>
          have HT := SL.hid (show atT 11 10 q t0 = (10, .zero) from by rw [hB]; simp [hnone rfl])
          clear hB hplace hnone hks2
          generalize q[k] = x at *
          as_aux_lemma =>
          go_wp2_with (first
            | go_skip
            | ((with_reducible (show Go.wpList _ _ _ (Go.Oper.mk _ (.load 9 _) _ _ _ _ :: _) _ _)); refine wpl_run rfl (w' := wr) (v := .string ⟨x.toArray⟩) (by simp only [execOp, Act.eval]; simp [hln]) ?_)
            | ((with_reducible (show Go.wpList _ _ _ (Go.Oper.mk _ (.load 23 _) _ _ _ _ :: _) _ _)); refine wpl_load1 hE 1 rfl rfl rfl rfl (by simp [go_sem]) rfl ?_)
            | ((with_reducible (show Go.wpList _ _ _ (Go.Oper.mk _ (.load 4 _) _ _ _ _ :: _) _ _)); refine wpl_load1 hE 1 rfl rfl rfl rfl (by simp [go_sem]) rfl ?_)
            | (go_at_call 59; refine (hF.out _ (by exact List.suffix_append [_, _] l) _ hE).mono ?_; clear hE; rintro e w3 ⟨v, rfl, rfl, hE⟩)
            | ((with_reducible (show Go.wpList _ _ _ (Go.Oper.mk _ (.store 25 _ _) _ _ _ _ :: _) _ _)); refine wpl_storeW hE 0 rfl rfl rfl (xs := [.bool false, .string ⟨#[]⟩, .slice none 0 0]) rfl rfl Tryd.sizeOf25 rfl (by simp [Value.oneCell']) rfl ?_; clear hE; intro w8 hE; simp only [List.set_cons_zero, List.set_cons_succ] at hE))
          refine bodyPost_ret (results_cell2 rfl hE 0 rfl rfl Tryd.isAgg25 Tryd.sizeOf25 rfl rfl) rfl ?_
          rw [HT.out]
          exact ⟨_, rfl, .slice none 0 0, rfl, hE.tail.tail, KidsAt.nil _⟩
        | true =>
          obtain ⟨x0, hx0, hx1⟩ := hplace rfl
          obtain ⟨hpk, hpe⟩ := List.getElem?_eq_some_iff.1 hx0
          have HT := SL.hid (show atT 11 10 q t0 = atT 11 10 (q.drop (k + 1)) x0 from by rw [hB]; simp [hx1])
          obtain ⟨d', rfl, hwk⟩ := Tr.wf_kid hw (show (q[k], x0) ∈ (Tr.nd true t_b ks).kids from hpe ▸ List.getElem_mem hpk)
          obtain ⟨bk, ok, hao, hz⟩ := kids_at hl (hkk _ (Hlk.out _ hE.tail.tail)) hpk
          clear hz
          subst hao
          have hLe := SL.hid (show ∀ (W : World), Ent l W → ∀ j v, [Value.bool x0.dir, .string ⟨x0.data.toArray⟩, vs[p]'(by omega)][j]? = some v → W.cell? ((⟨bk, ok + p * 4 + 1, none⟩ : Addr).add j) = some v from fun W hW j v hv => by
            obtain ⟨b', o', e, h⟩ := kids_at hl (hkk W (Hlk.out W hW)) hpk
            cases e
            have := h (1 + j) v (by rw [kC, hpe, Nat.add_comm 1 j]; simpa using hv)
            rw [Addr.add_lit]
            rwa [← Nat.add_assoc] at this)
          have hkx : KidsAt lk (vs[p]'(by omega)) x0.kids := by
            have := hks p hpk (by omega)
            rwa [hpe] at this
          have hpi : (p : Int) < (ks.length : Int) := by omega
          have hpj : p < ks.length := hpk
          have Hwk := SL.hid hwk
          clear hB hplace hnone hks2 Hks hks hx0 hx1 hpe hw hwk hkv
          obtain ⟨kvp, hkvp⟩ : ∃ x, vs[p]'(by omega) = x := ⟨_, rfl⟩
          rw [hkvp] at hLe hkx
          clear hkvp hdk
          generalize q[k] = x at *
          as_aux_lemma =>
          go_wp2_with (first
            | go_skip
            | ((with_reducible (show Go.wpList _ _ _ (Go.Oper.mk _ (.load 9 _) _ _ _ _ :: _) _ _)); refine wpl_run rfl (w' := wr) (v := .string ⟨x.toArray⟩) (by simp only [execOp, Act.eval]; simp [hln]) ?_)
            | ((with_reducible (show Go.wpList _ _ _ (Go.Oper.mk _ (.load 23 _) _ _ _ _ :: _) _ _)); refine wpl_load1 hE 1 rfl rfl rfl rfl (by simp [go_sem]) rfl ?_)
            | ((with_reducible (show Go.wpList _ _ _ (Go.Oper.mk _ (.load 4 _) _ _ _ _ :: _) _ _)); refine wpl_load1 hE 1 rfl rfl rfl rfl (by simp [go_sem]) rfl ?_)
            | (go_at_call 59; refine (hF.out _ (by exact List.suffix_append [_, _] l) _ hE).mono ?_; clear hE; rintro e w3 ⟨v, rfl, rfl, hE⟩)
            | ((with_reducible (show Go.wpList _ _ _ (Go.Oper.mk _ (.load 25 _) _ _ _ _ :: _) _ _)); refine wpl_loadC rfl rfl rfl Tryd.isAgg25 Tryd.sizeOf25 [.bool x0.dir, .string ⟨x0.data.toArray⟩, kvp] rfl (hLe.out _ hE.tail.tail) ?_)
            | ((with_reducible (show Go.wpList _ _ _ (Go.Oper.mk _ (.store 25 _ _) _ _ _ _ :: _) _ _)); refine wpl_storeW hE 1 rfl rfl rfl (xs := [.bool x0.dir, .string ⟨x0.data.toArray⟩, kvp]) rfl rfl Tryd.sizeOf25 rfl (by obtain ⟨a1, a2, rfl⟩ := hkx.slice; simp [Value.oneCell']) rfl ?_; clear hE; intro w8 hE; simp only [List.set_cons_zero, List.set_cons_succ] at hE))
          go_roundw
          case rel => exact ⟨k + 1, x0, d', kvp, hlt, by simp, HT.out, Hwk.out, hkx, hE⟩
          case measure => simp [intOf]; omega
    · obtain rfl : k = q.length := by omega
      rw [List.drop_length] at hB
      have HT := SL.hid (show atT 11 10 q t0 = (0, t) from hB)
      as_aux_lemma =>
      go_wp2_with (first
        | go_skip
        | ((with_reducible (show Go.wpList _ _ _ (Go.Oper.mk _ (.load 25 _) _ _ _ _ :: _) _ _)); refine wpl_loadW (xs := [.bool t.dir, .string ⟨t.data.toArray⟩, kv]) hE 1 rfl rfl rfl rfl Tryd.isAgg25 Tryd.sizeOf25 rfl ?_)
        | ((with_reducible (show Go.wpList _ _ _ (Go.Oper.mk _ (.store 25 _ _) _ _ _ _ :: _) _ _)); refine wpl_storeW hE 0 rfl rfl rfl (xs := [.bool t.dir, .string ⟨t.data.toArray⟩, kv]) rfl rfl Tryd.sizeOf25 rfl (by obtain ⟨a1, a2, rfl⟩ := hkv.slice; simp [Value.oneCell']) rfl ?_; clear hE; intro w8 hE; simp only [List.set_cons_zero, List.set_cons_succ] at hE))
      refine bodyPost_ret (results_cell2 rfl hE 0 rfl rfl Tryd.isAgg25 Tryd.sizeOf25 rfl rfl) rfl ?_
      rw [HT.out]
      exact ⟨_, rfl, kv, rfl, hE.tail.tail, hkv⟩
theorem At_any {t0 : Tr} {d0 : Nat} (hw : Tr.Wf d0 t0) {kv0 : Value} {l : List HProp} (hkv : KidsAt l kv0 t0.kids) {q : List (List UInt8)} (hq : q.length ≤ 1000) {an : Option Addr} {cn : Nat} {w : World} (hn : Knows l (reads (.slice an q.length cn) q.length (q.map strv))) (hE : Ent l w) :
    Calls Tryd.prog 37 #[nodeV t0 kv0, .slice an q.length cn] w (Ret fun v w' => ∃ kv', v = .tuple #[nodeV (atT 11 10 q t0).2 kv', .int .i64 (atT 11 10 q t0).1] ∧ Ent l w' ∧ KidsAt l kv' (atT 11 10 q t0).2.kids) := At_in hw (fun _ h => h) hkv hq hn hE
end Go.Proofs.YtcpgelpajppgdaaDoor
namespace Go.SL
section
variable {P : Program} {w : World} {l : List HProp}

theorem run_copyS (dT sT ty elem : TypeId) (g dLen dCap : Nat) (ys : List UInt8) (cur : Array Value) (t : TypeId)
    (hu : P.underlying dT = some (.slice elem)) (hs : (P.info? elem).map (·.size) = some 1) (hg : w.heap[g]? = some (.cells cur t (0, 0))) (hfit : dLen ≤ cur.size) :
    (Builtin.copy_ #[dT, sT] ty #[.slice (some ⟨g, 0, none⟩) dLen dCap, .string ⟨ys.toArray⟩]).run P w =
      .ok (goInt (min ys.length dLen : Nat)) (w.setRow g (((ys.take dLen).map fun b => Value.int .u8 b.toNat) ++ cur.toList.drop (min ys.length dLen)).toArray) := by
  have hlen : ((ys.take dLen).map fun b => Value.int .u8 (b.toNat : Int)).length = min ys.length dLen := by rw [List.length_map, List.length_take, Nat.min_comm]
  have h1 : ∀ u ∈ ((ys.take dLen).map fun b => Value.int .u8 (b.toNat : Int)), u.oneCell' = true := by
    intro v hv
    simp only [List.mem_map] at hv
    obtain ⟨b, _, rfl⟩ := hv
    rfl
  have hst := run_storeCells_at P g 0 t ((ys.take dLen).map fun b => Value.int .u8 (b.toNat : Int)) 0 cur w hg (by rw [hlen]; omega) h1
  rw [hlen] at hst
  simp only [Nat.add_zero, Nat.zero_add, List.take_zero, List.nil_append] at hst
  have hsz : (ByteArray.mk ys.toArray).size = ys.length := by simp [ByteArray.size]
  have hmin : Nat.min ys.length dLen = min ys.length dLen := rfl
  have htk : List.take (min ys.length dLen) (List.map (fun b : UInt8 => Value.int IntKind.u8 (b.toNat : Int)) ys) = (ys.take dLen).map fun b => Value.int .u8 (b.toNat : Int) := by
    rw [← List.map_take]
    congr 1
    rw [Nat.min_comm, List.take_eq_take_iff]
    omega
  cases hq : P.info? elem with
  | none => simp [hq] at hs
  | some i =>
    simp [Builtin.copy_, run_underlying hu, Builtin.lenOf, Builtin.firstCells, sizeOf, typeInfo, hq, hsz, hmin]
    rw [htk, hst]
    simp [Result.andThen]

theorem step_copyS {ops : Array Oper} {o : Oper} {a : Act} {K : Act → World → Prop} {Q : Exit → Act → World → Prop} {E : Prop} (hE : Ent l w) (i : Nat) {g : Nat} {cur : Array Value} {T : TypeId} (hi : l[i]? = some (pt g (.cells cur T (0, 0))))
    {d s : Operand} {dT sT elem : TypeId} (ho : o.op = .call { callee := .builtin .copy, args := #[d, s], argTypes := #[dT, sT] }) (hw : Region.wanted o (yielded ops a.tmps) = true)
    {dLen dCap : Nat} (hd : a.eval d = .slice (some ⟨g, 0, none⟩) dLen dCap) {ys : List UInt8} (hy : a.eval s = .string ⟨ys.toArray⟩)
    (hu : P.underlying dT = some (.slice elem)) (hs : (P.info? elem).map (·.size) = some 1) (hfit : dLen ≤ cur.size)
    (h : ∀ w', Ent (l.set i (pt g (.cells (((ys.take dLen).map fun b => Value.int .u8 b.toNat) ++ cur.toList.drop (min ys.length dLen)).toArray T (0, 0)))) w' → K (a.put o.dst (goInt (min ys.length dLen : Nat))) w') :
    if Region.wanted o (yielded ops a.tmps) = true then Oper.wp P o a w K Q else E := by
  rw [if_pos hw]
  have hr := run_copyS (P := P) (w := w) dT sT o.type elem g dLen dCap ys cur T hu hs (hE.at i hi) hfit
  unfold Oper.wp execOp
  simp only [ho, resolve, invoke, builtin, Sem.run_bind, Sem.run_pure, Result.andThen_ok, List.map_toArray, List.map_cons, List.map_nil, hd, hy, hr]
  exact h _ (hE.setRow i hi _)
end
end Go.SL
namespace Go.SL
section
variable {P : Program} {w : World} {l : List HProp} {ops : Array Oper} {o : Oper} {a : Act} {K : Act → World → Prop} {Q : Exit → Act → World → Prop} {E : Prop}

theorem step_run (hw : Region.wanted o (yielded ops a.tmps) = true) {v : Value} {w' : World} (hr : (execOp a.eval o).run P w = .ok (.value v) w') (h : K (a.put o.dst v) w') :
    if Region.wanted o (yielded ops a.tmps) = true then Oper.wp P o a w K Q else E := by
  rw [if_pos hw]
  simp only [Oper.wp, hr, Oper.upon]
  exact h

theorem step_loadW (hE : Ent l w) (i : Nat) {b : Nat} {xs : List Value} {T : TypeId} {fz : Nat × Nat} (hi : l[i]? = some (pt b (.cells xs.toArray T fz)))
    {t : TypeId} {x : Operand} (ho : o.op = .load t x) (hw : Region.wanted o (yielded ops a.tmps) = true)
    (hx : a.eval x = .pointer (some ⟨b, 0, none⟩)) (hA : ∀ w, (isAgg t).run P w = .ok true w) {n : Nat} (hn : ∀ w, (Go.sizeOf t).run P w = .ok n w) (hl : xs.length = n)
    (h : K (a.put o.dst (.agg xs.toArray)) w) : if Region.wanted o (yielded ops a.tmps) = true then Oper.wp P o a w K Q else E := by
  refine step_run hw (w' := w) (v := .agg xs.toArray) ?_ h
  simp [execOp, ho, hx, run_loadA hE i hi hA hn hl (off := 0) (fun j _ => by simp)]

theorem step_neA {t e t' : TypeId} {x y : Operand} (ho : o.op = .binOp .neq t x y t') (hw : Region.wanted o (yielded ops a.tmps) = true) {ys zs : List UInt8} {n : Nat}
    (hx : a.eval x = .agg (ys.map fun b => Value.int .u8 b.toNat).toArray) (hy : a.eval y = .agg (zs.map fun b => Value.int .u8 b.toNat).toArray)
    (hm : P.eqGuardType P.depth t = false) (hu : P.underlying t = some (.array n e)) (hi : (P.info? e).isSome = true) (h1 : P.cellsOf e = 1) (he : P.underlying e = some (.int .u8)) (ha : ys.length = n) (hb : zs.length = n)
    (h : K (a.put o.dst (.bool (!(ys == zs)))) w) : if Region.wanted o (yielded ops a.tmps) = true then Oper.wp P o a w K Q else E := by
  obtain ⟨i, hi⟩ := Option.isSome_iff_exists.1 hi
  refine step_run hw (w' := w) (v := .bool (!(ys == zs))) ?_ h
  simp [execOp, ho, hx, hy, run_eqGuard_agg _ _ _ _ _ _ _ hm, run_neq_struct, run_equalA 9998 hu hi h1 he ys zs ha hb]
end
end Go.SL
namespace Go.SL
section
variable {P : Program} {w : World} {l : List HProp}
theorem reads_cap {ao : Option Addr} {n c : Nat} {xs : List Value} (h : reads (.slice ao n c) n xs w) (c' : Nat) : reads (.slice ao n c') n xs w := by
  obtain ⟨a, c0, e, h1, h2⟩ := h
  cases e
  exact ⟨_, c', rfl, h1, h2⟩
theorem Ent.appendFull {e : TypeId} {size bytes : Nat} {t : TypeId} (ty : TypeId) (hE : Ent l w) (ht : P.underlying t = some (.slice e)) (hI : elemInfo P e = some (some size, size, bytes)) (hsz : 0 < size)
    {ao : Option Addr} {n : Nat} {xs : List Value} (hr : reads (.slice ao n n) n xs w) (hxl : xs.length = n * size)
    {ad : Addr} {m c : Nat} {news : List Value} (hx : reads (.slice (some ad) m c) m news w) (hl : news.length = m * size) (hm : 0 < m) (h1 : ∀ u ∈ news, u.oneCell' = true) (hbytes : (n + m) * bytes ≤ 140737488355328) (h63 : n + m ≤ 140737488355328) :
    ∃ ao' c' w', (Builtin.append_ #[t, t] ty #[.slice ao n n, .slice (some ad) m c]).run P w = .ok (.slice ao' (n + m) c') w' ∧ Ent (row e size (.slice ao' (n + m) c') (n + m) (xs ++ news) :: l) w' := by
  obtain ⟨i, z, hi, hz, hs, hb, hzs⟩ := elemInfo_parts hI
  subst hs hb
  obtain ⟨ao2, c2, e2, hnone, hc⟩ := hr
  cases e2
  obtain ⟨ad3, c3, e3, _, hc3⟩ := hx
  cases e3
  have hsrc := Src.ofSlice (P := P) w ht ad m c news hl (hc3 ad rfl) h1
  have hlen : (xs ++ news).length = (n + m) * i.size := by rw [List.length_append, hxl, hl, Nat.add_mul]
  have hzero : ∀ k, (Builtin.zeroCells z.cells k).size = k * i.size := fun k => by rw [size_zeroCells, hzs]
  have hold : (Builtin.firstCells i.size n (.slice ao n n)).run P w.drew = .ok xs.toArray w.drew := by
    cases ao with
    | none =>
      obtain ⟨rfl, rfl⟩ := hnone rfl
      exact run_firstCells_none w.drew i.size 0 0 0
    | some a => exact run_firstCells_some w.drew i.size n a n n xs hxl (hc a rfl)
  have hr := run_append_grow_src w t t ty e i z ht hi hz ao n n xs hold (.slice (some ad) m c) m news hsrc (by omega) (by omega) (growslice_fits (by omega) hbytes)
  have hge := grownCap_ge w (n + m) n e
  refine ⟨_, _, _, hr, hE.step0 (Bs := [row e i.size _ (n + m) (xs ++ news)]) ⟨rfl, rfl, rfl⟩ (by simp) (fun b hb => RowKit.Below.heap_alloc w.drew _ b hb) ⟨fun b => b = w.heap.size, on_single ?_, fun b hb => by omega⟩⟩
  unfold row
  refine ⟨⟨hlen, .inr ⟨w.heap.size, _, _, rfl, Nat.zero_le _, heap_alloc_new w.drew _, hge, grownCap_le_maxLen w (n + m) n e (by unfold maxLen; omega), ?_, ?_⟩⟩, fun b => by simp [Value.ownBlock, eq_comm]⟩
  · rw [Array.size_append, hzero, List.size_toArray, hlen, ← Nat.add_mul]
    congr 1
    omega
  · rw [Array.toList_append, ← hlen]
    exact List.take_left
variable {ops : Array Oper} {o : Oper} {a : Act} {K : Act → World → Prop} {Q : Exit → Act → World → Prop} {E : Prop}
theorem step_appendFull {e : TypeId} {size bytes : Nat} {t : TypeId} (hE : Ent l w) {s y : Operand} (ho : o.op = .call { callee := .builtin .append, args := #[s, y], argTypes := #[t, t] }) (hw : Region.wanted o (yielded ops a.tmps) = true)
    {ao : Option Addr} {n : Nat} (hs : a.eval s = .slice ao n n) {ad : Addr} {m c : Nat} (hy : a.eval y = .slice (some ad) m c) (ht : P.underlying t = some (.slice e)) (hI : elemInfo P e = some (some size, size, bytes)) (hsz : 0 < size)
    {xs : List Value} (hr : reads (.slice ao n n) n xs w) (hxl : xs.length = n * size) {news : List Value} (hx : reads (.slice (some ad) m c) m news w) (hl : news.length = m * size) (hm : 0 < m) (h1 : ∀ u ∈ news, u.oneCell' = true) (hbytes : (n + m) * bytes ≤ 140737488355328) (h63 : n + m ≤ 140737488355328)
    (h : ∀ ao' c' w', Ent (row e size (.slice ao' (n + m) c') (n + m) (xs ++ news) :: l) w' → K (a.put o.dst (.slice ao' (n + m) c')) w') : if Region.wanted o (yielded ops a.tmps) = true then Oper.wp P o a w K Q else E := by
  rw [if_pos hw]
  obtain ⟨ao', c', w', hr0, hE'⟩ := hE.appendFull (P := P) o.type ht hI hsz hr hxl hx hl hm h1 hbytes h63
  unfold Oper.wp execOp
  simp only [ho, resolve, invoke, builtin, Sem.run_bind, Sem.run_pure, Result.andThen_ok, List.map_toArray, List.map_cons, List.map_nil, hs, hy, hr0]
  exact h ao' c' w' hE'
theorem step_build1 (hE : Ent l w) {t e : TypeId} {x : Operand} (ho : o.op = .buildSlice t 1 #[(0, x)]) (hw : Region.wanted o (yielded ops a.tmps) = true) {xs : List Value} (hx : a.eval x = .agg xs.toArray)
    (ht : P.underlying t = some (.slice e)) {size : Nat} (hI : zeroSize P e = some size) (hn : ∀ w, (Go.sizeOf e).run P w = .ok size w) (h0 : 0 < size) (h24 : size ≤ 16777216) (hxl : xs.length = size)
    (h : ∀ b w', Ent (pt b (.cells xs.toArray e) :: l) w' → K (a.put o.dst (.slice (some ⟨b, 0, none⟩) 1 1)) w') : if Region.wanted o (yielded ops a.tmps) = true then Oper.wp P o a w K Q else E := by
  have hr := run_buildSlice1 (P := P) (w := w) ht hI hn h0 h24 xs hxl
  refine step_run hw (w' := w.alloc (.cells xs.toArray e)) (v := .slice (some ⟨w.heap.size, 0, none⟩) 1 1) ?_ (h _ _ (hE.alloc _))
  simp [execOp, ho, hx, hr]
/-- one cell written, as one step of a region that draws -/
theorem step_setC (hE : Ent l w) (i : Nat) {b : Nat} {cur : Array Value} {T : TypeId} (hi : l[i]? = some (pt b (.cells cur T (0, 0))))
    {t : TypeId} {x y : Operand} (ho : o.op = .store t x y) (hw : Region.wanted o (yielded ops a.tmps) = true) {off : Nat} (hx : a.eval x = .pointer (some ⟨b, off, none⟩)) {v : Value} (hy : a.eval y = v)
    (hn : ∀ w, (Go.sizeOf t).run P w = .ok 1 w) (hv : v.cells = #[v]) (h1 : v.oneCell' = true) (hfit : off < cur.size)
    (h : ∀ w', Ent (l.set i (pt b (.cells (cur.setIfInBounds off v) T (0, 0)))) w' → K (a.put o.dst undef) w') : if Region.wanted o (yielded ops a.tmps) = true then Oper.wp P o a w K Q else E := by
  rw [if_pos hw]
  have hr := run_storeV (P := P) hE i hi (t := t) (v := v) (n := 1) hn (by rw [hv]; rfl) (by rw [hv]; simpa using h1) (off := off) (by omega)
  have e : (cur.toList.take off ++ v.cells.toList ++ cur.toList.drop (off + v.cells.toList.length)).toArray = cur.setIfInBounds off v := by
    rw [hv]
    apply Array.ext'
    rw [Array.toList_setIfInBounds, List.set_eq_take_append_cons_drop, if_pos (by simpa using hfit)]
    simp
  rw [e] at hr
  have hx2 : (execOp a.eval o).run P w = .ok .skip (w.setRow b (cur.setIfInBounds off v)) := by simp [execOp, ho, hx, hy, hr]
  simp only [Oper.wp, hx2, Oper.upon]
  exact h _ (hE.setRow i hi _)
end
end Go.SL
namespace Go.Proofs.YtcpgelpajppgdaaDoor
open Go.RowKit Go.SL

theorem Clip_any (ao : Option Addr) (n c : Nat) (h : n ≤ c) (w : World) : Calls Tryd.prog 52 #[.slice ao n c] w (fun e w' => e = .returned (.slice ao n n) ∧ w' = w) := by
  have hs : ∀ w, (Instr.sliceAt 75 (.slice ao n c) none (some (.int .i64 n)) (some (.int .i64 n))).run Tryd.prog w = .ok (.slice ao n n) w := fun w => by
    rw [sliceAt_slice Tryd.underlying75]
    have hz : ∀ w, (Go.sizeOf 9).run Tryd.prog w = .ok 1 w := fun w => by first | (simp [go_sem]; done) | (simp [go_sem]; rfl)
    have a1 : ((n : Int) ≤ (c : Int)) := by omega
    cases ao with
    | none => simp [Instr.slice, run_underlying Tryd.underlying75, Instr.sliceBounds, Instr.sliceBound, asIntOf, hz, a1, h]
    | some a => simp [Instr.slice, run_underlying Tryd.underlying75, Instr.sliceBounds, Instr.sliceBound, asIntOf, hz, a1, h, Addr.add]
  go_enter Tryd.func52, Tryd.ntmps52
  go_wp2
  go_ret
  exact ⟨rfl, rfl⟩

abbrev rowEn (ao : Option Addr) (c : Nat) (xs : List En) : HProp := row 63 3 (.slice ao xs.length c) xs.length (xs.flatMap enC)
theorem info_en : elemInfo Tryd.prog 63 = some (some 3, 3, 40) := by kernel_rfl
theorem zs_en : zeroSize Tryd.prog 63 = some 3 := by kernel_rfl
theorem zs_st : zeroSize Tryd.prog 9 = some 1 := by kernel_rfl
def boO (bo : Nat) (ao : Option Addr) (n c : Nat) : HProp := pt bo (.cells #[.slice ao n c] 22)
def boW (bo bw : Nat) : HProp := pt bw (.cells #[.func (.func 51) #[] #[.pointer (some ⟨bo, 0, none⟩), .pointer (some ⟨bw, 0, none⟩)]] 97)
/-- the contract of the walk through a tree, so deep -/
def WalkC (bo bw d : Nat) : Prop := ∀ (t : Tr), Tr.Wf d t → ∀ (kv : Value) (q : List (List UInt8)) (an : Option Addr) (cn : Nat) (lb : List HProp) (pre : List En) (ao : Option Addr) (co : Nat) (w : World), KidsAt lb kv t.kids → q.length ≤ cn → q.length + d ≤ 100 → (∀ x ∈ q, x.length ≤ 600) →
  Knows lb (reads (.slice an q.length cn) q.length (q.map strv)) → pre.length + (entT d q t).length ≤ 1000000 → Ent (boO bo ao pre.length co :: boW bo bw :: rowEn ao co pre :: lb) w →
  Calls Tryd.prog 51 #[nodeV t kv, .slice an q.length cn, .pointer (some ⟨bo, 0, none⟩), .pointer (some ⟨bw, 0, none⟩)] w
    (Ret fun _ w' => ∃ ao' co', Ent (boO bo ao' (pre ++ entT d q t).length co' :: boW bo bw :: rowEn ao' co' (pre ++ entT d q t) :: lb) w')
set_option maxRecDepth 100000 in
theorem walk_none {bo bw : Nat} {t : Tr} (h : t.kids = []) {kv : Value} {an : Option Addr} {n cn : Nat} {lb : List HProp} {L : List HProp} {w : World} (hkv : KidsAt lb kv t.kids) (hE : Ent L w) :
    Calls Tryd.prog 51 #[nodeV t kv, .slice an n cn, .pointer (some ⟨bo, 0, none⟩), .pointer (some ⟨bw, 0, none⟩)] w (Ret fun _ w' => Ent L w') := by
  obtain ⟨td, tb, ks⟩ := t
  obtain rfl : ks = [] := h
  obtain ⟨ao, c, vs, rfl, _⟩ := hkv.open
  simp only [nodeV, Tr.dir, Tr.data, Tr.kids, List.length_nil]
  go_enter Tryd.func51, Tryd.ntmps51
  go_wp2_with (first
    | go_skip
    | ((with_reducible (show Go.wpList _ _ _ (Go.Oper.mk _ (.box _ _) _ _ _ _ :: _) _ _)); refine wpl_box hE rfl rfl rfl ?_; clear hE; intro b4 w hE; simp only [Act.eval, Act.put, List.setIfInBounds_toArray, List.set_cons_zero, List.set_cons_succ, getD_lit, List.getD_cons_succ, List.getD_cons_zero, Value.cells] at hE)
    | ((with_reducible (show Go.wpList _ _ _ (Go.Oper.mk _ (.load 23 _) _ _ _ _ :: _) _ _)); refine wpl_load1 hE 0 rfl rfl rfl rfl (by simp [go_sem]) rfl ?_))
  go_loopw [12] (fun i wr => i = .int .i64 0 ∧ Ent L wr) (fun _ _ => 0)
  case atStart => exact ⟨rfl, hE.tail⟩
  case round =>
    clear hE
    obtain ⟨rfl, hE⟩ := hrel
    go_wp2
    refine bodyPost_ret (results_none rfl _ _ _) rfl ?_
    exact ⟨_, rfl, hE⟩

def WkRel (bo bw d : Nat) (q : List (List UInt8)) (ks : List (List UInt8 × Tr)) (pre : List En) (lb : List HProp) (i : Value) (wr : World) : Prop :=
  ∃ (k : Nat) (ao : Option Addr) (co : Nat) (out : List En), k ≤ ks.length ∧ i = .int .i64 k ∧ out = pre ++ (ks.take k).flatMap (fun x => entOf q x :: entT d (q ++ [x.1]) x.2) ∧ Ent (boO bo ao out.length co :: boW bo bw :: rowEn ao co out :: lb) wr
theorem Ent.dropLast {A B C D : HProp} {l : List HProp} {w : World} (h : Ent (A :: B :: C :: D :: l) w) : Ent (A :: B :: C :: l) w := h.erase 3
set_option maxRecDepth 100000 in
set_option maxHeartbeats 8000000 in
attribute [-go_sem] Instr.loadAt in
theorem walk_step {bo bw d : Nat} (IH : WalkC bo bw d) : WalkC bo bw (d + 1) := by
  intro t hw kv q an cn lb pre ao0 co0 w hkv hcn hqd hq6 hn hbig hE
  obtain ⟨td, tb, ks⟩ := t
  have hk6 : ks.length ≤ 6 := hw.2.2.2.1
  have hwk := hw.2.2.2.2.2
  obtain ⟨ak, ck, vs, rfl, hc, hl, hkk, hks, hone⟩ := hkv.open
  replace hl : vs.length = ks.length := hl
  replace hkk : Knows lb (reads (.slice ak ks.length ck) ks.length (kCs ks vs)) := hkk
  replace hks : ∀ (i : Nat) (h : i < ks.length) (h' : i < vs.length), KidsAt lb vs[i] ks[i].2.kids := hks
  have hent : entT (d + 1) q (.nd td tb ks) = ks.flatMap fun x => entOf q x :: entT d (q ++ [x.1]) x.2 := rfl
  rw [hent] at hbig ⊢
  simp only [nodeV, Tr.dir, Tr.data, Tr.kids] at *
  clear hone hkv hw hent
  unfold boO boW at hE ⊢
  go_enter Tryd.func51, Tryd.ntmps51
  go_wp2_with (first
    | go_skip
    | ((with_reducible (show Go.wpList _ _ _ (Go.Oper.mk _ (.box _ _) _ _ _ _ :: _) _ _)); refine wpl_box hE rfl rfl rfl ?_; clear hE; intro b4 w hE; simp only [Act.eval, Act.put, List.setIfInBounds_toArray, List.set_cons_zero, List.set_cons_succ, getD_lit, List.getD_cons_succ, List.getD_cons_zero, Value.cells] at hE)
    | ((with_reducible (show Go.wpList _ _ _ (Go.Oper.mk _ (.load 23 _) _ _ _ _ :: _) _ _)); refine wpl_load1 hE 0 rfl rfl rfl rfl (by simp [go_sem]) rfl ?_))
  replace hE := hE.tail
  go_loopw [12] (fun i wr => WkRel bo bw d q ks pre lb i wr) (fun i _ => ks.length - (intOf i).toNat)
  case atStart => exact ⟨0, ao0, co0, pre, Nat.zero_le _, rfl, by simp, hE⟩
  case round =>
    clear hE
    obtain ⟨k, ao, co, out, hkn, rfl, hout, hE⟩ := hrel
    by_cases hlt : k < ks.length
    · obtain ⟨b, off, rfl, hz⟩ := kids_at hl (hkk _ hE.tail.tail.tail) hlt
      clear hz
      have hL := SL.hid (show ∀ W, Ent lb W → ∀ j v, (kC ks[k] (vs[k]'(by omega)))[j]? = some v → W.cell? ⟨b, off + k * 4 + j, none⟩ = some v from fun W hW => by
        obtain ⟨b', off', e, h⟩ := kids_at hl (hkk _ hW) hlt
        cases e
        exact h)
      have hkid := hks k hlt (by omega)
      have hwx := hwk _ (List.getElem_mem hlt)
      have htake := List.take_succ_eq_append_getElem hlt
      have hlen2 : out.length + (entOf q ks[k] :: entT d (q ++ [ks[k].1]) ks[k].2).length ≤ 1000000 := by
        have e : ks = ks.take k ++ ks[k] :: ks.drop (k + 1) := by rw [← List.drop_eq_getElem_cons hlt, List.take_append_drop]
        have h2 : ((ks.take k).flatMap (fun x => entOf q x :: entT d (q ++ [x.1]) x.2)).length + (entOf q ks[k] :: entT d (q ++ [ks[k].1]) ks[k].2).length ≤ (ks.flatMap (fun x => entOf q x :: entT d (q ++ [x.1]) x.2)).length := by
          conv => rhs; rw [e, List.flatMap_append, List.flatMap_cons, List.length_append, List.length_append]
          omega
        rw [hout, List.length_append]
        omega
      have hnx := (name_len hwx.1).2
      have Hout := SL.hid (show (out ++ [entOf q ks[k]]) ++ entT d (q ++ [ks[k].1]) ks[k].2 = pre ++ (ks.take (k + 1)).flatMap (fun x => entOf q x :: entT d (q ++ [x.1]) x.2) from by
        rw [htake, List.flatMap_append, hout]
        simp [List.append_assoc])
      obtain ⟨kvp, hkvp⟩ : ∃ x, vs[k]'(by omega) = x := ⟨_, rfl⟩
      rw [hkvp] at hL hkid
      have Hv1 := SL.hid (show kvp.oneCell' = true from by obtain ⟨a1, a2, e⟩ := hkid.slice; rw [e]; rfl)
      clear hkvp htake hout
      generalize ks[k] = x at *
      obtain ⟨xn, xt⟩ := x
      simp only at hkid hwx hnx Hout hlen2
      have Hlen2 := SL.hid hlen2
      have hqx : ∀ y ∈ q ++ [xn], y.length ≤ 600 := fun y hy => by
        rcases List.mem_append.1 hy with h | h
        · exact hq6 y h
        · rw [List.mem_singleton.1 h]; omega
      have Hqx := SL.hid hqx
      have HI := SL.hid (fun (an : Option Addr) (cn : Nat) (lb' : List HProp) (out' : List En) (ao : Option Addr) (co : Nat) (w : World) (hkv : KidsAt lb' kvp xt.kids) (hcn : (q ++ [xn]).length ≤ cn) (hn : Knows lb' (reads (.slice an (q ++ [xn]).length cn) (q ++ [xn]).length ((q ++ [xn]).map strv))) (hb : out'.length + (entT d (q ++ [xn]) xt).length ≤ 1000000) (hE : Ent (boO bo ao out'.length co :: boW bo bw :: rowEn ao co out' :: lb') w) =>
        IH xt hwx.2 kvp (q ++ [xn]) an cn lb' out' ao co w hkv hcn (by simp; omega) hqx hn hb hE)
      have HJ := SL.hid (fun (ao : Option Addr) (c : Nat) (hc : (q ++ [xn]).length ≤ c) (l : List HProp) (w : World) (hE : Ent l w) (hk : Knows l (reads (.slice ao (q ++ [xn]).length c) (q ++ [xn]).length ((q ++ [xn]).map strv))) => Join_any (by simp; omega) hqx hc hE hk)
      have hql : (q ++ [xn]).length = q.length + 1 := by simp
      have hqm : (q ++ [xn]).map strv = q.map strv ++ [strv xn] := by simp
      rw [hql, hqm] at HI HJ
      have HN := SL.hid (show Knows lb (reads (.slice an q.length q.length) q.length (q.map strv)) from fun w h => reads_cap (hn w h) _)
      have Hcn := SL.hid hcn
      have Hql := SL.hid (show q.length ≤ 100 from by omega)
      have hCl := fun w => Clip_any an q.length cn hcn w
      simp only [nodeV] at HI
      generalize hp : joinP (q ++ [xn]) = jp at *
      have Hp := SL.hid hp
      clear hp hql hqm hqx hn hcn hqd hlen2 hwx hbig
      unfold boO boW at HI hE
      have He := SL.hid (show entOf q (xn, xt) = ⟨jp, xt.dir, xt.data⟩ from by rw [entOf]; simp only [Hp.out])
      as_aux_lemma =>
      go_wp2_with (first
        | go_skip
        | ((with_reducible (show Go.wpList _ _ _ (Go.Oper.mk _ (.load 67 _) _ _ _ _ :: _) _ _)); refine wpl_loadC rfl rfl rfl Tryd.isAgg67 Tryd.sizeOf67 (kC (xn, xt) kvp) rfl (fun j v hv => by rw [Addr.add_lit]; exact hL.out _ (hE.suf sfx) j v hv) ?_)
        | ((with_reducible (show Go.wpList _ _ _ (Go.Oper.mk _ (.alloc 67) _ _ _ _ :: _) _ _)); refine wpl_allocN hE rfl rfl (n := 4) (by kernel_rfl) ?_; clear hE; intro b7 cs w1 hq hE)
        | ((with_reducible (show Go.wpList _ _ _ (Go.Oper.mk _ (.store 67 _ _) _ _ _ _ :: _) _ _)); refine wpl_storeN hE 0 rfl rfl rfl rfl (xs := [.string ⟨xn.toArray⟩, .bool xt.dir, .string ⟨xt.data.toArray⟩, kvp]) rfl Tryd.sizeOf67 rfl (by simp [Value.oneCell']; have := Hv1.out; simpa [Value.oneCell'] using this) hq ?_; clear hE hq; intro w2 hE; simp only [List.set_cons_zero] at hE))
      refine wp_region_held_drew (S := (fun w' => ((Instr.loadAt 9 (.pointer (some ⟨b7, 0, none⟩))).run Tryd.prog w' = .ok (.string ⟨xn.toArray⟩) w'))) (by kernel_rfl) (atVm hE.drew (by repeat (first | exact List.Mem.head _ | refine List.Mem.tail _ ?_)) (by simp [go_sem]) rfl) (fun hS => ?_)
      refine tV 0 ⟨some 16, .move (.tmp 1), _, _, _, none⟩ hS ?_
      refine tV 2 ⟨some 18, .fieldAddr 67 (.tmp 7) 0, _, _, _, none⟩ hS ?_
      refine tL 3 ⟨some 19, .load 9 (.tmp 18), _, _, _, none⟩ hS ?_
      refine wpAnyH_ready (rs := [1, 4]) (by kernel_rfl) (by simp) ?_
      refine (AllReadyH.cons (o := ⟨some 17, .call { callee := .value (.func 52), args := #[.tmp 16], argTypes := #[75] }, _, _, _, none⟩) rfl (fun K hK => ?_) (AllReadyH.cons (o := ⟨some 20, .buildSlice 75 1 #[(0, .tmp 19)], _, _, _, none⟩) rfl (fun K hK => ?_) AllReadyH.nil))
      focus
        (go_simp; refine (hCl _).mono ?_; rintro e w3 ⟨rfl, rfl⟩)
        refine hK.out _ _ (by first | exact (atVm hB (by repeat (first | exact List.Mem.head _ | refine List.Mem.tail _ ?_)) (by simp [go_sem]) rfl) | exact (atVm hE.drew (by repeat (first | exact List.Mem.head _ | refine List.Mem.tail _ ?_)) (by simp [go_sem]) rfl)) (fun hS => ?_)
        clear hK K
        try simp only [Act.put, sb, s0, sz]
        refine wpAnyH_ready (rs := [4]) (by kernel_rfl) (by simp) ?_
        refine (AllReadyH.cons (o := ⟨some 20, .buildSlice 75 1 #[(0, .tmp 19)], _, _, _, none⟩) rfl (fun K hK => ?_) AllReadyH.nil)
        (go_simp; have hB := hE.drew.alloc (.cells #[.string ⟨xn.toArray⟩] 9))
        refine hK.out _ _ (atVm hB (by repeat (first | exact List.Mem.head _ | refine List.Mem.tail _ ?_)) (by simp [go_sem]) rfl) (fun hS => ?_)
        clear hK K
        try simp only [Act.put, sb, s0, sz]
        refine wpAnyH_ready (rs := [5]) (by kernel_rfl) (by simp) ?_
        refine (AllReadyH.cons (o := ⟨some 21, .call { callee := .builtin .append, args := #[.tmp 17, .tmp 20], argTypes := #[75, 75] }, _, _, _, none⟩) rfl (fun K hK => ?_) AllReadyH.nil)
        (refine step_appendFull hB rfl (by rfl) (by rfl) (by rfl) Tryd.underlying75 info_str (by decide) (HN.out _ (hB.suf sfx)) (by simp) (m := 1) (news := [strv xn]) (reads_pt hB 0 rfl (off := 0) (fun j u hu => by rw [Nat.zero_add]; simpa [strv] using hu)) rfl (by decide) (by simp [strv, Value.oneCell']) (by have := Hql.out; omega) (by have := Hql.out; omega) ?_; intro aa ca w5 hA)
        refine hK.out _ _ (atVm hA (by repeat (first | exact List.Mem.head _ | refine List.Mem.tail _ ?_)) (by simp [go_sem]) rfl) (fun hS => ?_)
        clear hK K
        try simp only [Act.put, sb, s0, sz]
        refine tV 6 ⟨some 8, .assign (.tmp 21), _, _, _, none⟩ hS ?_
        refine wpAnyH_done (by kernel_rfl) ?_ _
      rotate_right
      focus
        (go_simp; have hB := hE.drew.alloc (.cells #[.string ⟨xn.toArray⟩] 9))
        refine hK.out _ _ (atVm hB (by repeat (first | exact List.Mem.head _ | refine List.Mem.tail _ ?_)) (by simp [go_sem]) rfl) (fun hS => ?_)
        clear hK K
        try simp only [Act.put, sb, s0, sz]
        refine wpAnyH_ready (rs := [1]) (by kernel_rfl) (by simp) ?_
        refine (AllReadyH.cons (o := ⟨some 17, .call { callee := .value (.func 52), args := #[.tmp 16], argTypes := #[75] }, _, _, _, none⟩) rfl (fun K hK => ?_) AllReadyH.nil)
        (go_simp; refine (hCl _).mono ?_; rintro e w3 ⟨rfl, rfl⟩)
        refine hK.out _ _ (by first | exact (atVm hB (by repeat (first | exact List.Mem.head _ | refine List.Mem.tail _ ?_)) (by simp [go_sem]) rfl) | exact (atVm hE.drew (by repeat (first | exact List.Mem.head _ | refine List.Mem.tail _ ?_)) (by simp [go_sem]) rfl)) (fun hS => ?_)
        clear hK K
        try simp only [Act.put, sb, s0, sz]
        refine wpAnyH_ready (rs := [5]) (by kernel_rfl) (by simp) ?_
        refine (AllReadyH.cons (o := ⟨some 21, .call { callee := .builtin .append, args := #[.tmp 17, .tmp 20], argTypes := #[75, 75] }, _, _, _, none⟩) rfl (fun K hK => ?_) AllReadyH.nil)
        (refine step_appendFull hB rfl (by rfl) (by rfl) (by rfl) Tryd.underlying75 info_str (by decide) (HN.out _ (hB.suf sfx)) (by simp) (m := 1) (news := [strv xn]) (reads_pt hB 0 rfl (off := 0) (fun j u hu => by rw [Nat.zero_add]; simpa [strv] using hu)) rfl (by decide) (by simp [strv, Value.oneCell']) (by have := Hql.out; omega) (by have := Hql.out; omega) ?_; intro aa ca w5 hA)
        refine hK.out _ _ (atVm hA (by repeat (first | exact List.Mem.head _ | refine List.Mem.tail _ ?_)) (by simp [go_sem]) rfl) (fun hS => ?_)
        clear hK K
        try simp only [Act.put, sb, s0, sz]
        refine tV 6 ⟨some 8, .assign (.tmp 21), _, _, _, none⟩ hS ?_
        refine wpAnyH_done (by kernel_rfl) ?_ _
      all_goals
        replace hE := hA.erase 1
        clear hA hB hS
        simp only [List.eraseIdx_cons_succ, List.eraseIdx_cons_zero] at hE
        obtain ⟨g, rfl, hca, _⟩ := hE.rowIs 0 rfl (by omega)
        have Hca := SL.hid hca
        clear hca
        go_wp2_with (first | go_skip)
        refine wp_region_held_drew (S := (fun w' => ((Instr.loadAt 4 (.pointer (some ⟨b7, 1, none⟩))).run Tryd.prog w' = .ok (.bool xt.dir) w') ∧ ((Instr.loadAt 9 (.pointer (some ⟨b7, 2, none⟩))).run Tryd.prog w' = .ok (.string ⟨xt.data.toArray⟩) w'))) (by kernel_rfl) ⟨(atVm hE.drew (by repeat (first | exact List.Mem.head _ | refine List.Mem.tail _ ?_)) (by simp [go_sem]) rfl), (atVm hE.drew (by repeat (first | exact List.Mem.head _ | refine List.Mem.tail _ ?_)) (by simp [go_sem]) rfl)⟩ (fun hS => ?_)
        refine tV 1 ⟨some 23, .move (.tmp 8), _, _, _, none⟩ hS ?_
        refine tV 3 ⟨some 25, .fieldAddr 67 (.tmp 7) 1, _, _, _, none⟩ hS ?_
        refine tV 4 ⟨some 26, .fieldAddr 25 (.tmp 25) 0, _, _, _, none⟩ hS ?_
        refine tL 5 ⟨some 27, .load 4 (.tmp 26), _, _, _, none⟩ hS ?_
        refine tV 6 ⟨some 28, .fieldAddr 67 (.tmp 7) 1, _, _, _, none⟩ hS ?_
        refine tV 7 ⟨some 29, .fieldAddr 25 (.tmp 28) 1, _, _, _, none⟩ hS ?_
        refine tL 8 ⟨some 30, .load 9 (.tmp 29), _, _, _, none⟩ hS ?_
        refine wpAnyH_ready (rs := [0, 2]) (by kernel_rfl) (by simp) ?_
        refine (AllReadyH.cons (o := ⟨some 22, .load 22 (.tmp 2), _, _, _, none⟩) rfl (fun K hK => ?_) (AllReadyH.cons (o := ⟨some 24, .call { callee := .value (.func 53), args := #[.tmp 23], argTypes := #[75] }, _, _, _, none⟩) rfl (fun K hK => ?_) AllReadyH.nil))
        focus
          (first | refine step_load1 hB 3 rfl (by rfl) (by rfl) (by rfl) (by simp [go_sem]) rfl ?_ | refine step_load1 hJ 2 rfl (by rfl) (by rfl) (by rfl) (by simp [go_sem]) rfl ?_ | refine step_load1 hE.drew 2 rfl (by rfl) (by rfl) (by rfl) (by simp [go_sem]) rfl ?_)
          refine hK.out _ _ (by first | exact ⟨(atVm hB (by repeat (first | exact List.Mem.head _ | refine List.Mem.tail _ ?_)) (by simp [go_sem]) rfl), (atVm hB (by repeat (first | exact List.Mem.head _ | refine List.Mem.tail _ ?_)) (by simp [go_sem]) rfl)⟩ | exact ⟨(atVm hJ (by repeat (first | exact List.Mem.head _ | refine List.Mem.tail _ ?_)) (by simp [go_sem]) rfl), (atVm hJ (by repeat (first | exact List.Mem.head _ | refine List.Mem.tail _ ?_)) (by simp [go_sem]) rfl)⟩ | exact ⟨(atVm hE.drew (by repeat (first | exact List.Mem.head _ | refine List.Mem.tail _ ?_)) (by simp [go_sem]) rfl), (atVm hE.drew (by repeat (first | exact List.Mem.head _ | refine List.Mem.tail _ ?_)) (by simp [go_sem]) rfl)⟩) (fun hS => ?_)
          clear hK K
          try simp only [Act.put, sb, s0, sz]
          refine wpAnyH_ready (rs := [2]) (by kernel_rfl) (by simp) ?_
          refine (AllReadyH.cons (o := ⟨some 24, .call { callee := .value (.func 53), args := #[.tmp 23], argTypes := #[75] }, _, _, _, none⟩) rfl (fun K hK => ?_) AllReadyH.nil)
          (go_simp; refine (HJ.out _ _ Hca.out _ _ hE.drew (fun w h => reads_row h 0 rfl)).mono ?_; rintro e w6 ⟨v, rfl, rfl, hJ⟩)
          refine hK.out _ _ ⟨(atVm hJ (by repeat (first | exact List.Mem.head _ | refine List.Mem.tail _ ?_)) (by simp [go_sem]) rfl), (atVm hJ (by repeat (first | exact List.Mem.head _ | refine List.Mem.tail _ ?_)) (by simp [go_sem]) rfl)⟩ (fun hS => ?_)
          clear hK K
          try simp only [Act.put, sb, s0, sz]
          refine tV 9 ⟨some 31, .build 63 #[(0, .tmp 24), (1, .tmp 27), (2, .tmp 30)], _, _, _, none⟩ hS ?_
          refine wpAnyH_ready (rs := [10]) (by kernel_rfl) (by simp) ?_
          refine (AllReadyH.cons (o := ⟨some 32, .buildSlice 22 1 #[(0, .tmp 31)], _, _, _, none⟩) rfl (fun K hK => ?_) AllReadyH.nil)
          (refine step_build1 hJ rfl (by rfl) (xs := enC ⟨jp, xt.dir, xt.data⟩) (by rfl) Tryd.underlying22 zs_en Tryd.sizeOf63 (by decide) (by decide) rfl ?_; intro b9 w7 hB)
          refine hK.out _ _ ⟨(atVm hB (by repeat (first | exact List.Mem.head _ | refine List.Mem.tail _ ?_)) (by simp [go_sem]) rfl), (atVm hB (by repeat (first | exact List.Mem.head _ | refine List.Mem.tail _ ?_)) (by simp [go_sem]) rfl)⟩ (fun hS => ?_)
          clear hK K
          try simp only [Act.put, sb, s0, sz]
          refine wpAnyH_ready (rs := [11]) (by kernel_rfl) (by simp) ?_
          refine (AllReadyH.cons (o := ⟨some 33, .call { callee := .builtin .append, args := #[.tmp 22, .tmp 32], argTypes := #[22, 22] }, _, _, _, none⟩) rfl (fun K hK => ?_) AllReadyH.nil)
          (refine step_appendG hB 5 rfl rfl (by rfl) (by rfl) (by rfl) Tryd.underlying22 info_en (by decide) (m := 1) (news := enC ⟨jp, xt.dir, xt.data⟩) (reads_pt hB 0 rfl (off := 0) (fun j u hu => by rw [Nat.zero_add, List.getElem?_toArray]; exact hu)) rfl (enC_one _) (by have := Hlen2.out; simp at this; omega) (by have := Hlen2.out; simp at this; omega) ?_; intro ao' c' w8 hC; simp only [List.set_cons_zero, List.set_cons_succ] at hC)
          refine hK.out _ _ ⟨(atVm hC (by repeat (first | exact List.Mem.head _ | refine List.Mem.tail _ ?_)) (by simp [go_sem]) rfl), (atVm hC (by repeat (first | exact List.Mem.head _ | refine List.Mem.tail _ ?_)) (by simp [go_sem]) rfl)⟩ (fun hS => ?_)
          clear hK K
          try simp only [Act.put, sb, s0, sz]
          refine wpAnyH_ready (rs := [12]) (by kernel_rfl) (by simp) ?_
          refine (AllReadyH.cons (o := ⟨none, .store 22 (.tmp 2) (.tmp 33), _, _, _, none⟩) rfl (fun K hK => ?_) AllReadyH.nil)
          (refine step_setC hC 3 rfl (by rfl) (by rfl) (by rfl) (v := .slice ao' (out.length + 1) c') (by rfl) (by first | (simp [go_sem]; done) | (simp [go_sem]; rfl)) rfl rfl (by simp) ?_; intro w9 hD; simp only [List.set_cons_zero, List.set_cons_succ] at hD)
          refine hK.out _ _ ⟨(atVm hD (by repeat (first | exact List.Mem.head _ | refine List.Mem.tail _ ?_)) (by simp [go_sem]) rfl), (atVm hD (by repeat (first | exact List.Mem.head _ | refine List.Mem.tail _ ?_)) (by simp [go_sem]) rfl)⟩ (fun hS => ?_)
          clear hK K
          try simp only [Act.put, sb, s0, sz]
          refine wpAnyH_done (by kernel_rfl) ?_ _
        rotate_right
        focus
          (go_simp; refine (HJ.out _ _ Hca.out _ _ hE.drew (fun w h => reads_row h 0 rfl)).mono ?_; rintro e w6 ⟨v, rfl, rfl, hJ⟩)
          refine hK.out _ _ ⟨(atVm hJ (by repeat (first | exact List.Mem.head _ | refine List.Mem.tail _ ?_)) (by simp [go_sem]) rfl), (atVm hJ (by repeat (first | exact List.Mem.head _ | refine List.Mem.tail _ ?_)) (by simp [go_sem]) rfl)⟩ (fun hS => ?_)
          clear hK K
          try simp only [Act.put, sb, s0, sz]
          refine tV 9 ⟨some 31, .build 63 #[(0, .tmp 24), (1, .tmp 27), (2, .tmp 30)], _, _, _, none⟩ hS ?_
          refine wpAnyH_ready (rs := [0, 10]) (by kernel_rfl) (by simp) ?_
          refine (AllReadyH.cons (o := ⟨some 22, .load 22 (.tmp 2), _, _, _, none⟩) rfl (fun K hK => ?_) (AllReadyH.cons (o := ⟨some 32, .buildSlice 22 1 #[(0, .tmp 31)], _, _, _, none⟩) rfl (fun K hK => ?_) AllReadyH.nil))
          focus
            (first | refine step_load1 hB 3 rfl (by rfl) (by rfl) (by rfl) (by simp [go_sem]) rfl ?_ | refine step_load1 hJ 2 rfl (by rfl) (by rfl) (by rfl) (by simp [go_sem]) rfl ?_ | refine step_load1 hE.drew 2 rfl (by rfl) (by rfl) (by rfl) (by simp [go_sem]) rfl ?_)
            refine hK.out _ _ (by first | exact ⟨(atVm hB (by repeat (first | exact List.Mem.head _ | refine List.Mem.tail _ ?_)) (by simp [go_sem]) rfl), (atVm hB (by repeat (first | exact List.Mem.head _ | refine List.Mem.tail _ ?_)) (by simp [go_sem]) rfl)⟩ | exact ⟨(atVm hJ (by repeat (first | exact List.Mem.head _ | refine List.Mem.tail _ ?_)) (by simp [go_sem]) rfl), (atVm hJ (by repeat (first | exact List.Mem.head _ | refine List.Mem.tail _ ?_)) (by simp [go_sem]) rfl)⟩ | exact ⟨(atVm hE.drew (by repeat (first | exact List.Mem.head _ | refine List.Mem.tail _ ?_)) (by simp [go_sem]) rfl), (atVm hE.drew (by repeat (first | exact List.Mem.head _ | refine List.Mem.tail _ ?_)) (by simp [go_sem]) rfl)⟩) (fun hS => ?_)
            clear hK K
            try simp only [Act.put, sb, s0, sz]
            refine wpAnyH_ready (rs := [10]) (by kernel_rfl) (by simp) ?_
            refine (AllReadyH.cons (o := ⟨some 32, .buildSlice 22 1 #[(0, .tmp 31)], _, _, _, none⟩) rfl (fun K hK => ?_) AllReadyH.nil)
            (refine step_build1 hJ rfl (by rfl) (xs := enC ⟨jp, xt.dir, xt.data⟩) (by rfl) Tryd.underlying22 zs_en Tryd.sizeOf63 (by decide) (by decide) rfl ?_; intro b9 w7 hB)
            refine hK.out _ _ ⟨(atVm hB (by repeat (first | exact List.Mem.head _ | refine List.Mem.tail _ ?_)) (by simp [go_sem]) rfl), (atVm hB (by repeat (first | exact List.Mem.head _ | refine List.Mem.tail _ ?_)) (by simp [go_sem]) rfl)⟩ (fun hS => ?_)
            clear hK K
            try simp only [Act.put, sb, s0, sz]
            refine wpAnyH_ready (rs := [11]) (by kernel_rfl) (by simp) ?_
            refine (AllReadyH.cons (o := ⟨some 33, .call { callee := .builtin .append, args := #[.tmp 22, .tmp 32], argTypes := #[22, 22] }, _, _, _, none⟩) rfl (fun K hK => ?_) AllReadyH.nil)
            (refine step_appendG hB 5 rfl rfl (by rfl) (by rfl) (by rfl) Tryd.underlying22 info_en (by decide) (m := 1) (news := enC ⟨jp, xt.dir, xt.data⟩) (reads_pt hB 0 rfl (off := 0) (fun j u hu => by rw [Nat.zero_add, List.getElem?_toArray]; exact hu)) rfl (enC_one _) (by have := Hlen2.out; simp at this; omega) (by have := Hlen2.out; simp at this; omega) ?_; intro ao' c' w8 hC; simp only [List.set_cons_zero, List.set_cons_succ] at hC)
            refine hK.out _ _ ⟨(atVm hC (by repeat (first | exact List.Mem.head _ | refine List.Mem.tail _ ?_)) (by simp [go_sem]) rfl), (atVm hC (by repeat (first | exact List.Mem.head _ | refine List.Mem.tail _ ?_)) (by simp [go_sem]) rfl)⟩ (fun hS => ?_)
            clear hK K
            try simp only [Act.put, sb, s0, sz]
            refine wpAnyH_ready (rs := [12]) (by kernel_rfl) (by simp) ?_
            refine (AllReadyH.cons (o := ⟨none, .store 22 (.tmp 2) (.tmp 33), _, _, _, none⟩) rfl (fun K hK => ?_) AllReadyH.nil)
            (refine step_setC hC 3 rfl (by rfl) (by rfl) (by rfl) (v := .slice ao' (out.length + 1) c') (by rfl) (by first | (simp [go_sem]; done) | (simp [go_sem]; rfl)) rfl rfl (by simp) ?_; intro w9 hD; simp only [List.set_cons_zero, List.set_cons_succ] at hD)
            refine hK.out _ _ ⟨(atVm hD (by repeat (first | exact List.Mem.head _ | refine List.Mem.tail _ ?_)) (by simp [go_sem]) rfl), (atVm hD (by repeat (first | exact List.Mem.head _ | refine List.Mem.tail _ ?_)) (by simp [go_sem]) rfl)⟩ (fun hS => ?_)
            clear hK K
            try simp only [Act.put, sb, s0, sz]
            refine wpAnyH_done (by kernel_rfl) ?_ _
          rotate_right
          focus
            (refine step_build1 hJ rfl (by rfl) (xs := enC ⟨jp, xt.dir, xt.data⟩) (by rfl) Tryd.underlying22 zs_en Tryd.sizeOf63 (by decide) (by decide) rfl ?_; intro b9 w7 hB)
            refine hK.out _ _ ⟨(atVm hB (by repeat (first | exact List.Mem.head _ | refine List.Mem.tail _ ?_)) (by simp [go_sem]) rfl), (atVm hB (by repeat (first | exact List.Mem.head _ | refine List.Mem.tail _ ?_)) (by simp [go_sem]) rfl)⟩ (fun hS => ?_)
            clear hK K
            try simp only [Act.put, sb, s0, sz]
            refine wpAnyH_ready (rs := [0]) (by kernel_rfl) (by simp) ?_
            refine (AllReadyH.cons (o := ⟨some 22, .load 22 (.tmp 2), _, _, _, none⟩) rfl (fun K hK => ?_) AllReadyH.nil)
            (first | refine step_load1 hB 3 rfl (by rfl) (by rfl) (by rfl) (by simp [go_sem]) rfl ?_ | refine step_load1 hJ 2 rfl (by rfl) (by rfl) (by rfl) (by simp [go_sem]) rfl ?_ | refine step_load1 hE.drew 2 rfl (by rfl) (by rfl) (by rfl) (by simp [go_sem]) rfl ?_)
            refine hK.out _ _ (by first | exact ⟨(atVm hB (by repeat (first | exact List.Mem.head _ | refine List.Mem.tail _ ?_)) (by simp [go_sem]) rfl), (atVm hB (by repeat (first | exact List.Mem.head _ | refine List.Mem.tail _ ?_)) (by simp [go_sem]) rfl)⟩ | exact ⟨(atVm hJ (by repeat (first | exact List.Mem.head _ | refine List.Mem.tail _ ?_)) (by simp [go_sem]) rfl), (atVm hJ (by repeat (first | exact List.Mem.head _ | refine List.Mem.tail _ ?_)) (by simp [go_sem]) rfl)⟩ | exact ⟨(atVm hE.drew (by repeat (first | exact List.Mem.head _ | refine List.Mem.tail _ ?_)) (by simp [go_sem]) rfl), (atVm hE.drew (by repeat (first | exact List.Mem.head _ | refine List.Mem.tail _ ?_)) (by simp [go_sem]) rfl)⟩) (fun hS => ?_)
            clear hK K
            try simp only [Act.put, sb, s0, sz]
            refine wpAnyH_ready (rs := [11]) (by kernel_rfl) (by simp) ?_
            refine (AllReadyH.cons (o := ⟨some 33, .call { callee := .builtin .append, args := #[.tmp 22, .tmp 32], argTypes := #[22, 22] }, _, _, _, none⟩) rfl (fun K hK => ?_) AllReadyH.nil)
            (refine step_appendG hB 5 rfl rfl (by rfl) (by rfl) (by rfl) Tryd.underlying22 info_en (by decide) (m := 1) (news := enC ⟨jp, xt.dir, xt.data⟩) (reads_pt hB 0 rfl (off := 0) (fun j u hu => by rw [Nat.zero_add, List.getElem?_toArray]; exact hu)) rfl (enC_one _) (by have := Hlen2.out; simp at this; omega) (by have := Hlen2.out; simp at this; omega) ?_; intro ao' c' w8 hC; simp only [List.set_cons_zero, List.set_cons_succ] at hC)
            refine hK.out _ _ ⟨(atVm hC (by repeat (first | exact List.Mem.head _ | refine List.Mem.tail _ ?_)) (by simp [go_sem]) rfl), (atVm hC (by repeat (first | exact List.Mem.head _ | refine List.Mem.tail _ ?_)) (by simp [go_sem]) rfl)⟩ (fun hS => ?_)
            clear hK K
            try simp only [Act.put, sb, s0, sz]
            refine wpAnyH_ready (rs := [12]) (by kernel_rfl) (by simp) ?_
            refine (AllReadyH.cons (o := ⟨none, .store 22 (.tmp 2) (.tmp 33), _, _, _, none⟩) rfl (fun K hK => ?_) AllReadyH.nil)
            (refine step_setC hC 3 rfl (by rfl) (by rfl) (by rfl) (v := .slice ao' (out.length + 1) c') (by rfl) (by first | (simp [go_sem]; done) | (simp [go_sem]; rfl)) rfl rfl (by simp) ?_; intro w9 hD; simp only [List.set_cons_zero, List.set_cons_succ] at hD)
            refine hK.out _ _ ⟨(atVm hD (by repeat (first | exact List.Mem.head _ | refine List.Mem.tail _ ?_)) (by simp [go_sem]) rfl), (atVm hD (by repeat (first | exact List.Mem.head _ | refine List.Mem.tail _ ?_)) (by simp [go_sem]) rfl)⟩ (fun hS => ?_)
            clear hK K
            try simp only [Act.put, sb, s0, sz]
            refine wpAnyH_done (by kernel_rfl) ?_ _
        all_goals
          clear hC hB hJ hE hS
          go_wp2_with (first
            | go_skip
            | ((with_reducible (show Go.wpList _ _ _ (Go.Oper.mk _ (.load 25 _) _ _ _ _ :: _) _ _)); refine wpl_loadA hD 2 rfl rfl rfl (off := 1) rfl Tryd.isAgg25 Tryd.sizeOf25 [.bool xt.dir, .string ⟨xt.data.toArray⟩, kvp] rfl (fun j hj => by match j, hj with | 0, _ => rfl | 1, _ => rfl | 2, _ => rfl) ?_)
            | ((with_reducible (show Go.wpList _ _ _ (Go.Oper.mk _ (.load _ (.tmp 3)) _ _ _ _ :: _) _ _)); refine wpl_load1 hD 4 rfl rfl rfl rfl (by simp [go_sem]) rfl ?_))
          have H := HI.out (some ⟨g, 0, none⟩) ca (row 9 1 (.slice (some ⟨g, 0, none⟩) (q.length + 1) ca) (q.length + 1) (q.map strv ++ [strv xn]) :: lb) (out ++ [entOf q (xn, xt)]) ao' c' _ (hkid.suf (List.suffix_cons _ _)) Hca.out (fun w h => reads_row h 0 rfl) (by have := Hlen2.out; simp at this ⊢; omega) (by have h := ((((hD.erase 0).erase 1).front 3 rfl).front 3 rfl).front 3 rfl; have e1 : (out ++ [entOf q (xn, xt)]).length = out.length + 1 := (by simp); have e2 : (out ++ [entOf q (xn, xt)]).flatMap enC = out.flatMap enC ++ enC ⟨jp, xt.dir, xt.data⟩ := (by rw [He.out]; simp); simp only [rowEn, e1, e2]; exact h)
          refine H.mono ?_
          clear H hD
          rintro e w10 ⟨v, rfl, ao2, co2, hF⟩
          go_wp2
          go_roundw
          case rel => exact ⟨k + 1, ao2, co2, _, hlt, by simp, Hout.out, Ent.dropLast hF⟩
          case measure => simp [intOf]; omega
    · obtain rfl : k = ks.length := by omega
      rw [List.take_length] at hout
      have Ho := SL.hid hout
      clear hout
      go_wp2
      refine bodyPost_ret (results_none rfl _ _ _) rfl ?_
      refine ⟨_, rfl, ao, co, ?_⟩
      rw [← Ho.out]
      exact hE
end Go.Proofs.YtcpgelpajppgdaaDoor
namespace Go.Proofs.YtcpgelpajppgdaaDoor
open Go.RowKit Go.SL

theorem walk_all (bo bw : Nat) : ∀ d, WalkC bo bw d
  | 0 => by
    intro t hw kv q an cn lb pre ao co w hkv hcn hqd hq6 hn hbig hE
    have hz : t.kids = [] := by cases t; exact hw.1
    refine (walk_none hz hkv hE).mono ?_
    rintro e w' ⟨v, rfl, h⟩
    refine ⟨v, rfl, ao, co, ?_⟩
    rw [entT_file hz, List.append_nil]
    exact h
  | d + 1 => walk_step (walk_all bo bw d)
set_option maxRecDepth 100000 in
set_option maxHeartbeats 2000000 in
attribute [-go_sem] Instr.loadAt in
theorem Entries_any {d : Nat} {t : Tr} (hw : Tr.Wf d t) (hd : d ≤ 100) {kv : Value} {l : List HProp} (hkv : KidsAt l kv t.kids) (hb : (entT d [] t).length ≤ 1000000) {w : World} (hE : Ent l w) :
    Calls Tryd.prog 23 #[nodeV t kv] w (Ret fun v w' => ∃ ao c m, v = .slice ao (entT d [] t).length c ∧ Ent (rowEn ao c (entT d [] t) :: (m ++ l)) w') := by
  have HW := SL.hid (fun (bo bw : Nat) (lb : List HProp) (w : World) (hkv : KidsAt lb kv t.kids) (hE : Ent (boO bo none 0 0 :: boW bo bw :: rowEn none 0 [] :: lb) w) =>
    walk_all bo bw d t hw kv [] none 0 lb [] none 0 w hkv (Nat.zero_le _) (by simpa using hd) (by simp) (fun _ _ => reads_nil 0 0 rfl _) (by simpa using hb) hE)
  simp only [List.length_nil, List.nil_append, nodeV] at HW
  unfold nodeV
  unfold boO boW at HW
  clear hb hw
  generalize entT d [] t = es at *
  go_enter Tryd.func23, Tryd.ntmps23
  go_wp2_with (first
    | go_skip
    | ((with_reducible (show Go.wpList _ _ _ (Go.Oper.mk _ (.box _ _) _ _ _ _ :: _) _ _)); refine wpl_box hE rfl rfl rfl ?_; clear hE; intro b1 w hE; simp only [Act.eval, Act.put, List.setIfInBounds_toArray, List.set_cons_zero, List.set_cons_succ, getD_lit, List.getD_cons_succ, List.getD_cons_zero, Value.cells] at hE)
    | ((with_reducible (show Go.wpList _ _ _ (Go.Oper.mk _ (.alloc 22) _ _ _ _ :: _) _ _)); refine wpl_alloc hE rfl rfl (by simp [go_sem]; rfl) ?_; clear hE; intro b3 w hE; simp only [Act.eval, Act.put, List.setIfInBounds_toArray, List.set_cons_zero, List.set_cons_succ, getD_lit, List.getD_cons_succ, List.getD_cons_zero, Value.cells] at hE)
    | ((with_reducible (show Go.wpList _ _ _ (Go.Oper.mk _ (.alloc 97) _ _ _ _ :: _) _ _)); refine wpl_alloc hE rfl rfl (by simp [go_sem]; rfl) ?_; clear hE; intro b4 w hE; simp only [Act.eval, Act.put, List.setIfInBounds_toArray, List.set_cons_zero, List.set_cons_succ, getD_lit, List.getD_cons_succ, List.getD_cons_zero, Value.cells] at hE)
    | ((with_reducible (show Go.wpList _ _ _ (Go.Oper.mk _ (.store _ _ _) _ _ _ _ :: _) _ _)); refine wpl_st1 hE 0 rfl rfl rfl rfl rfl (by first | (simp [go_sem]; done) | (simp [go_sem]; rfl)) rfl rfl (by simp) ?_; clear hE; intro w hE; simp only [Act.eval, Act.put, List.setIfInBounds_toArray, List.set_cons_zero, List.set_cons_succ, getD_lit, List.getD_cons_succ, List.getD_cons_zero, Value.cells] at hE)
    | ((with_reducible (show Go.wpList _ _ _ (Go.Oper.mk _ (.load 25 _) _ _ _ _ :: _) _ _)); refine wpl_loadA hE 2 rfl rfl rfl (off := 0) rfl Tryd.isAgg25 Tryd.sizeOf25 [.bool t.dir, .string ⟨t.data.toArray⟩, kv] rfl (fun j hj => by match j, hj with | 0, _ => rfl | 1, _ => rfl | 2, _ => rfl) ?_)
    | ((with_reducible (show Go.wpList _ _ _ (Go.Oper.mk _ (.load 97 _) _ _ _ _ :: _) _ _)); refine wpl_load1 hE 0 rfl rfl rfl rfl (by simp [go_sem]) rfl ?_))
  replace hE := ((hE.nil 63 3).front 1 rfl).front 2 rfl
  simp only [List.eraseIdx_cons_succ, List.eraseIdx_cons_zero] at hE
  refine (HW.out b3 b4 (pt b1 (.cells #[.bool t.dir, .string ⟨t.data.toArray⟩, kv] 25) :: l) _ (hkv.suf (List.suffix_cons _ _)) hE).mono ?_
  clear hE
  rintro e w9 ⟨v, rfl, ao, co, hE⟩
  go_wp2_with (first
    | go_skip
    | ((with_reducible (show Go.wpList _ _ _ (Go.Oper.mk _ (.load _ (.tmp 3)) _ _ _ _ :: _) _ _)); refine wpl_load1 hE 0 rfl rfl rfl rfl (by simp [go_sem]) rfl ?_))
  go_ret
  exact ⟨_, rfl, ao, co, [_, _, _], rfl, hE.front 2 rfl⟩
end Go.Proofs.YtcpgelpajppgdaaDoor
