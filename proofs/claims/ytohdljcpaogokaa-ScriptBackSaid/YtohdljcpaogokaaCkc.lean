/-
  The chunk of bytes, as the program takes it.
-/
import Derived.Test.YtohdljcpaogokaaCka
import Derived.Test.YtohdljcpaogokaaSlm
namespace Go.Proofs.Ytohdljcpaogokaa
open Go.RowKit Go.SL

theorem kset0 (k : Kid) (nm : List UInt8) : (kcells k).toArray.toList.take 0 ++ (Value.string ⟨nm.toArray⟩).cells.toList ++ (kcells k).toArray.toList.drop (0 + (Value.string ⟨nm.toArray⟩).cells.toList.length) = kcells { k with name := nm } := by simp [kcells, Value.cells]
theorem kset1 (k : Kid) (b : Bool) : (kcells k).toArray.toList.take 1 ++ (Value.bool b).cells.toList ++ (kcells k).toArray.toList.drop (1 + (Value.bool b).cells.toList.length) = kcells { k with dir := b } := by simp [kcells, Value.cells]
theorem kset2 {k : Kid} {hs : List UInt8} (h : k.hash.length = 32) (h2 : hs.length = 32) : (kcells k).toArray.toList.take 2 ++ (Value.agg (bvals hs).toArray).cells.toList ++ (kcells k).toArray.toList.drop (2 + (Value.agg (bvals hs).toArray).cells.toList.length) = kcells { k with hash := hs } := by
  simp only [kcells, Value.cells, List.take_succ_cons, List.take_zero, bvals_length, h2, show 2 + 32 = 33 + 1 from rfl, List.drop_succ_cons, List.cons_append, List.nil_append, show 33 = 32 + 1 from rfl]
  rw [List.drop_left' (by rw [bvals_length, h])]
theorem kset34 {k : Kid} (h : k.hash.length = 32) (g : UInt8) : (kcells k).toArray.toList.take 34 ++ (Value.int .u8 g.toNat).cells.toList ++ (kcells k).toArray.toList.drop (34 + (Value.int .u8 g.toNat).cells.toList.length) = kcells { k with height := g } := by
  have hX : (bvals k.hash).length = 32 := by rw [bvals_length, h]
  simp only [kcells, Value.cells]
  generalize bvals k.hash = X at hX
  simp [List.take_append, List.drop_append, hX]
theorem kset35 {k : Kid} (h : k.hash.length = 32) (n : Nat) : (kcells k).toArray.toList.take 35 ++ (Value.int .u32 n).cells.toList ++ (kcells k).toArray.toList.drop (35 + (Value.int .u32 n).cells.toList.length) = kcells { k with size := n } := by
  have hX : (bvals k.hash).length = 32 := by rw [bvals_length, h]
  simp only [kcells, Value.cells]
  generalize bvals k.hash = X at hX
  simp [List.take_append, List.drop_append, hX]
  rw [List.take_of_length_le (by omega), List.drop_of_length_le (by omega)]

def kz : Kid := ⟨[], false, hz, 0, 0⟩
theorem info_kid : elemInfo Try.prog 59 = some (some 36, 36, 56) := by kernel_rfl

theorem wpl_storeK {P : Program} {ops : Array Oper} {rest : List Oper} {o : Oper} {a : Act} {Q : Exit → Act → World → Prop} {w : World} {l : List HProp} (hE : Ent l w) (i : Nat) {b : Nat} {xs xs' : List Value} {T : TypeId} (hi : l[i]? = some (pt b (.cells xs.toArray T (0, 0))))
    {t : TypeId} {x y : Operand} (ho : o.op = .store t x y) (hw : Region.wanted o (yielded ops a.tmps) = true)
    {off : Nat} (hx : a.eval x = .pointer (some ⟨b, off, none⟩)) {v : Value} (hy : a.eval y = v) {n : Nat} (hn : ∀ w, (Go.sizeOf t).run P w = .ok n w) (hc : v.cells.size = n)
    (h1 : ∀ u ∈ v.cells.toList, u.oneCell' = true) (hfit : off + n ≤ xs.length) (hres : xs.toArray.toList.take off ++ v.cells.toList ++ xs.toArray.toList.drop (off + v.cells.toList.length) = xs')
    (h : ∀ w', Ent (l.set i (pt b (.cells xs'.toArray T (0, 0)))) w' → wpList P ops Q rest (a.put o.dst undef) w') : wpList P ops Q (o :: rest) a w := by
  refine wpl_store hE i hi ho hw hx hy hn hc h1 (by simpa using hfit) fun w' hE' => h w' ?_
  rw [hres] at hE'
  exact hE'

abbrev rowK (ao : Option Addr) (c : Nat) (ks : List Kid) : HProp := row 59 36 (.slice ao ks.length c) ks.length (kidCells ks)

theorem Equal_any {a b : List UInt8} {ao bo : Option Addr} {c d : Nat} {w : World} (ha : reads (.slice ao a.length c) a.length (bvals a) w) (hb : reads (.slice bo b.length d) b.length (bvals b) w) :
    Calls Try.prog 60 #[.slice ao a.length c, .slice bo b.length d] w (fun e w' => e = .returned (.bool (a == b)) ∧ w = w') := by
  have c1 := bytesToString_reads (P := Try.prog) Try.underlying42 Try.underlying5 Try.underlying9 (bs := a) ha rfl
  have c2 := bytesToString_reads (P := Try.prog) Try.underlying42 Try.underlying5 Try.underlying9 (bs := b) hb rfl
  go_enter Try.func60, Try.ntmps60
  go_wp2
  go_ret
  exact ⟨rfl, rfl⟩

def resC (bs : List UInt8) : Chunk := (takeC bs).getD ⟨0, [], []⟩
def errC (bs : List UInt8) : Int := if (takeC bs).isSome then 0 else 3
theorem takeC_bad {bs : List UInt8} (h : (mayC (pchunk bs).1 && (putC (pchunk bs).1 == bs)) = false) : resC bs = ⟨0, [], []⟩ ∧ errC bs = 3 := by
  have e : takeC bs = none := by unfold takeC; rw [h]; rfl
  unfold resC errC
  rw [e]
  exact ⟨rfl, rfl⟩
theorem takeC_good {bs : List UInt8} (h : mayC (pchunk bs).1 = true) (h2 : (putC (pchunk bs).1 == bs) = true) : resC bs = (pchunk bs).1 ∧ errC bs = 0 ∧ (pchunk bs).2 = ⟨[], 0⟩ := by
  have e : takeC bs = some (pchunk bs).1 := by unfold takeC; rw [h, h2]; rfl
  refine ⟨?_, ?_, (takeC_some e).2.2.2⟩
  · unfold resC; rw [e]; rfl
  · unfold errC; rw [e]; rfl

def CTakeRel (d : Bool) (s2 : St) (n : Nat) (o b5 : Nat) (u : Int) (l : List HProp) (i : Value) (wr : World) : Prop :=
  ∃ k ao c, k ≤ n ∧ i = .int .u64 (k : Nat) ∧ Ent (opener o (pkids d k s2).2.bs (pkids d k s2).2.err :: pt b5 (.cells #[.int .u8 u, .string ⟨#[]⟩, .slice ao (pkids d k s2).1.length c] 39) :: rowK ao c (pkids d k s2).1 :: l) wr
theorem pkids_succ1 (d : Bool) (k : Nat) (s : St) : (pkids d (k + 1) s).1 = (pkids d k s).1 ++ [(pkid d (pkids d k s).2).1] := rfl
theorem pkids_succ2 (d : Bool) (k : Nat) (s : St) : (pkids d (k + 1) s).2 = (pkid d (pkids d k s).2).2 := rfl

set_option maxRecDepth 100000 in
set_option maxHeartbeats 4000000 in
theorem take_1 {bs : List UInt8} (hb : bs.length ≤ 1000000) (h1 : ((tkV 1 ⟨bs, 0⟩ : Int) == 1) = true) {ai : Option Addr} {ci : Nat} {l : List HProp} {w : World} (hE : Ent l w) (hk : Knows l (reads (.slice ai bs.length ci) bs.length (bvals bs))) :
    Calls Try.prog 18 #[.slice ai bs.length ci] w (Ret fun v w' => ∃ ao c, v = .tuple #[.agg #[.int .u8 (resC bs).kind.toNat, .string ⟨(resC bs).data.toArray⟩, .slice ao (resC bs).kids.length c], .int .i64 (errC bs)] ∧ Ent (rowK ao c (resC bs).kids :: l) w') := by
  have e0 : UInt8.ofNat (tkV 1 ⟨bs, 0⟩) = 1 := by
    have : tkV 1 ⟨bs, 0⟩ = 1 := by have h : (tkV 1 ⟨bs, 0⟩ : Int) = 1 := by simpa using h1
                                   omega
    rw [this]; rfl
  have hn1 : tkV 1 ⟨bs, 0⟩ = 1 := by have h : (tkV 1 ⟨bs, 0⟩ : Int) = 1 := by simpa using h1
                                     omega
  have hp : pchunk bs = (⟨1, txV (tk 1 ⟨bs, 0⟩).bs.length (tk 1 ⟨bs, 0⟩), []⟩, tx (tk 1 ⟨bs, 0⟩).bs.length (tk 1 ⟨bs, 0⟩)) := by
    unfold pchunk
    simp only [e0, show ((1 : UInt8) == 1) = true from rfl, if_true]
  have hl1 : (tk 1 ⟨bs, 0⟩).bs.length ≤ bs.length := tk_len _ _
  generalize hs1 : tk 1 ⟨bs, 0⟩ = s1 at hp hl1
  have hT1 : ∀ {l : List HProp} {w : World} {o : Nat}, Ent (opener o bs 0 :: l) w → Calls Try.prog 55 #[.pointer (some ⟨o, 0, none⟩), .int .i64 1] w (Ret fun v w' => v = .int .u64 1 ∧ Ent (opener o s1.bs s1.err :: l) w') := fun h => by
    subst hs1
    have H := sTake (s := ⟨bs, 0⟩) h (by show bs.length ≤ _; omega) 1
    rw [hn1] at H
    exact H
  have hX : ∀ {l : List HProp} {w : World} {o : Nat}, Ent (opener o s1.bs s1.err :: l) w → Calls Try.prog 56 #[.pointer (some ⟨o, 0, none⟩), .int .i64 s1.bs.length] w (Ret fun v w' => v = .string ⟨(txV s1.bs.length s1).toArray⟩ ∧ Ent (opener o (tx s1.bs.length s1).bs (tx s1.bs.length s1).err :: l) w') := fun h => sText h (by omega) _
  clear h1 e0 hn1 hs1
  have hp1 : (pchunk bs).1 = ⟨1, txV s1.bs.length s1, []⟩ := by rw [hp]
  have hp2 : (pchunk bs).2 = tx s1.bs.length s1 := by rw [hp]
  clear hp
  generalize tx s1.bs.length s1 = s2 at *
  generalize hdat : txV s1.bs.length s1 = dat at *
  clear hdat
  cases hm : mayC (pchunk bs).1 with
  | false =>
    obtain ⟨r1, r2⟩ := takeC_bad (bs := bs) (by rw [hm]; rfl)
    have R1 := SL.hid r1
    have R2 := SL.hid r2
    clear r1 r2
    cases he : (endE (pchunk bs).2.bs (pchunk bs).2.err == 0) with
    | true =>
      rw [hp2] at he
      have P1 := SL.hid hp1
      have Hm := SL.hid (show mayC ⟨1, dat, []⟩ = false by rw [← hp1]; exact hm)
      have Hgk := SL.hid (show ∀ k ∈ ([] : List Kid), k.good by simp)
      have Hlk := SL.hid (show ([] : List Kid).length ≤ 1000 by simp)
      have He := SL.hid (show endE s2.bs s2.err = 0 by simpa using he)
      clear hm hp1 hp2
      go_enter Try.func18, Try.ntmps18
      go_wp2_with (first
        | go_skip
        | ((with_reducible (show Go.wpList _ _ _ (Go.Oper.mk _ (.alloc _) _ _ _ _ :: _) _ _)); refine wpl_alloc hE rfl rfl (by simp [go_sem]; rfl) ?_; clear hE; intro b2 w hE1; simp only [Act.eval, Act.put, List.setIfInBounds_toArray, List.set_cons_zero, List.set_cons_succ, getD_lit, List.getD_cons_succ, List.getD_cons_zero, Value.cells] at hE1)
        | (go_at_call 47; have H := Of_any hE1 hk.cons (by omega); refine H.mono ?_; clear H hE1; rintro e w2 ⟨v, rfl, o, rfl, hE2⟩)
        | (go_at_call 55; have H := hT1 hE2; refine H.mono ?_; clear H hE2; rintro e w2 ⟨v, rfl, rfl, hE3⟩)
        | ((with_reducible (show Go.wpList _ _ _ (Go.Oper.mk _ (.alloc _) _ _ _ _ :: _) _ _)); refine wpl_alloc hE3 rfl rfl (by simp [go_sem]; rfl) ?_; clear hE3; intro b5 w hE4; simp only [Act.eval, Act.put, List.setIfInBounds_toArray, List.set_cons_zero, List.set_cons_succ, getD_lit, List.getD_cons_succ, List.getD_cons_zero, Value.cells] at hE4)
        | (refine wpl_storeW hE4 0 rfl rfl rfl (xs := [.int .u8 1, .string ⟨#[]⟩, .slice none 0 0]) rfl rfl Try.sizeOf39 rfl (by simp [Value.oneCell']) rfl ?_; clear hE4; intro w hE5; simp only [List.set_cons_zero, List.set_cons_succ] at hE5)
        | ((with_reducible (show Go.wpList _ _ _ (Go.Oper.mk _ (.load 5 _) _ _ _ _ :: _) _ _)); refine wpl_load1 hE5 0 rfl rfl rfl rfl (by simp [go_sem]) rfl ?_)
        | (go_at_call 51; have H := Left_any (hE5.front 1 rfl); refine H.mono ?_; clear H; rintro e w7 ⟨rfl, rfl⟩)
        | (go_at_call 56; have H := hX (hE5.front 1 rfl); refine H.mono ?_; clear H hE5; rintro e w7 ⟨v, rfl, rfl, hE8⟩; simp only [List.eraseIdx_cons_succ, List.eraseIdx_cons_zero] at hE8)
        | ((with_reducible (show Go.wpList _ _ _ (Go.Oper.mk _ (.store _ _ _) _ _ _ _ :: _) _ _)); refine wpl_store hE8 1 rfl rfl rfl rfl rfl (by simp [go_sem]; rfl) (by rfl) (by simp [Value.cells, Value.oneCell', Act.eval]) (by simp) ?_; clear hE8; intro w hE; simp only [Act.eval, getD_lit, List.getD_cons_succ, List.getD_cons_zero, Value.cells, List.set_cons_zero, List.set_cons_succ, List.take_succ_cons, List.take_zero, List.nil_append, List.cons_append, List.drop_succ_cons, List.drop_zero, List.length_cons, List.length_nil, Nat.reduceAdd, Nat.zero_add] at hE)
        | ((with_reducible (show Go.wpList _ _ _ (Go.Oper.mk _ (.load 39 _) _ _ _ _ :: _) _ _)); refine wpl_loadW hE 1 rfl rfl rfl rfl Try.isAgg39 Try.sizeOf39 (xs := [.int .u8 1, .string ⟨dat.toArray⟩, .slice none 0 0]) rfl ?_)
        | (go_at_call 23; have H := cPut_no (u := 1) (data := dat) (ks := ([] : List Kid)) Hgk.out (by have := Hlk.out; omega) Hm.out hE (fun _ _ => reads_nil 0 0 rfl _); refine H.mono ?_; clear H hE; rintro e w6 ⟨v, rfl, rfl, hE6⟩)
        | (go_at_call 59; have H := End_any (hE6.front 0 rfl); rw [He.out] at H; refine H.mono ?_; clear H; rintro e w7 ⟨rfl, rfl⟩)
        | (refine wpl_storeW hE6 2 rfl rfl rfl (xs := [.int .u8 0, .string ⟨#[]⟩, .slice none 0 0]) rfl rfl Try.sizeOf39 rfl (by simp [Value.oneCell']) rfl ?_; clear hE6; intro w hE7; simp only [List.set_cons_zero, List.set_cons_succ] at hE7))
      refine bodyPost_ret (results_cell2 rfl hE7 2 rfl rfl Try.isAgg39 Try.sizeOf39 rfl rfl) rfl ?_
      exact ⟨_, rfl, none, 0, by rw [R1.out, R2.out]; rfl, by rw [R1.out]; exact (hE7.tail.tail.tail).nil _ _⟩
    | false =>
      rw [hp2] at he
      have P1 := SL.hid hp1
      have Hm := SL.hid (show mayC ⟨1, dat, []⟩ = false by rw [← hp1]; exact hm)
      have Hgk := SL.hid (show ∀ k ∈ ([] : List Kid), k.good by simp)
      have Hlk := SL.hid (show ([] : List Kid).length ≤ 1000 by simp)
      generalize hee : endE s2.bs s2.err = ee at he
      have he' : (ee != 0) = true := by simp only [bne, he]; rfl
      have He := SL.hid hee
      clear hee
      clear hm hp1 hp2
      go_enter Try.func18, Try.ntmps18
      go_wp2_with (first
        | go_skip
        | ((with_reducible (show Go.wpList _ _ _ (Go.Oper.mk _ (.alloc _) _ _ _ _ :: _) _ _)); refine wpl_alloc hE rfl rfl (by simp [go_sem]; rfl) ?_; clear hE; intro b2 w hE1; simp only [Act.eval, Act.put, List.setIfInBounds_toArray, List.set_cons_zero, List.set_cons_succ, getD_lit, List.getD_cons_succ, List.getD_cons_zero, Value.cells] at hE1)
        | (go_at_call 47; have H := Of_any hE1 hk.cons (by omega); refine H.mono ?_; clear H hE1; rintro e w2 ⟨v, rfl, o, rfl, hE2⟩)
        | (go_at_call 55; have H := hT1 hE2; refine H.mono ?_; clear H hE2; rintro e w2 ⟨v, rfl, rfl, hE3⟩)
        | ((with_reducible (show Go.wpList _ _ _ (Go.Oper.mk _ (.alloc _) _ _ _ _ :: _) _ _)); refine wpl_alloc hE3 rfl rfl (by simp [go_sem]; rfl) ?_; clear hE3; intro b5 w hE4; simp only [Act.eval, Act.put, List.setIfInBounds_toArray, List.set_cons_zero, List.set_cons_succ, getD_lit, List.getD_cons_succ, List.getD_cons_zero, Value.cells] at hE4)
        | (refine wpl_storeW hE4 0 rfl rfl rfl (xs := [.int .u8 1, .string ⟨#[]⟩, .slice none 0 0]) rfl rfl Try.sizeOf39 rfl (by simp [Value.oneCell']) rfl ?_; clear hE4; intro w hE5; simp only [List.set_cons_zero, List.set_cons_succ] at hE5)
        | ((with_reducible (show Go.wpList _ _ _ (Go.Oper.mk _ (.load 5 _) _ _ _ _ :: _) _ _)); refine wpl_load1 hE5 0 rfl rfl rfl rfl (by simp [go_sem]) rfl ?_)
        | (go_at_call 51; have H := Left_any (hE5.front 1 rfl); refine H.mono ?_; clear H; rintro e w7 ⟨rfl, rfl⟩)
        | (go_at_call 56; have H := hX (hE5.front 1 rfl); refine H.mono ?_; clear H hE5; rintro e w7 ⟨v, rfl, rfl, hE8⟩; simp only [List.eraseIdx_cons_succ, List.eraseIdx_cons_zero] at hE8)
        | ((with_reducible (show Go.wpList _ _ _ (Go.Oper.mk _ (.store _ _ _) _ _ _ _ :: _) _ _)); refine wpl_store hE8 1 rfl rfl rfl rfl rfl (by simp [go_sem]; rfl) (by rfl) (by simp [Value.cells, Value.oneCell', Act.eval]) (by simp) ?_; clear hE8; intro w hE; simp only [Act.eval, getD_lit, List.getD_cons_succ, List.getD_cons_zero, Value.cells, List.set_cons_zero, List.set_cons_succ, List.take_succ_cons, List.take_zero, List.nil_append, List.cons_append, List.drop_succ_cons, List.drop_zero, List.length_cons, List.length_nil, Nat.reduceAdd, Nat.zero_add] at hE)
        | ((with_reducible (show Go.wpList _ _ _ (Go.Oper.mk _ (.load 39 _) _ _ _ _ :: _) _ _)); refine wpl_loadW hE 1 rfl rfl rfl rfl Try.isAgg39 Try.sizeOf39 (xs := [.int .u8 1, .string ⟨dat.toArray⟩, .slice none 0 0]) rfl ?_)
        | (go_at_call 23; have H := cPut_no (u := 1) (data := dat) (ks := ([] : List Kid)) Hgk.out (by have := Hlk.out; omega) Hm.out hE (fun _ _ => reads_nil 0 0 rfl _); refine H.mono ?_; clear H hE; rintro e w6 ⟨v, rfl, rfl, hE6⟩)
        | (go_at_call 59; have H := End_any (hE6.front 0 rfl); rw [He.out] at H; refine H.mono ?_; clear H; rintro e w7 ⟨rfl, rfl⟩)
        | (refine wpl_storeW hE6 2 rfl rfl rfl (xs := [.int .u8 0, .string ⟨#[]⟩, .slice none 0 0]) rfl rfl Try.sizeOf39 rfl (by simp [Value.oneCell']) rfl ?_; clear hE6; intro w hE7; simp only [List.set_cons_zero, List.set_cons_succ] at hE7))
      refine bodyPost_ret (results_cell2 rfl hE7 2 rfl rfl Try.isAgg39 Try.sizeOf39 rfl rfl) rfl ?_
      exact ⟨_, rfl, none, 0, by rw [R1.out, R2.out]; rfl, by rw [R1.out]; exact (hE7.tail.tail.tail).nil _ _⟩
  | true =>
    cases hq : (putC (pchunk bs).1 == bs) with
    | false =>
      obtain ⟨r1, r2⟩ := takeC_bad (bs := bs) (by rw [hm, hq]; rfl)
      have R1 := SL.hid r1
      have R2 := SL.hid r2
      clear r1 r2
      cases he : (endE (pchunk bs).2.bs (pchunk bs).2.err == 0) with
      | true =>
        rw [hp2] at he
        have P1 := SL.hid hp1
        have Hm := SL.hid (show mayC ⟨1, dat, []⟩ = true by rw [← hp1]; exact hm)
        have Hgk := SL.hid (show ∀ k ∈ ([] : List Kid), k.good by simp)
        have Hlk := SL.hid (show ([] : List Kid).length ≤ 1000 by simp)
        have Hq := SL.hid (show (putC ⟨1, dat, []⟩ == bs) = false by rw [← hp1]; exact hq)
        clear hq
        have He := SL.hid (show endE s2.bs s2.err = 0 by simpa using he)
        clear hm hp1 hp2
        go_enter Try.func18, Try.ntmps18
        go_wp2_with (first
          | go_skip
          | ((with_reducible (show Go.wpList _ _ _ (Go.Oper.mk _ (.alloc _) _ _ _ _ :: _) _ _)); refine wpl_alloc hE rfl rfl (by simp [go_sem]; rfl) ?_; clear hE; intro b2 w hE1; simp only [Act.eval, Act.put, List.setIfInBounds_toArray, List.set_cons_zero, List.set_cons_succ, getD_lit, List.getD_cons_succ, List.getD_cons_zero, Value.cells] at hE1)
          | (go_at_call 47; have H := Of_any hE1 hk.cons (by omega); refine H.mono ?_; clear H hE1; rintro e w2 ⟨v, rfl, o, rfl, hE2⟩)
          | (go_at_call 55; have H := hT1 hE2; refine H.mono ?_; clear H hE2; rintro e w2 ⟨v, rfl, rfl, hE3⟩)
          | ((with_reducible (show Go.wpList _ _ _ (Go.Oper.mk _ (.alloc _) _ _ _ _ :: _) _ _)); refine wpl_alloc hE3 rfl rfl (by simp [go_sem]; rfl) ?_; clear hE3; intro b5 w hE4; simp only [Act.eval, Act.put, List.setIfInBounds_toArray, List.set_cons_zero, List.set_cons_succ, getD_lit, List.getD_cons_succ, List.getD_cons_zero, Value.cells] at hE4)
          | (refine wpl_storeW hE4 0 rfl rfl rfl (xs := [.int .u8 1, .string ⟨#[]⟩, .slice none 0 0]) rfl rfl Try.sizeOf39 rfl (by simp [Value.oneCell']) rfl ?_; clear hE4; intro w hE5; simp only [List.set_cons_zero, List.set_cons_succ] at hE5)
          | ((with_reducible (show Go.wpList _ _ _ (Go.Oper.mk _ (.load 5 _) _ _ _ _ :: _) _ _)); refine wpl_load1 hE5 0 rfl rfl rfl rfl (by simp [go_sem]) rfl ?_)
          | (go_at_call 51; have H := Left_any (hE5.front 1 rfl); refine H.mono ?_; clear H; rintro e w7 ⟨rfl, rfl⟩)
          | (go_at_call 56; have H := hX (hE5.front 1 rfl); refine H.mono ?_; clear H hE5; rintro e w7 ⟨v, rfl, rfl, hE8⟩; simp only [List.eraseIdx_cons_succ, List.eraseIdx_cons_zero] at hE8)
          | ((with_reducible (show Go.wpList _ _ _ (Go.Oper.mk _ (.store _ _ _) _ _ _ _ :: _) _ _)); refine wpl_store hE8 1 rfl rfl rfl rfl rfl (by simp [go_sem]; rfl) (by rfl) (by simp [Value.cells, Value.oneCell', Act.eval]) (by simp) ?_; clear hE8; intro w hE; simp only [Act.eval, getD_lit, List.getD_cons_succ, List.getD_cons_zero, Value.cells, List.set_cons_zero, List.set_cons_succ, List.take_succ_cons, List.take_zero, List.nil_append, List.cons_append, List.drop_succ_cons, List.drop_zero, List.length_cons, List.length_nil, Nat.reduceAdd, Nat.zero_add] at hE)
          | ((with_reducible (show Go.wpList _ _ _ (Go.Oper.mk _ (.load 39 _) _ _ _ _ :: _) _ _)); refine wpl_loadW hE 1 rfl rfl rfl rfl Try.isAgg39 Try.sizeOf39 (xs := [.int .u8 1, .string ⟨dat.toArray⟩, .slice none 0 0]) rfl ?_)
          | (go_at_call 23; have H := cPut_yes (u := 1) (data := dat) (ks := ([] : List Kid)) Hgk.out Hm.out hE (fun _ _ => reads_nil 0 0 rfl _); refine H.mono ?_; clear H hE; rintro e w6 ⟨v, rfl, ap, cp, rfl, hE6⟩)
          | (go_at_call 59; have H := End_any (hE6.front 1 rfl); rw [He.out] at H; refine H.mono ?_; clear H; rintro e w7 ⟨rfl, rfl⟩)
          | (go_at_call 60; have H := Equal_any (reads_row hE6 0 rfl) (hk _ hE6.tail.tail.tail.tail); rw [Hq.out] at H; refine H.mono ?_; clear H; rintro e w7 ⟨rfl, rfl⟩)
          | (refine wpl_storeW hE6 3 rfl rfl rfl (xs := [.int .u8 0, .string ⟨#[]⟩, .slice none 0 0]) rfl rfl Try.sizeOf39 rfl (by simp [Value.oneCell']) rfl ?_; clear hE6; intro w hE7; simp only [List.set_cons_zero, List.set_cons_succ] at hE7))
        refine bodyPost_ret (results_cell2 rfl hE7 3 rfl rfl Try.isAgg39 Try.sizeOf39 rfl rfl) rfl ?_
        exact ⟨_, rfl, none, 0, by rw [R1.out, R2.out]; rfl, by rw [R1.out]; exact (hE7.tail.tail.tail.tail).nil _ _⟩
      | false =>
        rw [hp2] at he
        have P1 := SL.hid hp1
        have Hm := SL.hid (show mayC ⟨1, dat, []⟩ = true by rw [← hp1]; exact hm)
        have Hgk := SL.hid (show ∀ k ∈ ([] : List Kid), k.good by simp)
        have Hlk := SL.hid (show ([] : List Kid).length ≤ 1000 by simp)
        have Hq := SL.hid (show (putC ⟨1, dat, []⟩ == bs) = false by rw [← hp1]; exact hq)
        clear hq
        generalize hee : endE s2.bs s2.err = ee at he
        have he' : (ee != 0) = true := by simp only [bne, he]; rfl
        have He := SL.hid hee
        clear hee
        clear hm hp1 hp2
        go_enter Try.func18, Try.ntmps18
        go_wp2_with (first
          | go_skip
          | ((with_reducible (show Go.wpList _ _ _ (Go.Oper.mk _ (.alloc _) _ _ _ _ :: _) _ _)); refine wpl_alloc hE rfl rfl (by simp [go_sem]; rfl) ?_; clear hE; intro b2 w hE1; simp only [Act.eval, Act.put, List.setIfInBounds_toArray, List.set_cons_zero, List.set_cons_succ, getD_lit, List.getD_cons_succ, List.getD_cons_zero, Value.cells] at hE1)
          | (go_at_call 47; have H := Of_any hE1 hk.cons (by omega); refine H.mono ?_; clear H hE1; rintro e w2 ⟨v, rfl, o, rfl, hE2⟩)
          | (go_at_call 55; have H := hT1 hE2; refine H.mono ?_; clear H hE2; rintro e w2 ⟨v, rfl, rfl, hE3⟩)
          | ((with_reducible (show Go.wpList _ _ _ (Go.Oper.mk _ (.alloc _) _ _ _ _ :: _) _ _)); refine wpl_alloc hE3 rfl rfl (by simp [go_sem]; rfl) ?_; clear hE3; intro b5 w hE4; simp only [Act.eval, Act.put, List.setIfInBounds_toArray, List.set_cons_zero, List.set_cons_succ, getD_lit, List.getD_cons_succ, List.getD_cons_zero, Value.cells] at hE4)
          | (refine wpl_storeW hE4 0 rfl rfl rfl (xs := [.int .u8 1, .string ⟨#[]⟩, .slice none 0 0]) rfl rfl Try.sizeOf39 rfl (by simp [Value.oneCell']) rfl ?_; clear hE4; intro w hE5; simp only [List.set_cons_zero, List.set_cons_succ] at hE5)
          | ((with_reducible (show Go.wpList _ _ _ (Go.Oper.mk _ (.load 5 _) _ _ _ _ :: _) _ _)); refine wpl_load1 hE5 0 rfl rfl rfl rfl (by simp [go_sem]) rfl ?_)
          | (go_at_call 51; have H := Left_any (hE5.front 1 rfl); refine H.mono ?_; clear H; rintro e w7 ⟨rfl, rfl⟩)
          | (go_at_call 56; have H := hX (hE5.front 1 rfl); refine H.mono ?_; clear H hE5; rintro e w7 ⟨v, rfl, rfl, hE8⟩; simp only [List.eraseIdx_cons_succ, List.eraseIdx_cons_zero] at hE8)
          | ((with_reducible (show Go.wpList _ _ _ (Go.Oper.mk _ (.store _ _ _) _ _ _ _ :: _) _ _)); refine wpl_store hE8 1 rfl rfl rfl rfl rfl (by simp [go_sem]; rfl) (by rfl) (by simp [Value.cells, Value.oneCell', Act.eval]) (by simp) ?_; clear hE8; intro w hE; simp only [Act.eval, getD_lit, List.getD_cons_succ, List.getD_cons_zero, Value.cells, List.set_cons_zero, List.set_cons_succ, List.take_succ_cons, List.take_zero, List.nil_append, List.cons_append, List.drop_succ_cons, List.drop_zero, List.length_cons, List.length_nil, Nat.reduceAdd, Nat.zero_add] at hE)
          | ((with_reducible (show Go.wpList _ _ _ (Go.Oper.mk _ (.load 39 _) _ _ _ _ :: _) _ _)); refine wpl_loadW hE 1 rfl rfl rfl rfl Try.isAgg39 Try.sizeOf39 (xs := [.int .u8 1, .string ⟨dat.toArray⟩, .slice none 0 0]) rfl ?_)
          | (go_at_call 23; have H := cPut_yes (u := 1) (data := dat) (ks := ([] : List Kid)) Hgk.out Hm.out hE (fun _ _ => reads_nil 0 0 rfl _); refine H.mono ?_; clear H hE; rintro e w6 ⟨v, rfl, ap, cp, rfl, hE6⟩)
          | (go_at_call 59; have H := End_any (hE6.front 1 rfl); rw [He.out] at H; refine H.mono ?_; clear H; rintro e w7 ⟨rfl, rfl⟩)
          | (refine wpl_storeW hE6 3 rfl rfl rfl (xs := [.int .u8 0, .string ⟨#[]⟩, .slice none 0 0]) rfl rfl Try.sizeOf39 rfl (by simp [Value.oneCell']) rfl ?_; clear hE6; intro w hE7; simp only [List.set_cons_zero, List.set_cons_succ] at hE7))
        refine bodyPost_ret (results_cell2 rfl hE7 3 rfl rfl Try.isAgg39 Try.sizeOf39 rfl rfl) rfl ?_
        exact ⟨_, rfl, none, 0, by rw [R1.out, R2.out]; rfl, by rw [R1.out]; exact (hE7.tail.tail.tail.tail).nil _ _⟩
    | true =>
      obtain ⟨r1, r2, r3⟩ := takeC_good hm hq
      have R1 := SL.hid r1
      have R2 := SL.hid r2
      have he : (endE (pchunk bs).2.bs (pchunk bs).2.err == 0) = true := by rw [r3]; rfl
      clear r1 r2 r3
      rw [hp2] at he
      have P1 := SL.hid hp1
      have Hm := SL.hid (show mayC ⟨1, dat, []⟩ = true by rw [← hp1]; exact hm)
      have Hgk := SL.hid (show ∀ k ∈ ([] : List Kid), k.good by simp)
      have Hlk := SL.hid (show ([] : List Kid).length ≤ 1000 by simp)
      have Hq := SL.hid (show (putC ⟨1, dat, []⟩ == bs) = true by rw [← hp1]; exact hq)
      clear hq
      have He := SL.hid (show endE s2.bs s2.err = 0 by simpa using he)
      clear hm hp1 hp2
      go_enter Try.func18, Try.ntmps18
      go_wp2_with (first
        | go_skip
        | ((with_reducible (show Go.wpList _ _ _ (Go.Oper.mk _ (.alloc _) _ _ _ _ :: _) _ _)); refine wpl_alloc hE rfl rfl (by simp [go_sem]; rfl) ?_; clear hE; intro b2 w hE1; simp only [Act.eval, Act.put, List.setIfInBounds_toArray, List.set_cons_zero, List.set_cons_succ, getD_lit, List.getD_cons_succ, List.getD_cons_zero, Value.cells] at hE1)
        | (go_at_call 47; have H := Of_any hE1 hk.cons (by omega); refine H.mono ?_; clear H hE1; rintro e w2 ⟨v, rfl, o, rfl, hE2⟩)
        | (go_at_call 55; have H := hT1 hE2; refine H.mono ?_; clear H hE2; rintro e w2 ⟨v, rfl, rfl, hE3⟩)
        | ((with_reducible (show Go.wpList _ _ _ (Go.Oper.mk _ (.alloc _) _ _ _ _ :: _) _ _)); refine wpl_alloc hE3 rfl rfl (by simp [go_sem]; rfl) ?_; clear hE3; intro b5 w hE4; simp only [Act.eval, Act.put, List.setIfInBounds_toArray, List.set_cons_zero, List.set_cons_succ, getD_lit, List.getD_cons_succ, List.getD_cons_zero, Value.cells] at hE4)
        | (refine wpl_storeW hE4 0 rfl rfl rfl (xs := [.int .u8 1, .string ⟨#[]⟩, .slice none 0 0]) rfl rfl Try.sizeOf39 rfl (by simp [Value.oneCell']) rfl ?_; clear hE4; intro w hE5; simp only [List.set_cons_zero, List.set_cons_succ] at hE5)
        | ((with_reducible (show Go.wpList _ _ _ (Go.Oper.mk _ (.load 5 _) _ _ _ _ :: _) _ _)); refine wpl_load1 hE5 0 rfl rfl rfl rfl (by simp [go_sem]) rfl ?_)
        | (go_at_call 51; have H := Left_any (hE5.front 1 rfl); refine H.mono ?_; clear H; rintro e w7 ⟨rfl, rfl⟩)
        | (go_at_call 56; have H := hX (hE5.front 1 rfl); refine H.mono ?_; clear H hE5; rintro e w7 ⟨v, rfl, rfl, hE8⟩; simp only [List.eraseIdx_cons_succ, List.eraseIdx_cons_zero] at hE8)
        | ((with_reducible (show Go.wpList _ _ _ (Go.Oper.mk _ (.store _ _ _) _ _ _ _ :: _) _ _)); refine wpl_store hE8 1 rfl rfl rfl rfl rfl (by simp [go_sem]; rfl) (by rfl) (by simp [Value.cells, Value.oneCell', Act.eval]) (by simp) ?_; clear hE8; intro w hE; simp only [Act.eval, getD_lit, List.getD_cons_succ, List.getD_cons_zero, Value.cells, List.set_cons_zero, List.set_cons_succ, List.take_succ_cons, List.take_zero, List.nil_append, List.cons_append, List.drop_succ_cons, List.drop_zero, List.length_cons, List.length_nil, Nat.reduceAdd, Nat.zero_add] at hE)
        | ((with_reducible (show Go.wpList _ _ _ (Go.Oper.mk _ (.load 39 _) _ _ _ _ :: _) _ _)); refine wpl_loadW hE 1 rfl rfl rfl rfl Try.isAgg39 Try.sizeOf39 (xs := [.int .u8 1, .string ⟨dat.toArray⟩, .slice none 0 0]) rfl ?_)
        | (go_at_call 23; have H := cPut_yes (u := 1) (data := dat) (ks := ([] : List Kid)) Hgk.out Hm.out hE (fun _ _ => reads_nil 0 0 rfl _); refine H.mono ?_; clear H hE; rintro e w6 ⟨v, rfl, ap, cp, rfl, hE6⟩)
        | (go_at_call 59; have H := End_any (hE6.front 1 rfl); rw [He.out] at H; refine H.mono ?_; clear H; rintro e w7 ⟨rfl, rfl⟩)
        | (go_at_call 60; have H := Equal_any (reads_row hE6 0 rfl) (hk _ hE6.tail.tail.tail.tail); rw [Hq.out] at H; refine H.mono ?_; clear H; rintro e w7 ⟨rfl, rfl⟩)
        | ((with_reducible (show Go.wpList _ _ _ (Go.Oper.mk _ (.load 39 _) _ _ _ _ :: _) _ _)); refine wpl_loadW hE6 2 rfl rfl rfl rfl Try.isAgg39 Try.sizeOf39 (xs := [.int .u8 1, .string ⟨dat.toArray⟩, .slice none 0 0]) rfl ?_)
        | (refine wpl_storeW hE6 3 rfl rfl rfl (xs := [.int .u8 1, .string ⟨dat.toArray⟩, .slice none 0 0]) rfl rfl Try.sizeOf39 rfl (by simp [Value.oneCell']) rfl ?_; clear hE6; intro w hE7; simp only [List.set_cons_zero, List.set_cons_succ] at hE7))
      refine bodyPost_ret (results_cell2 rfl hE7 3 rfl rfl Try.isAgg39 Try.sizeOf39 rfl rfl) rfl ?_
      exact ⟨_, rfl, none, 0, by rw [R1.out, R2.out, P1.out]; rfl, by rw [R1.out, P1.out]; exact (hE7.tail.tail.tail.tail).nil _ _⟩
end Go.Proofs.Ytohdljcpaogokaa
