/-
  A text's bytes hashed, and compared with 32 bytes that are named.
-/
import Derived.Test.YtpchnmcofkffiaaDoorSh6
import Derived.Test.YtpchnmcofkffiaaDoorSh8
import Derived.Lib.ConvBytes
namespace Go.SL
section
variable {P : Program} {ops : Array Oper} {rest : List Oper} {o : Oper} {a : Act} {Q : Exit → Act → World → Prop} {w : World} {l : List HProp}
/-- '[]byte(s)': a block of its own -/
theorem wpl_strBytes (hE : Ent l w) {src dst e : TypeId} {x : Operand} (ho : o.op = .convert src dst x) (hw : Region.wanted o (yielded ops a.tmps) = true) {bs : List UInt8} (hx : a.eval x = .string ⟨bs.toArray⟩)
    (hs : P.underlying src = some .string) (hd : P.underlying dst = some (.slice e)) (he : P.underlying e = some (.int .u8))
    (h : ∀ (b c : Nat) (C : Array Value) (fz : Nat × Nat) w', bs.length ≤ c → (∀ (j : Nat) (u : Value), (bs.map fun b => Value.int .u8 b.toNat)[j]? = some u → C[j]? = some u) → Ent (pt b (.cells C e fz) :: l) w' → wpList P ops Q rest (a.put o.dst (.slice (some ⟨b, 0, none⟩) bs.length c)) w') : wpList P ops Q (o :: rest) a w := by
  have hr := Lib.run_convert_string_bytes (P := P) w src dst e ⟨bs.toArray⟩ hs hd he
  have hsz : (ByteArray.mk bs.toArray).size = bs.length := by simp [ByteArray.size]
  rw [hsz] at hr
  refine wpl_run hw (w' := Lib.bytesWorld w e ⟨bs.toArray⟩) (v := .slice (some ⟨w.heap.size, 0, none⟩) bs.length (grownCap w bs.length 0 e)) ?_ (h _ _ (Lib.bytesCells w e ⟨bs.toArray⟩) ((Lib.bytesCells w e ⟨bs.toArray⟩).size, (Lib.bytesCells w e ⟨bs.toArray⟩).size + 1) _ (grownCap_ge _ _ _ _) ?_ ?_)
  · simp [execOp, ho, hx, hr]
  · intro j u hu
    have hj := (List.getElem?_eq_some_iff.1 hu).1
    unfold Lib.bytesCells
    rw [Array.getElem?_append_left (by simpa using hj)]
    simpa using hu
  · refine hE.step0 (Bs := [pt w.heap.size _]) ⟨rfl, rfl, rfl⟩ (by rw [Lib.bytesWorld_size]; omega) (fun b hb => Lib.bytesWorld_at_old w e _ b hb) ⟨fun b => b = w.heap.size, on_single ?_, fun b hb => by omega⟩
    unfold pt
    exact ⟨Lib.bytesWorld_at_new w e _, fun _ => Iff.rfl⟩
end
end Go.SL
namespace Go.Proofs.YtpchnmcofkffiaaDoor
open Go.RowKit Go.SL

set_option maxRecDepth 100000 in
theorem known_is {l : List HProp} {w : World} {s t : List UInt8} (hs : s.length ≤ 1099511627776) (h : shaV s = t) (ht : Knows l KTab) (hf : Knows l FTab) (hE : Ent l w) :
    Calls Tryd.prog 14 #[.string ⟨s.toArray⟩, .string ⟨t.toArray⟩] w (Ret fun v w' => v = .bool true ∧ Ent l w') := by
  have Hsl : RowKit.Hid ((bvals (shaV s)).length = 32) := SL.hid (by rw [bvals_length]; rfl)
  have Hone := SL.hid (bvals_one (shaV s))
  have H := SL.hid h
  have Ht := SL.hid ht
  have Hf := SL.hid hf
  clear h ht hf
  go_enter Tryd.func14, Tryd.ntmps14
  go_wp2_with (first
    | go_skip
    | ((with_reducible (show Go.wpList _ _ _ (Go.Oper.mk _ (.convert 9 22 _) _ _ _ _ :: _) _ _)); refine wpl_strBytes hE rfl rfl rfl Tryd.underlying9 Tryd.underlying22 Tryd.underlying5 ?_; clear hE; intro b c C fz w1 hc hC hE)
    | (go_at_call 12; have HS := Sum_any hs hc Ht.out.cons Hf.out.cons (fun wx hx => reads_pt hx 0 rfl (off := 0) (fun j u hu => by rw [Nat.zero_add]; exact hC j u hu)) hE; refine HS.mono ?_; clear HS hE; rintro e w2 ⟨v, rfl, rfl, hE⟩)
    | ((with_reducible (show Go.wpList _ _ _ (Go.Oper.mk _ (.alloc 32) _ _ _ _ :: _) _ _)); refine wpl_allocN hE rfl rfl (n := 32) (by kernel_rfl) ?_; clear hE; intro bo cs w1 hq hE)
    | ((with_reducible (show Go.wpList _ _ _ (Go.Oper.mk _ (.store _ _ _) _ _ _ _ :: _) _ _)); refine wpl_storeN hE 0 rfl rfl rfl rfl rfl Tryd.sizeOf32 Hsl.out Hone.out hq ?_; clear hE hq; intro w3 hE; simp only [List.set_cons_zero] at hE)
    | ((with_reducible (show Go.wpList _ _ _ (Go.Oper.mk _ (.convert 22 9 _) _ _ _ _ :: _) _ _)); refine wpl_bytesStr (bs := shaV s) rfl rfl rfl Tryd.underlying22 Tryd.underlying5 Tryd.underlying9 (reads_pt hE 0 rfl (off := 0) (fun j u hu => by rw [Nat.zero_add, List.getElem?_toArray]; exact hu)) rfl ?_; rw [H.out]))
  go_ret
  exact ⟨_, rfl, by simp, hE.tail.tail⟩
end Go.Proofs.YtpchnmcofkffiaaDoor
