/-
  A row of texts among the arguments of a law; the two laws of paths in the form in which the frames want them.
-/
import Derived.Test.YtohdljcpaogokaaDoorPaa
import Derived.Test.YtohdljcpaogokaaDoorFr
import Derived.Lib.SmallJoins
namespace Go.Proofs.YtohdljcpaogokaaDoor
open Go.RowKit Go.SL Go.ChangeShapes Go.WideShapes Go.Deep
section
variable {H : Type} {enc : TypeId × Value → H} {w : World} {held : Bool}

theorem open_texts {r : Reach} {b0 : Nat} {v : Value} {d : DataW H} {ps : List MemPlace} (hval : Value.okWide Tryd.prog w r b0 22 v) (h : DataW.Trod enc Tryd.prog w 0 (fun _ => true) held 22 v d ps) :
    ∃ (ao : Option Addr) (c : Nat) (xs : List (List UInt8)), v = .slice ao xs.length c ∧ xs.length ≤ c ∧ c ≤ maxLen ∧ (∀ x ∈ xs, (fun _ => True) x) ∧ reads v xs.length (xs.map strv) w := by
  obtain ⟨ao, c, xs, h1, h2, h3, h4, h5⟩ := open_row Tryd.underlying22 (fun x : List UInt8 => [strv x]) (fun _ => True) (k := 1) (fun _ => rfl) (by omega) (by kernel_rfl) hval h (fun m cs y hl hy => by
    obtain ⟨s, e0, _, _⟩ := DataW.trod_string Tryd.underlying9 hy
    subst e0
    exact ⟨s.data.toList, trivial, rfl⟩)
  refine ⟨ao, c, xs, h1, h2, h3, h4, ?_⟩
  have e : ∀ l : List (List UInt8), l.flatMap (fun x => [strv x]) = l.map strv := by
    intro l
    induction l with
    | nil => rfl
    | cons x l ih => simp [List.flatMap_cons, ih]
  rwa [e] at h5
end

theorem PathTells_in {s p : ByteArray} {xs : List (List UInt8)} {ai : Option Addr} {ci : Nat} (hc : xs.length ≤ ci) {W : World} (hk : Knows [rest W fun _ => False] (reads (.slice ai xs.length ci) xs.length (xs.map strv))) :
    Calls Tryd.prog 3 #[.string s, .string p, .slice ai xs.length ci] W (Ret fun v w' => v = .bool true ∧ Ent [rest W fun _ => False] w') :=
  PathTells_any (s := s.data.toList) (p := p.data.toList) hc (Ent.start W) hk
theorem PathBack_in {p : ByteArray} {xs : List (List UInt8)} {ai : Option Addr} {ci : Nat} (hc : xs.length ≤ ci) {W : World} (hk : Knows [rest W fun _ => False] (reads (.slice ai xs.length ci) xs.length (xs.map strv))) :
    Calls Tryd.prog 4 #[.string p, .slice ai xs.length ci] W (Ret fun v w' => v = .bool true ∧ Ent [rest W fun _ => False] w') :=
  PathBack_any (p := p.data.toList) hc (Ent.start W) hk
end Go.Proofs.YtohdljcpaogokaaDoor
