/-
  The stage's theorem of the chunks, at any two chunks and any bytes.
-/
import Derived.Test.YtohdljcpaogokaaCkl
import Derived.Test.YtohdljcpaogokaaCkm
import Derived.Test.YtohdljcpaogokaaCkn
import Derived.Test.YtohdljcpaogokaaCko
namespace Go.Proofs.Ytohdljcpaogokaa
open Go.RowKit Go.SL

theorem ChunkBack_any {ua ub : UInt8} {da db bs : List UInt8} {ka kb : List Kid} {aa ab ai : Option Addr} {ca cb ci : Nat} (ga : ∀ k ∈ ka, k.good) (gb : ∀ k ∈ kb, k.good) {l : List HProp} {w : World} (hE : Ent l w)
    (ra : Knows l (reads (.slice aa ka.length ca) ka.length (kidCells ka))) (rb : Knows l (reads (.slice ab kb.length cb) kb.length (kidCells kb))) (rs : Knows l (reads (.slice ai bs.length ci) bs.length (bvals bs))) :
    Calls Try.prog 6 #[.agg #[.int .u8 ua.toNat, .string ⟨da.toArray⟩, .slice aa ka.length ca], .agg #[.int .u8 ub.toNat, .string ⟨db.toArray⟩, .slice ab kb.length cb], .slice ai bs.length ci] w (Ret fun v w' => v = .bool true ∧ Ent l w') := by
  cases GA : greatC ⟨ua, da, ka⟩ with
  | true => exact back_g1 ga gb hE ra rb rs GA
  | false =>
    cases GB : greatC ⟨ub, db, kb⟩ with
    | true => exact back_g2 ga gb hE ra rb rs GA GB
    | false =>
      cases h6 : decide ((600 : Int) < (bs.length : Int)) with
      | true => exact back_g3 ga gb hE ra rb rs GA GB h6
      | false =>
        cases MA : mayC ⟨ua, da, ka⟩ with
        | false =>
          cases MB : mayC ⟨ub, db, kb⟩ with
          | false =>
            cases TS : takeC bs with
            | none => exact back_000 ga gb hE ra rb rs GA GB h6 MA MB TS
            | some cs => exact back_001 ga gb hE ra rb rs GA GB h6 MA MB TS
          | true =>
            cases TS : takeC bs with
            | none => exact back_010 ga gb hE ra rb rs GA GB h6 MA MB TS
            | some cs => exact back_011 ga gb hE ra rb rs GA GB h6 MA MB TS
        | true =>
          cases MB : mayC ⟨ub, db, kb⟩ with
          | false =>
            cases TS : takeC bs with
            | none => exact back_100 ga gb hE ra rb rs GA GB h6 MA MB TS
            | some cs => exact back_101 ga gb hE ra rb rs GA GB h6 MA MB TS
          | true =>
            cases TS : takeC bs with
            | none => exact back_110 ga gb hE ra rb rs GA GB h6 MA MB TS
            | some cs => exact back_111 ga gb hE ra rb rs GA GB h6 MA MB TS
end Go.Proofs.Ytohdljcpaogokaa
