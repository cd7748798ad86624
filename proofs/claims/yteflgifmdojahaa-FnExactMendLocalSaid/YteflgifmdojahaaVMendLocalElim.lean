/- Gauss's and Jordan's steps over rows of any kind; no program stands here. -/
import Derived.Test.YteflgifmdojahaaVMendLocalKit3
namespace Go.Proofs.Yteflgifmdojahaa.Kit
open Go.RowKit Go.Proofs.YteflgifmdojahaaW.PrintWords Go.Proofs.YteflgifmdojahaaW.PrintLast Go.Proofs.Yteflgifmdojahaa.Gf
set_option linter.unusedVariables false
set_option linter.unusedSimpArgs false
/-- Rows: what stands at a place, a row times a byte, the sum of two. -/
structure RowK (ρ : Type) where
  nul : ρ
  get : ρ→Nat→Int
  sc : Int→ρ→ρ
  ad : ρ→ρ→ρ
namespace RowK
section
variable {ρ : Type} (O : RowK ρ)
end
section
variable {ρ : Type} {O : RowK ρ} {R : List ρ} {k a i : Nat}
end
/-- Rows that are closed: P holds of each, products and sums keep it. -/
structure Shut {ρ : Type} (O : RowK ρ) (P : ρ→Prop) : Prop where
  byte : ∀ r k,P r→Byte (O.get r k)
  sc : ∀ a r,Byte a→P r→P (O.sc a r)
  ad : ∀ r s,P r→P s→P (O.ad r s)
section
variable {ρ : Type} {O : RowK ρ} {P : ρ→Prop}
end
section
variable {ρ σ : Type} {O : RowK ρ} {O' : RowK σ} {φ : ρ→σ} {P : ρ→Prop} {n : Nat}
end
end RowK
end Go.Proofs.Yteflgifmdojahaa.Kit
-- SQUEEZED
