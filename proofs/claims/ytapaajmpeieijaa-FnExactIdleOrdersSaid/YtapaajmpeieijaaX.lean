/- Small facts on Bools that the printed walks lean on. -/
namespace Go.Proofs.Ytapaajmpeieijaa.X
theorem bx1 : ∀ a b : Bool, (a == !b) = (a != b) := by decide
theorem bx2 : ∀ a b : Bool, (a == b) = (!a != b) := by decide
theorem bx3 : ∀ a b : Bool, (!a == b) = (a != b) := by decide
theorem bx4 : ∀ a b : Bool, (!a != b) = (a == b) := by decide
end Go.Proofs.Ytapaajmpeieijaa.X
