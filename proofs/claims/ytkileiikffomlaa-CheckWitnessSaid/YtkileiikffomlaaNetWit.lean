/- Three nets: what they are told. -/
import Derived.Test.YtkileiikffomlaaNetPlain2
namespace Go.Proofs.Ytkileiikffomlaa
set_option linter.unusedVariables false

def lenetI (cl : Int) : List LayV := [⟨2, 4, 5, 1, 0, 0, false⟩, ⟨5, 0, 0, 0, 0, 0, false⟩, ⟨3, 0, 2, 2, 0, 0, false⟩, ⟨2, 8, 3, 1, 0, 0, false⟩, ⟨5, 0, 0, 0, 0, 0, false⟩, ⟨3, 0, 2, 2, 0, 0, false⟩, ⟨6, 0, 0, 0, 0, 0, false⟩, ⟨1, 20, 0, 0, 0, 0, false⟩, ⟨5, 0, 0, 0, 0, 0, false⟩, ⟨1, cl, 0, 0, 0, 0, false⟩]
def vggI (cl : Int) : List LayV := [⟨2, 8, 3, 1, 1, 0, false⟩, ⟨5, 0, 0, 0, 0, 0, false⟩, ⟨2, 8, 3, 1, 1, 0, false⟩, ⟨7, 0, 0, 0, 0, 1, false⟩, ⟨3, 0, 2, 2, 0, 0, false⟩, ⟨4, 0, 2, 2, 0, 0, false⟩, ⟨6, 0, 0, 0, 0, 0, false⟩, ⟨1, cl, 0, 0, 0, 0, false⟩]
def longI (wide cl : Int) : List LayV := [⟨6, 0, 0, 0, 0, 0, false⟩, ⟨1, wide, 0, 0, 0, 0, false⟩, ⟨1, cl, 0, 0, 0, 0, false⟩]
set_option maxRecDepth 100000 in
theorem lenet_fin : ∀ (c : Fin 9) (b : Fin 2), (walkI false 1 16 16 (lenetI (2 + (c.val : Int))) (2 + (c.val : Int)) (1 + (b.val : Int))).2.2 = 0 := by decide +kernel
set_option maxRecDepth 100000 in
theorem vgg_fin : ∀ (c : Fin 9) (b : Fin 2), (walkI false 3 8 8 (vggI (2 + (c.val : Int))) (2 + (c.val : Int)) (1 + (b.val : Int))).2.2 = 0 := by decide +kernel
set_option maxRecDepth 100000 in
theorem long_fin : ∀ (c : Fin 9) (b : Fin 2) (w : Fin 60), (walkI false 1 1 2 (longI (960 + (w.val : Int)) (2 + (c.val : Int))) (2 + (c.val : Int)) (1 + (b.val : Int))).2 = (2, 3) := by decide +kernel
theorem lenet_ok {cl bt : Int} (h1 : 2 ≤ cl) (h2 : cl ≤ 10) (h3 : 1 ≤ bt) (h4 : bt ≤ 2) : (walkI false 1 16 16 (lenetI cl) cl bt).2.2 = 0 := by
  have := lenet_fin ⟨(cl - 2).toNat, by omega⟩ ⟨(bt - 1).toNat, by omega⟩
  simp only at this
  rwa [show (2 : Int) + (((cl - 2).toNat : Nat) : Int) = cl by omega, show (1 : Int) + (((bt - 1).toNat : Nat) : Int) = bt by omega] at this
theorem vgg_ok {cl bt : Int} (h1 : 2 ≤ cl) (h2 : cl ≤ 10) (h3 : 1 ≤ bt) (h4 : bt ≤ 2) : (walkI false 3 8 8 (vggI cl) cl bt).2.2 = 0 := by
  have := vgg_fin ⟨(cl - 2).toNat, by omega⟩ ⟨(bt - 1).toNat, by omega⟩
  simp only at this
  rwa [show (2 : Int) + (((cl - 2).toNat : Nat) : Int) = cl by omega, show (1 : Int) + (((bt - 1).toNat : Nat) : Int) = bt by omega] at this
theorem long_no {cl bt wd : Int} (h1 : 2 ≤ cl) (h2 : cl ≤ 10) (h3 : 1 ≤ bt) (h4 : bt ≤ 2) (h5 : 960 ≤ wd) (h6 : wd ≤ 1019) : (walkI false 1 1 2 (longI wd cl) cl bt).2 = (2, 3) := by
  have := long_fin ⟨(cl - 2).toNat, by omega⟩ ⟨(bt - 1).toNat, by omega⟩ ⟨(wd - 960).toNat, by omega⟩
  simp only at this
  rwa [show (2 : Int) + (((cl - 2).toNat : Nat) : Int) = cl by omega, show (1 : Int) + (((bt - 1).toNat : Nat) : Int) = bt by omega, show (960 : Int) + (((wd - 960).toNat : Nat) : Int) = wd by omega] at this
end Go.Proofs.Ytkileiikffomlaa
