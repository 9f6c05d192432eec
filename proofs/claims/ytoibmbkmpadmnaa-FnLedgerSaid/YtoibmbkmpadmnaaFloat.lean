/- Floats in a walk: the six comparisons and the change of sign as words of their own. -/
import Derived.Test.YtoibmbkmpadmnaaWFoot
import Derived.Laws.Cover2
import Derived.Laws.FloatArith
import Derived.WalkKit
import Derived.Laws.StructEq
namespace Go.Proofs.Ytoibmbkmpadmnaa
open Go.RowKit Go.Proofs.YtoibmbkmpadmnaaW.PrintWords

def fEq (k : FloatKind) (x y : Nat) : Bool := k.format.order x y == some .eq
def fNe (k : FloatKind) (x y : Nat) : Bool := k.format.order x y != some .eq
def fLt (k : FloatKind) (x y : Nat) : Bool := k.format.order x y == some .lt
def fLe (k : FloatKind) (x y : Nat) : Bool := k.format.order x y == some .lt || k.format.order x y == some .eq
def fGt (k : FloatKind) (x y : Nat) : Bool := k.format.order x y == some .gt
def fGe (k : FloatKind) (x y : Nat) : Bool := k.format.order x y == some .gt || k.format.order x y == some .eq

section
variable (t : TypeId) (k : FloatKind) (a b : Nat)
@[go_sem high] theorem f_eql : binOp .eql t (.float k a) (.float k b) = pure (.bool (fEq k a b)) := binOp_float_cmp_eql t k a b
@[go_sem high] theorem f_neq : binOp .neq t (.float k a) (.float k b) = pure (.bool (fNe k a b)) := binOp_float_cmp_neq t k a b
@[go_sem high] theorem f_lss : binOp .lss t (.float k a) (.float k b) = pure (.bool (fLt k a b)) := binOp_float_cmp_lss t k a b
@[go_sem high] theorem f_leq : binOp .leq t (.float k a) (.float k b) = pure (.bool (fLe k a b)) := binOp_float_cmp_leq t k a b
@[go_sem high] theorem f_gtr : binOp .gtr t (.float k a) (.float k b) = pure (.bool (fGt k a b)) := binOp_float_cmp_gtr t k a b
@[go_sem high] theorem f_geq : binOp .geq t (.float k a) (.float k b) = pure (.bool (fGe k a b)) := binOp_float_cmp_geq t k a b
@[go_sem] theorem run_store_float (P : Program) (w : World) (ad : Addr) (m : Mode) : (store ad (.float k a) m).run P w = stored P w ad (.float k a) m := run_store P w ad _ m rfl
@[go_sem] theorem run_store_func_ (P : Program) (w : World) (ad : Addr) (m : Mode) (fn : Fn) (first captured : Array Value) : (store ad (.func fn first captured) m).run P w = stored P w ad (.func fn first captured) m := run_store P w ad _ m rfl
@[go_sem] theorem run_store_nilFunc_ (P : Program) (w : World) (ad : Addr) (m : Mode) : (store ad .nilFunc m).run P w = stored P w ad .nilFunc m := run_store P w ad _ m rfl
@[go_sem] theorem unary_neg_float : Op.unary .neg (.float k a) = pure (.float k (Op.negFloat k a)) := rfl
end
@[go_sem] theorem run_equalIn_flt {P : Program} (w : World) (d : Nat) (t : TypeId) (k k' : FloatKind) (a b : Nat) (h : P.underlying t = some (.float k')) : (Op.equalIn (d + 1) t (.float k a) (.float k b)).run P w = .ok (fEq k a b) w := by
  simp [Op.equalIn, run_underlying h, fEq, Op.floatEq]
namespace Opens
end Opens
end Go.Proofs.Ytoibmbkmpadmnaa

namespace Go.Proofs.YtoibmbkmpadmnaaW.PrintLast
section
variable {P : Program} {ops : Array Oper} {Q : Exit → Act → World → Prop} {md : Region.Mode} {S : World → Prop} {ds : List Nat}
end
end Go.Proofs.YtoibmbkmpadmnaaW.PrintLast
