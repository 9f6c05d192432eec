/- Floats in a walk: the six comparisons and the change of sign as words of their own. -/
import Derived.Test.YthjchjnibbapcaaWFoot
import Derived.Laws.Cover2
import Derived.Laws.FloatArith
import Derived.WalkKit
import Derived.Laws.StructEq
namespace Go.Proofs.Ythjchjnibbapcaa
open Go.RowKit Go.Proofs.YthjchjnibbapcaaW.PrintWords

/-- x == y -/
def fEq (k : FloatKind) (x y : Nat) : Bool := k.format.order x y == some .eq
/-- x != y -/
def fNe (k : FloatKind) (x y : Nat) : Bool := k.format.order x y != some .eq
/-- x < y -/
def fLt (k : FloatKind) (x y : Nat) : Bool := k.format.order x y == some .lt
/-- x <= y -/
def fLe (k : FloatKind) (x y : Nat) : Bool := k.format.order x y == some .lt || k.format.order x y == some .eq
/-- x > y -/
def fGt (k : FloatKind) (x y : Nat) : Bool := k.format.order x y == some .gt
/-- x >= y -/
def fGe (k : FloatKind) (x y : Nat) : Bool := k.format.order x y == some .gt || k.format.order x y == some .eq

section
variable (t : TypeId) (k : FloatKind) (a b : Nat)
@[go_sem high] theorem f_eql : binOp .eql t (.float k a) (.float k b) = pure (.bool (fEq k a b)) := binOp_float_cmp_eql t k a b
@[go_sem high] theorem f_neq : binOp .neq t (.float k a) (.float k b) = pure (.bool (fNe k a b)) := binOp_float_cmp_neq t k a b
@[go_sem high] theorem f_lss : binOp .lss t (.float k a) (.float k b) = pure (.bool (fLt k a b)) := binOp_float_cmp_lss t k a b
@[go_sem high] theorem f_leq : binOp .leq t (.float k a) (.float k b) = pure (.bool (fLe k a b)) := binOp_float_cmp_leq t k a b
@[go_sem high] theorem f_gtr : binOp .gtr t (.float k a) (.float k b) = pure (.bool (fGt k a b)) := binOp_float_cmp_gtr t k a b
@[go_sem high] theorem f_geq : binOp .geq t (.float k a) (.float k b) = pure (.bool (fGe k a b)) := binOp_float_cmp_geq t k a b
@[go_sem] theorem run_store_float (P : Program) (w : World) (ad : Addr) (m : Mode) : (store ad (.float k a) m).run P w = stored P w ad (.float k a) m := run_store P w ad _ m rfl
@[go_sem] theorem run_store_func_ (P : Program) (w : World) (ad : Addr) (m : Mode) (fn : Fn) (first captured : Array Value) : (store ad (.func fn first captured) m).run P w = stored P w ad (.func fn first captured) m := run_store P w ad _ m rfl
@[go_sem] theorem run_store_nilFunc_ (P : Program) (w : World) (ad : Addr) (m : Mode) : (store ad .nilFunc m).run P w = stored P w ad .nilFunc m := run_store P w ad _ m rfl
@[go_sem] theorem unary_neg_float : Op.unary .neg (.float k a) = pure (.float k (Op.negFloat k a)) := rfl
end
@[go_sem] theorem run_equalIn_flt {P : Program} (w : World) (d : Nat) (t : TypeId) (k k' : FloatKind) (a b : Nat) (h : P.underlying t = some (.float k')) : (Op.equalIn (d + 1) t (.float k a) (.float k b)).run P w = .ok (fEq k a b) w := by
  simp [Op.equalIn, run_underlying h, fEq, Op.floatEq]
namespace Opens
/-- Bits of a float, as a kind of one cell. -/
def flt (k : FloatKind) : Kd Nat := Kd.scalar (Value.float k) (fun _ => rfl)
theorem at_flt {w : World} {A : Option Addr} {n : Nat} {k : FloatKind} {xs : List Nat} (h : (flt k).C w A n xs) (i : Int) (h0 : 0 ≤ i) (h1 : i < n) : ∃ ad, A = some ad ∧ w.cell? (ad.add i.toNat) = some (.float k (rdOf 0 xs i)) := by
  obtain ⟨ad, c, e, _, hK, hc0⟩ := Kd.C_get h 0 i h0 h1
  have hc := hc0 0
  rw [show c = [Value.float k (xs.getD i.toNat 0)] from hK, show (flt k).sz = 1 from rfl, Nat.mul_one, Nat.add_zero] at hc
  exact ⟨ad, e, hc _ rfl⟩

theorem heap_flt (k : FloatKind) : Kd.Heap (flt k) := ⟨fun _ h => h⟩
end Opens
end Go.Proofs.Ythjchjnibbapcaa

namespace Go.Proofs.YthjchjnibbapcaaW.PrintLast
section
variable {P : Program} {ops : Array Oper} {Q : Exit → Act → World → Prop} {md : Region.Mode} {S : World → Prop} {ds : List Nat}
/-- The same as goes_, where the function is a value that was loaded: a closure over captured variables. -/
theorem goesV_ {oi : Oper} {N : Option Tmp} {a : Act} {w : World} {K : Act → World → Prop} {f : FuncId} {fn : Func} {as : Array Operand} {ts : Array TypeId} {t : Tmp} {caps args0 : Array Value} (hf : P.funcs[f]? = some fn) (hname : (fn.name == "runtime.NumGoroutine") = false) (hb : fn.body.isSome = true) (args : Array Value)
    (hw : Region.wanted oi (yielded ops a.tmps) = true) (hN : oi.dst = N) (hop : oi.op = .call { callee := .value (.tmp t), args := as, argTypes := ts }) (hv : a.eval (.tmp t) = .func (.func f) #[] caps) (hargs : as.map a.eval = args0) (hcat : #[] ++ args0 ++ caps = args)
    (h : Calls P f args w fun e w' => ∃ v, e = .returned v ∧ K (a.put N v) w') : if Region.wanted oi (yielded ops a.tmps) = true then Oper.wp P oi a w K Q else K (a.put N undef) w := by
  refine call_ f args hw hN ?_ h
  have he := enters_ hf hname hb args w
  unfold execOp
  subst hcat
  subst hargs
  simp [hop, resolve, hv, Deferred.ofValue, invoke]
  simpa using he
end
end Go.Proofs.YthjchjnibbapcaaW.PrintLast
