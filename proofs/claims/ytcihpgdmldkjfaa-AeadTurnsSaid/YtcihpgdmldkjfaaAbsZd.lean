/- The abstract machine: functions without a body that the model stands in for. -/
import Derived.Test.YtcihpgdmldkjfaaAbsZc
import Derived.Laws.Externs
import Derived.KernelRfl
namespace Go.Abs
open Go

theorem av0 {fr : List S} : argVs fr [] = some [] := rfl
theorem av1 {fr : List S} {x : Operand} {r : List Operand} {y : V} {ys : List V} (hx : ev fr x = .v y) (h : argVs fr r = some ys) : argVs fr (x :: r) = some (y :: ys) := by
  simp only [argVs, hx, h]
theorem q_callx {P : Program} {fr : List S} {H : Heap} {K : S → Heap → Prop} {od : Option Nat} {oty : TypeId} {ops_ : String} {oaf : Array Edge} {ogu : Option (Nat × Bool)} {f : Nat} {args : Array Operand} {ats : Array TypeId} {v : S} {avs : List V}
    (hx : Ext P f avs v) (h : K v H) (ha : argVs fr args.toList = some avs := by repeat' (first | exact av0 | refine av1 (by first | exact et rfl | exact rfl) ?_)) : ostep P ⟨od, .call ⟨.value (.func f), args, ats⟩, oty, ops_, oaf, ogu⟩ fr H K := by
  simp only [ostep, callO]
  rw [show ev fr (.func f) = sc (.fn f []) from rfl, ha]
  exact .inr ⟨rfl, v, hx, h⟩

/-- A sum with a carry, a difference with a borrow. -/
def addc (x y c : UInt64) : UInt64 := if 18446744073709551616 ≤ x.toNat + y.toNat + c.toNat then 1 else 0
def subb (x y c : UInt64) : UInt64 := if x.toNat < y.toNat + c.toNat then 1 else 0
theorem addc_le (x y c : UInt64) : (addc x y c).toNat ≤ 1 := by unfold addc; split <;> decide
theorem subb_le (x y c : UInt64) : (subb x y c).toNat ≤ 1 := by unfold subb; split <;> decide

def subEntry : Array Value → Sem Value := fun args => do
  let (x, y, b) ← Extern.MathBitsCarry.three "Sub64" args
  pure (Extern.MathBitsCarry.pair ((x + Extern.MathBitsCarry.m64 - y - b) % Extern.MathBitsCarry.m64) (if x < y + b then 1 else 0))
theorem run_sub {P : Program} (x y b : Nat) (hb : b ≤ 1) (w : World) :
    (subEntry #[.int .u64 x, .int .u64 y, .int .u64 b]).run P w =
      .ok (.tuple #[.int .u64 (((x + 18446744073709551616 - y - b) % 18446744073709551616 : Nat) : Int), .int .u64 ((if x < y + b then 1 else 0 : Nat) : Int)]) w := by
  have : b = 0 ∨ b = 1 := by omega
  rcases this with rfl | rfl <;> rfl

theorem ext3 {R : Rl} {x y c : UInt64} {rargs : List Value} (h : VsRel R [.c (c64 x), .c (c64 y), .c (c64 c)] rargs) : rargs = [.int .u64 x.toNat, .int .u64 y.toNat, .int .u64 c.toNat] := by
  simp only [VsRel, VRel, CRel] at h
  obtain ⟨v, vs, rfl, rfl, v', vs', rfl, rfl, v'', vs'', rfl, rfl, rfl⟩ := h
  rfl
theorem add_ext {P : Program} {k : Nat} {fn : Func} (hf : P.funcs[k]? = some fn) (hname : (fn.name == "runtime.NumGoroutine") = false) (hb : fn.body.isNone = true) (hn : Extern.findNext fn = none) (he : Extern.find fn = some add64Entry)
    (x y c : UInt64) (hc : c.toNat ≤ 1) : Ext P k [.c (c64 x), .c (c64 y), .c (c64 c)] (.t [.c (c64 (x + y + c)), .c (c64 (addc x y c))]) := by
  intro R w rargs h
  rw [ext3 h]
  refine ⟨.tuple #[.int .u64 (x + y + c).toNat, .int .u64 (addc x y c).toNat], ?_, #[.int .u64 (x + y + c).toNat, .int .u64 (addc x y c).toNat], rfl, ?_⟩
  · rw [run_callFunc_extern hf hname hb hn he]
    have hx := x.toNat_lt
    have hy := y.toNat_lt
    rw [show ([.int .u64 x.toNat, .int .u64 y.toNat, .int .u64 c.toNat] : List Value).toArray = #[.int .u64 (x.toNat : Int), .int .u64 (y.toNat : Int), .int .u64 (c.toNat : Int)] from rfl, run_add64 _ _ _ (by omega) (by omega) (by omega) (by omega)]
    simp only [Result.andThen]
    have e1 : (x + y + c).toNat = (x.toNat + y.toNat + c.toNat) % 18446744073709551616 := by simp [UInt64.toNat_add]
    have e2 : (addc x y c).toNat = (x.toNat + y.toNat + c.toNat) / 18446744073709551616 := by
      unfold addc
      split
      · show 1 = _; omega
      · show 0 = _; omega
    rw [e1, e2]
    congr 5 <;> omega
  · simp only [VsRel, VRel, CRel]
    exact ⟨_, _, rfl, rfl, _, _, rfl, rfl, rfl⟩
theorem sub_ext {P : Program} {k : Nat} {fn : Func} (hf : P.funcs[k]? = some fn) (hname : (fn.name == "runtime.NumGoroutine") = false) (hb : fn.body.isNone = true) (hn : Extern.findNext fn = none) (he : Extern.find fn = some subEntry)
    (x y c : UInt64) (hc : c.toNat ≤ 1) : Ext P k [.c (c64 x), .c (c64 y), .c (c64 c)] (.t [.c (c64 (x - y - c)), .c (c64 (subb x y c))]) := by
  intro R w rargs h
  rw [ext3 h]
  refine ⟨.tuple #[.int .u64 (x - y - c).toNat, .int .u64 (subb x y c).toNat], ?_, #[.int .u64 (x - y - c).toNat, .int .u64 (subb x y c).toNat], rfl, ?_⟩
  · rw [run_callFunc_extern hf hname hb hn he]
    have hx := x.toNat_lt
    have hy := y.toNat_lt
    rw [show ([.int .u64 x.toNat, .int .u64 y.toNat, .int .u64 c.toNat] : List Value).toArray = #[.int .u64 (x.toNat : Int), .int .u64 (y.toNat : Int), .int .u64 (c.toNat : Int)] from rfl, run_sub _ _ _ hc]
    simp only [Result.andThen]
    have e1 : (x - y - c).toNat = (x.toNat + 18446744073709551616 - y.toNat - c.toNat) % 18446744073709551616 := by
      rw [UInt64.toNat_sub, UInt64.toNat_sub]
      omega
    have e2 : (subb x y c).toNat = if x.toNat < y.toNat + c.toNat then 1 else 0 := by
      unfold subb
      split <;> rfl
    rw [e1, e2]
  · simp only [VsRel, VRel, CRel]
    exact ⟨_, _, rfl, rfl, _, _, rfl, rfl, rfl⟩
/-- What the model stands in for, by the function's number. -/
class AddX (P : Program) (k : Nat) : Prop where h : ∀ x y c : UInt64, c.toNat ≤ 1 → Ext P k [.c (c64 x), .c (c64 y), .c (c64 c)] (.t [.c (c64 (x + y + c)), .c (c64 (addc x y c))])
class SubX (P : Program) (k : Nat) : Prop where h : ∀ x y c : UInt64, c.toNat ≤ 1 → Ext P k [.c (c64 x), .c (c64 y), .c (c64 c)] (.t [.c (c64 (x - y - c)), .c (c64 (subb x y c))])
section
variable {P : Program} {fr : List S} {H : Heap} {K : S → Heap → Prop} {od : Option Nat} {oty : TypeId} {ops_ : String} {oaf : Array Edge} {ogu : Option (Nat × Bool)} {f : Nat} {a b d : Operand} {ats : Array TypeId} {x y c : UInt64}
theorem q_addx [ax : AddX P f] (h : K (.t [.c (c64 (x + y + c)), .c (c64 (addc x y c))]) H) (hx : ev fr a = sc (c64 x) := by first | exact et rfl | exact rfl) (hy : ev fr b = sc (c64 y) := by first | exact et rfl | exact rfl) (hz : ev fr d = sc (c64 c) := by first | exact et rfl | exact rfl)
    (hc : c.toNat ≤ 1 := by first | exact addc_le .. | exact subb_le .. | assumption | decide) : ostep P ⟨od, .call ⟨.value (.func f), #[a, b, d], ats⟩, oty, ops_, oaf, ogu⟩ fr H K := q_callx (ax.h x y c hc) h (av1 hx (av1 hy (av1 hz av0)))
theorem q_subx [ax : SubX P f] (h : K (.t [.c (c64 (x - y - c)), .c (c64 (subb x y c))]) H) (hx : ev fr a = sc (c64 x) := by first | exact et rfl | exact rfl) (hy : ev fr b = sc (c64 y) := by first | exact et rfl | exact rfl) (hz : ev fr d = sc (c64 c) := by first | exact et rfl | exact rfl)
    (hc : c.toNat ≤ 1 := by first | exact addc_le .. | exact subb_le .. | assumption | decide) : ostep P ⟨od, .call ⟨.value (.func f), #[a, b, d], ats⟩, oty, ops_, oaf, ogu⟩ fr H K := q_callx (ax.h x y c hc) h (av1 hx (av1 hy (av1 hz av0)))
end
end Go.Abs
