/- The abstract machine: the operations that look at no memory are described rightly. -/
import Derived.Test.YtcihpgdmldkjfaaAbsE
namespace Go.Abs
open Go

section
variable {P : Program} {R : Rl} {a : Act} {fr : List S}

theorem LRel.extract {cs : List Cell} {vs : Array Value} (h : LRel R cs vs.toList) (off n : Nat) : LRel R ((cs.drop off).take n) (vs.extract off (off + n)).toList := by
  refine LRel.of_get ?_ fun i c hi => ?_
  · have := h.length
    simp at this
    simp [this]
  · rw [List.getElem?_take] at hi
    split at hi
    · rename_i hlt
      rw [List.getElem?_drop] at hi
      obtain ⟨v, h1, h2, h3⟩ := h.get hi
      refine ⟨v, ?_, h2, h3⟩
      rw [Array.toList_extract, List.extract_eq_take_drop, List.getElem?_take, if_pos (by omega), List.getElem?_drop]
      exact h1
    · simp at hi

theorem partA_sound {t : TypeId} {ti : TI} (ht : tiOf P t = some ti) {xs : List Cell} {off : Nat} {K : S → Prop} (h : partA ti xs off K) {vs : Array Value} (hv : LRel R xs vs.toList) (w : World) :
    ∃ s v, K s ∧ (part t vs off).run P w = .ok v w ∧ SRel R s v := by
  obtain ⟨i, d, hs⟩ := ti_spec ht
  unfold partA at h
  have hag := hs.run_isAgg w
  split at h
  · rename_i hk
    rw [hk] at hag
    refine ⟨_, .agg (vs.extract off (off + ti.size)), h, ?_, ?_⟩
    · rw [part, Sem.run_bind, hag]
      simp [hs.run_sizeOf w]
    · exact ⟨_, rfl, hv.extract off ti.size⟩
  · rename_i hk
    have hk' : ti.kind.agg = false := by simpa using hk
    rw [hk'] at hag
    have key : ∀ c, xs[off]? = some c → ∃ v, (part t vs off).run P w = .ok v w ∧ CRel R c v := fun c hc => by
      obtain ⟨v, h1, h2, h3⟩ := hv.get hc
      refine ⟨v, ?_, h3⟩
      have h4 : vs[off]? = some v := by simpa using h1
      rw [part, Sem.run_bind, hag]
      simp [h4]
    split at h
    · obtain ⟨h1, h2⟩ := h
      obtain ⟨v, k1, k2⟩ := key _ h1
      exact ⟨_, v, h2, k1, k2⟩
    · split at h
      · rename_i c hc
        obtain ⟨v, k1, k2⟩ := key _ hc
        exact ⟨_, v, h, k1, k2⟩
      · exact h.elim

theorem caps_sound (h : FRel R fr a) : ∀ (l : List Operand) (cs : List Cell), caps fr l = some cs → LRel R cs (l.map a.eval)
  | [], cs, hc => by simp [caps] at hc; subst hc; simp [LRel]
  | x :: r, cs, hc => by
    simp only [caps] at hc
    have hx := ev_sound h x
    split at hc
    · simp at hc
    · rename_i c cs' hne he1 he2
      obtain rfl := Option.some.inj hc
      rw [he1] at hx
      simp only [List.map_cons, LRel]
      refine ⟨_, _, rfl, ?_, hx, caps_sound h r cs' he2⟩
      have hx' : CRel R c (a.eval x) := hx
      cases c <;> first | (exact absurd rfl (by simpa using hne)) | skip
      all_goals simp only [CRel] at hx'
      all_goals first
        | (exfalso; simp_all; done)
        | (rw [hx']; rfl)
        | (rw [hx'.2]; rfl)
        | (obtain ⟨_, _, _, e, _⟩ := hx'; rw [e]; rfl)
        | (obtain ⟨_, _, e, _⟩ := hx'; rw [e]; rfl)
        | (obtain ⟨_, e, _⟩ := hx'; rw [e]; rfl)
    · simp at hc

theorem optI_sound (h : FRel R fr a) {x : Option Operand} {r : Option Int} (hr : optI fr x = some r) :
    (x = none ∧ r = none) ∨ ∃ y k n, x = some y ∧ r = some n ∧ a.eval y = .int k n := by
  cases x with
  | none => simp [optI] at hr; exact .inl ⟨rfl, hr.symm⟩
  | some y =>
    simp only [optI] at hr
    have hy := ev_sound h y
    split at hr
    · rename_i k n he
      rw [he] at hy
      simp only [SRel, VRel, CRel] at hy
      exact .inr ⟨y, k, n, rfl, (Option.some.inj hr).symm, hy⟩
    · simp at hr

theorem run_sliceBound {k : IntKind} {n : Int} {y : Nat} {code : BoundsCode} {w : World} (h0 : 0 ≤ n) (h1 : n ≤ y) : (Instr.sliceBound (.int k n) y code).run P w = .ok n.toNat w := by
  simp [Instr.sliceBound, asIntOf, h0, h1]

theorem bnds_sound (h : FRel R fr a) {lo hi mx : Option Operand} {l hh m : Option Int} (h1 : optI fr lo = some l) (h2 : optI fr hi = some hh) (h3 : optI fr mx = some m)
    {len cap : Nat} (hlc : len ≤ cap) (isS : Bool) {K : Nat → Nat → Prop} (hb : bnds len l hh m K) (w : World) :
    ∃ L H M, (Instr.sliceBounds isS len cap (lo.map a.eval) (hi.map a.eval) (mx.map a.eval)).run P w = .ok (L, H, M) w ∧ K L H ∧ L ≤ H ∧ H ≤ M ∧ M ≤ cap ∧ H ≤ len := by
  unfold bnds at hb
  rcases optI_sound h h3 with ⟨rfl, rfl⟩ | ⟨ym, km, nm, rfl, rfl, em⟩
  · obtain ⟨b1, b2, b3, b4⟩ := hb
    rcases optI_sound h h2 with ⟨rfl, rfl⟩ | ⟨yh, kh, nh, rfl, rfl, eh⟩
    · simp only [Option.getD_none] at b1 b2 b3 b4
      rcases optI_sound h h1 with ⟨rfl, rfl⟩ | ⟨yl, kl, nl, rfl, rfl, el⟩
      · exact ⟨0, len, cap, by simp [Instr.sliceBounds], by simpa using b4, by omega, by omega, by omega, by omega⟩
      · simp only [Option.getD_some] at b1 b2 b3 b4
        exact ⟨nl.toNat, len, cap, by simp [Instr.sliceBounds, el, run_sliceBound b1 b2], by simpa using b4, by omega, by omega, by omega, by omega⟩
    · simp only [Option.getD_some] at b2 b3 b4
      rcases optI_sound h h1 with ⟨rfl, rfl⟩ | ⟨yl, kl, nl, rfl, rfl, el⟩
      · simp only [Option.getD_none] at b1 b2 b3 b4
        exact ⟨0, nh.toNat, cap, by simp [Instr.sliceBounds, eh, run_sliceBound b2 (show nh ≤ cap by omega)], by simpa using b4, by omega, by omega, by omega, by omega⟩
      · simp only [Option.getD_some] at b1 b2 b3 b4
        exact ⟨nl.toNat, nh.toNat, cap, by simp [Instr.sliceBounds, eh, el, run_sliceBound (show 0 ≤ nh by omega) (show nh ≤ cap by omega), run_sliceBound b1 (show nl ≤ (nh.toNat : Int) by omega)], by simpa using b4, by omega, by omega, by omega, by omega⟩
  · rcases optI_sound h h2 with ⟨rfl, rfl⟩ | ⟨yh, kh, nh, rfl, rfl, eh⟩
    · exact hb.elim
    · obtain ⟨b1, b2, b3, b5, b4⟩ := hb
      simp only [Option.getD_some] at b2 b3 b4
      rcases optI_sound h h1 with ⟨rfl, rfl⟩ | ⟨yl, kl, nl, rfl, rfl, el⟩
      · simp only [Option.getD_none] at b1 b2 b3 b4
        exact ⟨0, nh.toNat, nm.toNat, by simp [Instr.sliceBounds, em, eh, run_sliceBound (show 0 ≤ nm by omega) (show nm ≤ cap by omega), run_sliceBound b2 (show nh ≤ (nm.toNat : Int) by omega)], by simpa using b4, by omega, by omega, by omega, by omega⟩
      · simp only [Option.getD_some] at b1 b2 b3 b4
        exact ⟨nl.toNat, nh.toNat, nm.toNat, by simp [Instr.sliceBounds, em, eh, el, run_sliceBound (show 0 ≤ nm by omega) (show nm ≤ cap by omega), run_sliceBound (show 0 ≤ nh by omega) (show nh ≤ (nm.toNat : Int) by omega), run_sliceBound b1 (show nl ≤ (nh.toNat : Int) by omega)], by simpa using b4, by omega, by omega, by omega, by omega⟩
end

theorem und_of {P : Program} {t : TypeId} {ti : TI} {i : TypeInfo} {d : TypeDesc} (hs : TiSpec P t ti i d) (w : World) :
    (underlying t).run P w = .ok d w ∧ ti.kind = tkOf d := ⟨hs.run_underlying w, hs.kind⟩

theorem tkOf_int {d : TypeDesc} {k : IntKind} (h : TK.int k = tkOf d) : d = .int k := by cases d <;> simp [tkOf] at h; rw [h]
theorem tkOf_str {d : TypeDesc} (h : TK.str = tkOf d) : d = .string := by cases d <;> simp [tkOf] at h; rfl
theorem tkOf_slice {d : TypeDesc} {e : Nat} (h : TK.slice e = tkOf d) : d = .slice e := by cases d <;> simp [tkOf] at h; rw [h]
theorem tkOf_array {d : TypeDesc} {n e : Nat} (h : TK.array n e = tkOf d) : d = .array n e := by cases d <;> simp [tkOf] at h; rw [h.1, h.2]
theorem tkOf_struct {d : TypeDesc} {fs : List (Nat × Nat)} (h : TK.struct fs = tkOf d) : ∃ f, d = .struct f ∧ fs = f.toList.map fun f => (f.offset, f.type) := by
  cases d <;> simp [tkOf] at h; exact ⟨_, rfl, h⟩
end Go.Abs
