/- The abstract machine: regions that draw their order. -/
import Derived.Test.YtcihpgdmldkjfaaAbsQ
import Derived.StillTail
namespace Go.Abs
open Go

section
variable {P : Program} {fr fr' : List S} {H : Heap} {o : Oper}

theorem caps_congr : ∀ (l : List Operand), (∀ x ∈ l, ev fr x = ev fr' x) → caps fr l = caps fr' l
  | [], _ => rfl
  | x :: r, h => by simp only [caps, h x (by simp), caps_congr r (fun y hy => h y (by simp [hy]))]
theorem argVs_congr : ∀ (l : List Operand), (∀ x ∈ l, ev fr x = ev fr' x) → argVs fr l = argVs fr' l
  | [], _ => rfl
  | x :: r, h => by simp only [argVs, h x (by simp), argVs_congr r (fun y hy => h y (by simp [hy]))]
theorem fillK_congr {place : Nat → Option (Nat × Nat)} {K : List Cell → Prop} : ∀ (l : List (Nat × Operand)) (cs : List Cell), (∀ x ∈ l, ev fr x.2 = ev fr' x.2) → fillK fr place K cs l = fillK fr' place K cs l
  | [], _, _ => rfl
  | (i, x) :: r, cs, h => by
    have e := h (i, x) (by simp)
    simp only at e
    simp only [fillK, e, fillK_congr r _ (fun y hy => h y (by simp [hy]))]
theorem optI_congr (x : Option Operand) (h : ∀ y, x = some y → ev fr y = ev fr' y) : optI fr x = optI fr' x := by
  cases x with
  | none => rfl
  | some y => simp only [optI, h y rfl]

theorem callO_congr {f : Operand} {args : Array Operand} {K : S → Heap → Prop} (h1 : ev fr f = ev fr' f) (h2 : ∀ x ∈ args.toList, ev fr x = ev fr' x) : callO P fr H f args K = callO P fr' H f args K := by
  unfold callO
  rw [h1, argVs_congr _ h2]

theorem ostep_congr {K : S → Heap → Prop} (h : ∀ x ∈ o.op.operands.toList, ev fr x = ev fr' x) : ostep P o fr H K = ostep P o fr' H K := by
  cases ho : o.op <;> rw [ho] at h
  case build t ps =>
    have e : ∀ place K cs, fillK fr place K cs ps.toList = fillK fr' place K cs ps.toList := fun place K cs => fillK_congr _ _ fun x hx => h x.2 (by simp [Op.operands]; exact ⟨x.1, by simpa using hx⟩)
    simp only [ostep, ho, e]
  case buildSlice t n ps =>
    have e : ∀ place K cs, fillK fr place K cs ps.toList = fillK fr' place K cs ps.toList := fun place K cs => fillK_congr _ _ fun x hx => h x.2 (by simp [Op.operands]; exact ⟨x.1, by simpa using hx⟩)
    simp only [ostep, ho, e]
  case makeFunc fn first cap =>
    have e : caps fr cap.toList = caps fr' cap.toList := caps_congr _ fun x hx => h x (by simp at hx; simp [Op.operands, hx])
    cases fn <;> simp only [ostep, ho, pstep, e]
  case slice t x lo hi mx =>
    have e1 : ev fr x = ev fr' x := h x (by simp [Op.operands])
    have e2 : optI fr lo = optI fr' lo := optI_congr _ fun y hy => h y (by simp [Op.operands, hy])
    have e3 : optI fr hi = optI fr' hi := optI_congr _ fun y hy => h y (by simp [Op.operands, hy])
    have e4 : optI fr mx = optI fr' mx := optI_congr _ fun y hy => h y (by simp [Op.operands, hy])
    simp only [ostep, ho, pstep, e1, e2, e3, e4]
  case call c =>
    obtain ⟨callee, args, ats⟩ := c
    cases callee with
    | value f =>
      have h1 : ev fr f = ev fr' f := h f (by simp [Op.operands, Call.operands])
      have h2 : ∀ x ∈ args.toList, ev fr x = ev fr' x := fun x hx => h x (by simp at hx; simp [Op.operands, Call.operands, hx])
      simp only [ostep, ho, callO_congr h1 h2]
    | invoke r m => simp only [ostep, ho]
    | builtin b =>
      have ha : ∀ l, args.toList = l → ∀ x ∈ l, ev fr x = ev fr' x := fun l hl x hx => h x (by rw [← hl] at hx; simp at hx; simp [Op.operands, Call.operands, hx])
      cases b
      case append =>
        simp only [ostep, ho]
        split
        · rename_i s x t t' h1 h2
          simp only [ha _ h1 s (by simp), ha _ h1 x (by simp)]
        · rfl
      case copy =>
        simp only [ostep, ho]
        split
        · rename_i s x t t' h1 h2
          simp only [ha _ h1 s (by simp), ha _ h1 x (by simp)]
        · rfl
      case len =>
        simp only [ostep, ho, pstep]
        split
        · rename_i x t h1 h2
          simp only [ha _ h1 x (by simp)]
        · rfl
      case min =>
        simp only [ostep, ho, pstep]
        split
        · rename_i x y h1
          simp only [ha _ h1 x (by simp), ha _ h1 y (by simp)]
        · rfl
      case max =>
        simp only [ostep, ho, pstep]
        split
        · rename_i x y h1
          simp only [ha _ h1 x (by simp), ha _ h1 y (by simp)]
        · rfl
      all_goals simp only [ostep, ho, pstep]
  case move x => simp only [ostep, ho, pstep, h x (by simp [Op.operands])]
  case assign x => simp only [ostep, ho, pstep, h x (by simp [Op.operands])]
  case pick c x y => simp only [ostep, ho, pstep, h c (by simp [Op.operands]), h x (by simp [Op.operands]), h y (by simp [Op.operands])]
  case box t x => simp only [ostep, ho, h x (by simp [Op.operands])]
  case load t x => simp only [ostep, ho, loadR, h x (by simp [Op.operands])]
  case store t x y => simp only [ostep, ho, h x (by simp [Op.operands]), h y (by simp [Op.operands])]
  case nilCheck x => simp only [ostep, ho, pstep, h x (by simp [Op.operands])]
  case binOp op t x y u => simp only [ostep, ho, pstep, h x (by simp [Op.operands]), h y (by simp [Op.operands])]
  case unOp op t x => simp only [ostep, ho, pstep, h x (by simp [Op.operands])]
  case convert s d x => simp only [ostep, ho, pstep, h x (by simp [Op.operands])]
  case sliceToArrayPointer t x => simp only [ostep, ho, pstep, h x (by simp [Op.operands])]
  case makeSlice t l c => simp only [ostep, ho, h l (by simp [Op.operands]), h c (by simp [Op.operands])]
  case fieldAddr t x f => simp only [ostep, ho, pstep, h x (by simp [Op.operands])]
  case field t x f => simp only [ostep, ho, pstep, h x (by simp [Op.operands])]
  case indexAddr t x i => simp only [ostep, ho, pstep, h x (by simp [Op.operands]), h i (by simp [Op.operands])]
  case index t x i => simp only [ostep, ho, pstep, h x (by simp [Op.operands]), h i (by simp [Op.operands])]
  case extract x i => simp only [ostep, ho, pstep, h x (by simp [Op.operands])]
  all_goals simp only [ostep, ho, pstep]
end
end Go.Abs
