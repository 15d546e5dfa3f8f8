/- The abstract machine: arrays compared. -/
import Derived.Test.YtcihpgdmldkjfaaAbsL
namespace Go.Abs
open Go

theorem intsOf_length : ∀ (cs : List Cell), (intsOf cs).length = cs.length
  | [] => rfl
  | c :: r => by cases c <;> simp [intsOf, intsOf_length r]

section
variable {P : Program} {fr : List S} {H : Heap} {K : S → Heap → Prop} {o : Oper}

theorem forIn_same (f : Nat → Option Bool × Unit → Sem (ForInStep (Option Bool × Unit))) (b : Nat → Bool) (w : World) : ∀ (l : List Nat),
    (∀ i ∈ l, ∀ r, (f i r).run P w = .ok (if b i then .yield (none, ()) else .done (some false, ())) w) →
    (forIn l (none, ()) f).run P w = .ok (if l.all b then (none, ()) else (some false, ())) w
  | [], _ => rfl
  | i :: l, h => by
    rw [List.forIn_cons, Sem.run_bind, h i (by simp)]
    simp only [Result.andThen_ok]
    by_cases hb : b i = true
    · simp only [hb, if_true]
      rw [forIn_same f b w l (fun j hj => h j (by simp [hj]))]
      simp [hb]
    · simp [hb]

theorem equal_arr {t e n : Nat} {ei : TI} {k : IntKind} {w : World} (hd : (underlying t).run P w = .ok (.array n e) w) (hei : tiOf P e = some ei) (hk : ei.kind = .int k) (hsz : ei.size = 1)
    {R : Rl} {xs ys : List Cell} {vx vy : Array Value} (hx : LRel R xs vx.toList) (hy : LRel R ys vy.toList) (h1 : allInt k xs = true) (h2 : allInt k ys = true) (l1 : xs.length = n) (l2 : ys.length = n) :
    (Op.equal t (.agg vx) (.agg vy)).run P w = .ok (decide (intsOf xs = intsOf ys)) w := by
  obtain ⟨i1, d1, hs1⟩ := ti_spec hei
  have ed := tkOf_int (hk.symm.trans hs1.kind)
  have u1 := hs1.run_underlying w
  rw [ed] at u1
  have ag := hs1.run_isAgg w
  rw [hk] at ag
  have part1 : ∀ (cs : List Cell) (vs : Array Value), LRel R cs vs.toList → allInt k cs = true → ∀ i, i < cs.length → ∃ m, (intsOf cs)[i]? = some m ∧ (part e vs (i * ei.size)).run P w = .ok (.int k m) w := by
    intro cs vs hl ha i hi
    obtain ⟨m, e1, e2⟩ := allInt_get ha (List.getElem?_eq_getElem hi)
    obtain ⟨v, g1, g2, g3⟩ := hl.get (List.getElem?_eq_getElem hi)
    rw [e1] at g3
    simp only [CRel] at g3
    subst g3
    have g4 : vs[i]? = some (.int k m) := by simpa using g1
    refine ⟨m, e2, ?_⟩
    rw [part, Sem.run_bind, ag, hsz, Nat.mul_one]
    simp [TK.agg, g4]
  show (Op.equalIn (9999 + 1) t (.agg vx) (.agg vy)).run P w = _
  rw [Op.equalIn, Sem.run_bind, hd]
  simp only [Result.andThen_ok, Sem.run_bind, hs1.run_sizeOf w]
  rw [Std.Legacy.Range.forIn_eq_forIn_range']
  rw [forIn_same (P := P) _ (fun i => decide ((intsOf xs)[i]? = (intsOf ys)[i]?)) w _ (fun i hi r => by
    have hi' : i < n := by
      simp [List.mem_range', Std.Legacy.Range.size] at hi
      omega
    obtain ⟨m1, e1, r1⟩ := part1 xs vx hx h1 i (by omega)
    obtain ⟨m2, e2, r2⟩ := part1 ys vy hy h2 i (by omega)
    have heq : (Op.equalIn 9999 e (.int k m1) (.int k m2)).run P w = .ok (m1 == m2) w := by
      show (Op.equalIn (9998 + 1) e (.int k m1) (.int k m2)).run P w = _
      rw [Op.equalIn, Sem.run_bind, u1]
      simp
    simp only [Sem.run_bind, r1, r2, Result.andThen_ok, heq, e1, e2]
    by_cases hm : m1 = m2 <;> simp [hm])]
  simp only [Result.andThen_ok]
  have key : (List.range' 0 n).all (fun i => decide ((intsOf xs)[i]? = (intsOf ys)[i]?)) = decide (intsOf xs = intsOf ys) := by
    rw [Bool.eq_iff_iff, List.all_eq_true]
    simp only [decide_eq_true_eq, List.mem_range'_1]
    constructor
    · intro h
      apply List.ext_getElem?
      intro i
      by_cases hi : i < n
      · exact h i ⟨by omega, by omega⟩
      · rw [List.getElem?_eq_none (by rw [intsOf_length]; omega), List.getElem?_eq_none (by rw [intsOf_length]; omega)]
    · intro h i _
      rw [h]
  have hr : List.range' [:n].start [:n].size [:n].step = List.range' 0 n := by simp [Std.Legacy.Range.size]
  rw [hr, key]
  by_cases hh : intsOf xs = intsOf ys <;> simp [hh]

theorem or_binOp {op : BinOp} {xt yt : TypeId} {x y : Operand} (ho : o.op = .binOp op xt x y yt) (h : ostep P o fr H K) : ∃ s, OpR P o fr H s ∧ K s H := by
  simp only [ostep, ho] at h
  split at h
  · rename_i xs ys hx hy
    split at h
    · rename_i ti ht
      obtain ⟨i1, d1, hs1⟩ := ti_spec ht
      split at h
      · rename_i n e hk
        have ed := tkOf_array (hk.symm.trans hs1.kind)
        split at h
        · rename_i ei hei
          split at h
          · rename_i k r hke hr
            obtain ⟨hpl, hsz, h1, h2, l1, l2, h⟩ := h
            refine ⟨_, fun E ρ a w hE hs => ?_, h⟩
            have hcx := ev_sound hs.fr x
            rw [hx] at hcx
            obtain ⟨vx, ex, hlx⟩ := hcx
            have hcy := ev_sound hs.fr y
            rw [hy] at hcy
            obtain ⟨vy, ey, hly⟩ := hcy
            have u1 := hs1.run_underlying w
            rw [ed] at u1
            have heq := equal_arr (P := P) u1 hei hke hsz hlx hly h1 h2 l1 l2
            have hg : P.eqGuardType P.depth xt = false := by
              have := hs1.plain
              rw [hpl] at this
              simpa using this.symm
            have hguard : (eqGuard op xt x y (.agg vx) (.agg vy)).run P w = .ok () w := by
              cases op <;> simp only [eqGuard] <;> first | rfl | simp [hg]
            refine ⟨.bool r, ?_, by simp [SRel, VRel, CRel]⟩
            simp only [execOp, ho, ex, ey, Sem.run_bind, hguard, Result.andThen_ok]
            cases op <;> simp only [eqv] at hr <;> try (cases hr; done)
            all_goals
              obtain rfl := Option.some.inj hr
              simp [binOp, heq]
          · exact h.elim
        · exact h.elim
      · exact h.elim
    · exact h.elim
  · rw [← ho] at h
    obtain ⟨s, h1, h2⟩ := pstep_sound h
    exact ⟨s, opr_pv H h2, h1⟩
theorem og_binOp {op : BinOp} {xt yt : TypeId} {x y : Operand} (ho : o.op = .binOp op xt x y yt) (h : ostep P o fr H K) : ∃ s H', OpG P o fr H s H' ∧ K s H' :=
  let ⟨s, h1, h2⟩ := or_binOp ho h; ⟨s, H, opg_opr h1, h2⟩
end
end Go.Abs
