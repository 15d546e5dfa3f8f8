/- The abstract machine: the operations that look at no memory, one by one. -/
import Derived.Test.YtcihpgdmldkjfaaAbsF
namespace Go.Abs
open Go

section
variable {P : Program} {fr : List S} {K : S → Prop} {o : Oper}

theorem pv_move {x : Operand} (ho : o.op = .move x ∨ o.op = .assign x) (h : K (ev fr x)) : ∃ s, K s ∧ PV P o fr s := by
  refine ⟨_, h, fun R a w hf => ⟨a.eval x, ?_, ev_sound hf x⟩⟩
  rcases ho with ho | ho <;> simp [execOp, ho]

theorem pv_pick {c x y : Operand} (ho : o.op = .pick c x y) (h : pstep P (.pick c x y) fr K) : ∃ s, K s ∧ PV P o fr s := by
  simp only [pstep] at h
  split at h
  · rename_i t ht
    refine ⟨_, h, fun R a w hf => ?_⟩
    have hc := ev_sound hf c
    rw [ht] at hc
    simp only [SRel, VRel, CRel] at hc
    cases t
    · exact ⟨a.eval y, by simp [execOp, ho, hc, asBool], ev_sound hf y⟩
    · exact ⟨a.eval x, by simp [execOp, ho, hc, asBool], ev_sound hf x⟩
  · exact h.elim

theorem pv_nilCheck {x : Operand} (ho : o.op = .nilCheck x) (h : pstep P (.nilCheck x) fr K) : ∃ s, K s ∧ PV P o fr s := by
  simp only [pstep] at h
  split at h
  · rename_i p q hx
    refine ⟨_, h, fun R a w hf => ?_⟩
    have hc := ev_sound hf x
    rw [hx] at hc
    refine ⟨a.eval x, ?_, hc⟩
    simp only [SRel, VRel, CRel] at hc
    rw [hc.2]; simp [execOp, ho, hc.2]
  · rename_i cs hx
    refine ⟨_, h, fun R a w hf => ?_⟩
    have hc := ev_sound hf x
    rw [hx] at hc
    refine ⟨a.eval x, ?_, hc⟩
    simp only [SRel, VRel, CRel] at hc
    obtain ⟨_, _, e, _⟩ := hc
    rw [e]; simp [execOp, ho, e]
  · rename_i f cs hx
    refine ⟨_, h, fun R a w hf => ?_⟩
    have hc := ev_sound hf x
    rw [hx] at hc
    refine ⟨a.eval x, ?_, hc⟩
    simp only [SRel, VRel, CRel] at hc
    obtain ⟨_, e, _⟩ := hc
    rw [e]; simp [execOp, ho, e]
  · exact h.elim

theorem binC_uniform {op : BinOp} {tk : TK} {x y : Cell} {K : Cell → Prop} (h : binC op tk x y K) : ∃ r, K r ∧ binC op tk x y (fun r' => r' = r) := by
  unfold binC at h ⊢
  repeat' (first | (exact h.elim) | (exact ⟨_, h, rfl⟩) | (exact ⟨_, h.2, h.1, rfl⟩) | (exact ⟨_, h.2.2, h.1, h.2.1, rfl⟩) | split at h | (obtain ⟨h1, h⟩ := h))

theorem pv_binOp {op : BinOp} {xt yt : TypeId} {x y : Operand} (ho : o.op = .binOp op xt x y yt) (h : pstep P (.binOp op xt x y yt) fr K) : ∃ s, K s ∧ PV P o fr s := by
  simp only [pstep] at h
  split at h
  · rename_i ti ht
    split at h
    · rename_i c d hc hd
      obtain ⟨r, hr, hb⟩ := binC_uniform h
      refine ⟨_, hr, fun R a w hf => ?_⟩
      have hx := ev_sound hf x
      have hy := ev_sound hf y
      rw [hc] at hx
      rw [hd] at hy
      obtain ⟨r', rv, e, h1, h2⟩ := binC_sound ht hb hx hy x y w
      subst e
      refine ⟨rv, ?_, h2⟩
      simp only [execOp, ho, Sem.run_bind] at h1 ⊢
      rw [h1]
      rfl
    · exact h.elim
  · exact h.elim

theorem pv_unOp {op : UnOp} {xt : TypeId} {x : Operand} (ho : o.op = .unOp op xt x) (h : pstep P (.unOp op xt x) fr K) : ∃ s, K s ∧ PV P o fr s := by
  simp only [pstep] at h
  split at h
  · rename_i b hx
    refine ⟨_, h, fun R a w hf => ?_⟩
    have hc := ev_sound hf x
    rw [hx] at hc
    simp only [SRel, VRel, CRel] at hc
    exact ⟨.bool !b, by simp [execOp, ho, hc, Op.unary], by simp [SRel, VRel, CRel]⟩
  · rename_i k n hx
    refine ⟨_, h, fun R a w hf => ?_⟩
    have hc := ev_sound hf x
    rw [hx] at hc
    simp only [SRel, VRel, CRel] at hc
    exact ⟨.int k (k.wrap (0 - n)), by simp [execOp, ho, hc, Op.unary, Op.intArith], by simp [SRel, VRel, CRel]⟩
  · rename_i k n hx
    simp only [arithv] at h
    refine ⟨_, h, fun R a w hf => ?_⟩
    have hc := ev_sound hf x
    rw [hx] at hc
    simp only [SRel, VRel, CRel] at hc
    exact ⟨_, by simp [execOp, ho, hc, Op.unary, Op.intBits]; rfl, by simp [SRel, VRel, CRel]⟩
  · exact h.elim

theorem pv_convert {src dst : TypeId} {x : Operand} (ho : o.op = .convert src dst x) (h : pstep P (.convert src dst x) fr K) : ∃ s, K s ∧ PV P o fr s := by
  simp only [pstep] at h
  split at h
  · rename_i si di hsi hdi
    obtain ⟨i1, d1, hs1⟩ := ti_spec hsi
    obtain ⟨i2, d2, hs2⟩ := ti_spec hdi
    split at h
    · rename_i k k' n hk hx
      split at h
      · rename_i k2 hk2
        have e2 := tkOf_int (hk.symm.trans hs2.kind)
        have e1 := tkOf_int (hk2.symm.trans hs1.kind)
        refine ⟨_, h, fun R a w hf => ?_⟩
        have hc := ev_sound hf x
        rw [hx] at hc
        simp only [SRel, VRel, CRel] at hc
        refine ⟨.int k (k.wrap n), ?_, by simp [SRel, VRel, CRel]⟩
        have u1 := hs1.run_underlying w
        have u2 := hs2.run_underlying w
        rw [e1] at u1; rw [e2] at u2
        simp [execOp, ho, hc, convert, u1, u2, Conv.intToInt]
      · exact h.elim
    · rename_i s hk hx
      split at h
      · rename_i hk2
        have e2 := tkOf_str (hk.symm.trans hs2.kind)
        have e1 := tkOf_str (hk2.symm.trans hs1.kind)
        refine ⟨_, h, fun R a w hf => ?_⟩
        have hc := ev_sound hf x
        rw [hx] at hc
        simp only [SRel, VRel, CRel] at hc
        refine ⟨.string s, ?_, by simp [SRel, VRel, CRel]⟩
        have u1 := hs1.run_underlying w
        have u2 := hs2.run_underlying w
        rw [e1] at u1; rw [e2] at u2
        simp [execOp, ho, hc, convert, u1, u2]
      · exact h.elim
    · exact h.elim
  · exact h.elim

theorem rop_drop {R : Rl} {cs : List Cell} {b off : Nat} (k : Nat) (h : MRel R cs b off) : MRel R (cs.drop k) b (off + k) := by
  refine MRel.of_get fun i c hi => ?_
  rw [List.getElem?_drop] at hi
  obtain ⟨arr, el, fr, v, h1, h2, h3, h4⟩ := h.get hi
  exact ⟨arr, el, fr, v, h1, by rw [Nat.add_assoc]; exact h2, h3, h4⟩

theorem mrel_take {R : Rl} {cs : List Cell} {b off : Nat} (k : Nat) (h : MRel R cs b off) : MRel R (cs.take k) b off := by
  refine MRel.of_get fun i c hi => ?_
  rw [List.getElem?_take] at hi
  split at hi
  · exact h.get hi
  · simp at hi

theorem pv_fieldAddr {t : TypeId} {x : Operand} {f : Nat} (ho : o.op = .fieldAddr t x f) (h : pstep P (.fieldAddr t x f) fr K) : ∃ s, K s ∧ PV P o fr s := by
  simp only [pstep] at h
  split at h
  · rename_i ti ht
    obtain ⟨i1, d1, hs1⟩ := ti_spec ht
    split at h
    · rename_i fs hk
      obtain ⟨F, rfl, rfl⟩ := tkOf_struct (hk.symm.trans hs1.kind)
      split at h
      · rename_i off ft hft
        split at h
        · rename_i fti hfti
          obtain ⟨i2, d2, hs2⟩ := ti_spec hfti
          obtain ⟨hz, h⟩ := h
          rw [List.getElem?_map, Option.map_eq_some_iff] at hft
          obtain ⟨fd, hfd, e⟩ := hft
          obtain ⟨rfl, rfl⟩ := Prod.mk.inj e
          have hfd' : F[f]? = some fd := by simpa using hfd
          have run : ∀ (b q : Nat) (w : World) (a : Act), a.eval x = .pointer (some ⟨b, q, none⟩) → (execOp a.eval o).run P w = .ok (.value (.pointer (some ⟨b, q + fd.offset, none⟩))) w := by
            intro b q w a hc
            simp [execOp, ho, hc, Instr.fieldAt, hs1.run_underlying w, hfd', Instr.sureAddr, fieldPlace, hs2.run_sizeOf w, hz, add_none]
          split at h
          · rename_i p q hx
            refine ⟨_, h, fun R a w hf => ?_⟩
            have hc := ev_sound hf x
            rw [hx] at hc
            simp only [SRel, VRel, CRel] at hc
            exact ⟨_, run _ _ w a hc.2, by simp only [SRel, VRel, CRel]; exact ⟨hc.1, by rw [Nat.add_assoc]⟩⟩
          · rename_i cs hx
            refine ⟨_, h, fun R a w hf => ?_⟩
            have hc := ev_sound hf x
            rw [hx] at hc
            simp only [SRel, VRel, CRel] at hc
            obtain ⟨b, q, e, hT, hM⟩ := hc
            exact ⟨_, run _ _ w a e, by simp only [SRel, VRel, CRel]; exact ⟨b, _, rfl, hT, rop_drop _ hM⟩⟩
          · exact h.elim
        · exact h.elim
      · exact h.elim
    · exact h.elim
  · exact h.elim

theorem partA_uniform {ti : TI} {xs : List Cell} {off : Nat} {K : S → Prop} (h : partA ti xs off K) : ∃ s, K s ∧ partA ti xs off (fun s' => s' = s) := by
  unfold partA at h ⊢
  split at h
  · rename_i hk; exact ⟨_, h, by rw [if_pos hk]⟩
  · rename_i hk
    split at h
    · rename_i k e; exact ⟨_, h.2, by rw [if_neg hk]; exact ⟨h.1, rfl⟩⟩
    · split at h
      · rename_i c hc; exact ⟨_, h, by rw [if_neg hk]⟩
      · exact h.elim

theorem pv_field {t : TypeId} {x : Operand} {f : Nat} (ho : o.op = .field t x f) (h : pstep P (.field t x f) fr K) : ∃ s, K s ∧ PV P o fr s := by
  simp only [pstep] at h
  split at h
  · rename_i ti ht
    obtain ⟨i1, d1, hs1⟩ := ti_spec ht
    split at h
    · rename_i fs hk
      obtain ⟨F, rfl, rfl⟩ := tkOf_struct (hk.symm.trans hs1.kind)
      split at h
      · rename_i off ft hft
        split at h
        · rename_i fti hfti
          rw [List.getElem?_map, Option.map_eq_some_iff] at hft
          obtain ⟨fd, hfd, e⟩ := hft
          obtain ⟨rfl, rfl⟩ := Prod.mk.inj e
          have hfd' : F[f]? = some fd := by simpa using hfd
          split at h
          · rename_i xs hx
            obtain ⟨s, hs, hp⟩ := partA_uniform h
            refine ⟨s, hs, fun R a w hf => ?_⟩
            have hc := ev_sound hf x
            rw [hx] at hc
            obtain ⟨vs, e, hl⟩ := hc
            obtain ⟨s', v, e', h1, h2⟩ := partA_sound hfti hp hl w
            subst e'
            exact ⟨v, by simp [execOp, ho, e, Instr.field, hs1.run_underlying w, hfd', asAgg, h1], h2⟩
          · exact h.elim
        · exact h.elim
      · exact h.elim
    · exact h.elim
  · exact h.elim

theorem pv_indexAddr {t : TypeId} {x ix : Operand} (ho : o.op = .indexAddr t x ix) (h : pstep P (.indexAddr t x ix) fr K) : ∃ s, K s ∧ PV P o fr s := by
  simp only [pstep] at h
  split at h
  · rename_i k i ti hix ht
    obtain ⟨i1, d1, hs1⟩ := ti_spec ht
    have hI : ∀ (R : Rl) (a : Act), FRel R fr a → a.eval ix = .int k i := fun R a hf => by
      have := ev_sound hf ix
      rw [hix] at this
      simpa [SRel, VRel, CRel] using this
    split at h
    · rename_i n e p q hk hx
      have ed := tkOf_array (hk.symm.trans hs1.kind)
      split at h
      · rename_i ei hei
        obtain ⟨i2, d2, hs2⟩ := ti_spec hei
        obtain ⟨h0, h1, h⟩ := h
        refine ⟨_, h, fun R a w hf => ?_⟩
        have hc := ev_sound hf x
        rw [hx] at hc
        simp only [SRel, VRel, CRel] at hc
        have u1 := hs1.run_underlying w
        rw [ed] at u1
        exact ⟨_, by simp [execOp, ho, hI R a hf, hc.2, Instr.indexAt, asIntOf, u1, Instr.sureAddr, h0, h1, hs2.run_sizeOf w, add_none]; rfl, by
          simp only [SRel, VRel, CRel]; exact ⟨hc.1, by rw [Nat.add_assoc]⟩⟩
      · exact h.elim
    · rename_i n e cs hk hx
      have ed := tkOf_array (hk.symm.trans hs1.kind)
      split at h
      · rename_i ei hei
        obtain ⟨i2, d2, hs2⟩ := ti_spec hei
        obtain ⟨h0, h1, h⟩ := h
        refine ⟨_, h, fun R a w hf => ?_⟩
        have hc := ev_sound hf x
        rw [hx] at hc
        simp only [SRel, VRel, CRel] at hc
        obtain ⟨b, q, e, hT, hM⟩ := hc
        have u1 := hs1.run_underlying w
        rw [ed] at u1
        exact ⟨_, by simp [execOp, ho, hI R a hf, e, Instr.indexAt, asIntOf, u1, Instr.sureAddr, h0, h1, hs2.run_sizeOf w, add_none]; rfl, by
          simp only [SRel, VRel, CRel]; exact ⟨b, _, rfl, hT, rop_drop _ hM⟩⟩
      · exact h.elim
    · rename_i e p q n sz hk hx
      have ed := tkOf_slice (hk.symm.trans hs1.kind)
      split at h
      · rename_i ei hei
        obtain ⟨i2, d2, hs2⟩ := ti_spec hei
        obtain ⟨h0, h1, h⟩ := h
        refine ⟨_, h, fun R a w hf => ?_⟩
        have hc := ev_sound hf x
        rw [hx] at hc
        simp only [SRel, VRel, CRel] at hc
        obtain ⟨hp, b, c, e1, e2, e3⟩ := hc
        have u1 := hs1.run_underlying w
        rw [ed] at u1
        rcases e3 with ⟨rfl, e4⟩ | e3
        · exact ⟨_, by simp [execOp, ho, hI R a hf, e1, Instr.indexAt, asIntOf, u1, h0, h1, hs2.run_sizeOf w, add_none]; rfl, by
            simp only [SRel, VRel, CRel]; exact ⟨hp, by rw [Nat.add_assoc]⟩⟩
        · omega
      · exact h.elim
    · rename_i e n cs hk hx
      have ed := tkOf_slice (hk.symm.trans hs1.kind)
      split at h
      · rename_i ei hei
        obtain ⟨i2, d2, hs2⟩ := ti_spec hei
        obtain ⟨h0, h1, h2, h⟩ := h
        refine ⟨_, h, fun R a w hf => ?_⟩
        have hc := ev_sound hf x
        rw [hx] at hc
        simp only [SRel, VRel, CRel] at hc
        obtain ⟨b, c, e1, e2, e3, e4⟩ := hc
        have u1 := hs1.run_underlying w
        rw [ed] at u1
        cases b with
        | none => have := e3 rfl; omega
        | some b =>
          obtain ⟨f1, f2, f3⟩ := e4 b rfl (by rintro rfl; simp at h2)
          obtain ⟨bb, bo, bs⟩ := b
          simp only at f1 f2 f3
          subst f1
          exact ⟨_, by simp [execOp, ho, hI R a hf, e1, Instr.indexAt, asIntOf, u1, h0, h1, hs2.run_sizeOf w, add_none]; rfl, by
            simp only [SRel, VRel, CRel]; exact ⟨bb, _, rfl, f2, rop_drop _ f3⟩⟩
      · exact h.elim
    · exact h.elim
  · exact h.elim

theorem pv_index {t : TypeId} {x ix : Operand} (ho : o.op = .index t x ix) (h : pstep P (.index t x ix) fr K) : ∃ s, K s ∧ PV P o fr s := by
  simp only [pstep] at h
  split at h
  · rename_i k i ti hix ht
    obtain ⟨i1, d1, hs1⟩ := ti_spec ht
    have hI : ∀ (R : Rl) (a : Act), FRel R fr a → a.eval ix = .int k i := fun R a hf => by
      have := ev_sound hf ix
      rw [hix] at this
      simpa [SRel, VRel, CRel] using this
    split at h
    · rename_i n e xs hk hx
      have ed := tkOf_array (hk.symm.trans hs1.kind)
      split at h
      · rename_i ei hei
        obtain ⟨i2, d2, hs2⟩ := ti_spec hei
        obtain ⟨h0, h1, h⟩ := h
        obtain ⟨s, hs, hp⟩ := partA_uniform h
        refine ⟨s, hs, fun R a w hf => ?_⟩
        have hc := ev_sound hf x
        rw [hx] at hc
        obtain ⟨vs, e, hl⟩ := hc
        obtain ⟨s', v, e', h3, h4⟩ := partA_sound hei hp hl w
        subst e'
        have u1 := hs1.run_underlying w
        rw [ed] at u1
        exact ⟨v, by simp [execOp, ho, hI R a hf, e, Instr.index, asIntOf, u1, h0, h1, hs2.run_sizeOf w, h3], h4⟩
      · exact h.elim
    · rename_i s hk hx
      have ed := tkOf_str (hk.symm.trans hs1.kind)
      obtain ⟨h0, h1, h⟩ := h
      refine ⟨_, h, fun R a w hf => ?_⟩
      have hc := ev_sound hf x
      rw [hx] at hc
      simp only [SRel, VRel, CRel] at hc
      have u1 := hs1.run_underlying w
      rw [ed] at u1
      have hlt : i.toNat < s.size := by omega
      have hg : s[i.toNat]? = some (s.data.getD i.toNat 0) := by
        have hd : i.toNat < s.data.size := hlt
        rw [getElem?_pos s i.toNat hlt]
        congr 1
        simp only [Array.getD_eq_getD_getElem?]
        rw [Array.getElem?_eq_getElem hd]
        rfl
      exact ⟨_, by simp only [execOp, ho, hI R a hf, hc, Instr.index, asIntOf, Sem.run_bind, Sem.run_pure, Result.andThen_ok, u1, h0, if_true, hg]; rfl, by simp [SRel, VRel, CRel]⟩
    · exact h.elim
  · exact h.elim

theorem vsrel_get {R : Rl} : ∀ {xs : List V} {vs : List Value}, VsRel R xs vs → ∀ {i : Nat} {x : V}, xs[i]? = some x → ∃ v, vs[i]? = some v ∧ VRel R x v
  | [], vs, _, i, x, hi => by simp at hi
  | y :: xs, vs, k, i, x, hi => by
    simp only [VsRel] at k
    obtain ⟨v, vs', rfl, e2, e3⟩ := k
    cases i with
    | zero => simp at hi; subst hi; exact ⟨v, rfl, e2⟩
    | succ i => simpa using vsrel_get e3 (i := i) (x := x) (by simpa using hi)

theorem pv_extract {x : Operand} {i : Nat} (ho : o.op = .extract x i) (h : pstep P (.extract x i) fr K) : ∃ s, K s ∧ PV P o fr s := by
  simp only [pstep] at h
  split at h
  · rename_i xs hx
    split at h
    · rename_i y hy
      refine ⟨_, h, fun R a w hf => ?_⟩
      have hc := ev_sound hf x
      rw [hx] at hc
      obtain ⟨vs, e, hl⟩ := hc
      obtain ⟨v, h1, h2⟩ := vsrel_get hl hy
      have h3 : vs[i]? = some v := by simpa using h1
      exact ⟨v, by simp [execOp, ho, e, Instr.extract, h3], h2⟩
    · exact h.elim
  · exact h.elim

theorem pv_makeFunc {fn : Fn} {first cap : Array Operand} (ho : o.op = .makeFunc fn first cap) (h : pstep P (.makeFunc fn first cap) fr K) : ∃ s, K s ∧ PV P o fr s := by
  cases fn with
  | func f =>
    simp only [pstep] at h
    split at h
    · rename_i cs hfi hca
      refine ⟨_, h, fun R a w hf => ⟨.func (.func f) #[] (cap.map a.eval), ?_, ?_⟩⟩
      · have : first = #[] := by simpa using hfi
        subst this
        simp [execOp, ho, Instr.makeFunc]
      · simp only [SRel, VRel, CRel]
        exact ⟨_, rfl, by simpa using caps_sound hf _ _ hca⟩
    · exact h.elim
  | _ => exact h.elim

theorem pv_s2ap {t : TypeId} {x : Operand} (ho : o.op = .sliceToArrayPointer t x) (h : pstep P (.sliceToArrayPointer t x) fr K) : ∃ s, K s ∧ PV P o fr s := by
  simp only [pstep] at h
  split at h
  · rename_i ti ht
    obtain ⟨i1, d1, hs1⟩ := ti_spec ht
    split at h
    · rename_i n e p q len sz hk hx
      have ed := tkOf_array (hk.symm.trans hs1.kind)
      obtain ⟨h0, h1, h⟩ := h
      refine ⟨_, h, fun R a w hf => ?_⟩
      have hc := ev_sound hf x
      rw [hx] at hc
      simp only [SRel, VRel, CRel] at hc
      obtain ⟨hp, b, c, e1, e2, e3⟩ := hc
      have u1 := hs1.run_underlying w
      rw [ed] at u1
      rcases e3 with ⟨rfl, e4⟩ | e3
      · exact ⟨_, by simp [execOp, ho, e1, Instr.arrayAt, u1, show ¬ len < n by omega]; rfl, by simp [SRel, VRel, CRel, hp]⟩
      · omega
    · rename_i n e len cs hk hx
      have ed := tkOf_array (hk.symm.trans hs1.kind)
      obtain ⟨h0, h1, h2, h⟩ := h
      refine ⟨_, h, fun R a w hf => ?_⟩
      have hc := ev_sound hf x
      rw [hx] at hc
      simp only [SRel, VRel, CRel] at hc
      obtain ⟨b, c, e1, e2, e3, e4⟩ := hc
      have u1 := hs1.run_underlying w
      rw [ed] at u1
      cases b with
      | none => have := e3 rfl; omega
      | some b =>
        obtain ⟨f1, f2, f3⟩ := e4 b rfl h2
        obtain ⟨bb, bo, bs⟩ := b
        simp only at f1 f2 f3
        subst f1
        exact ⟨_, by simp [execOp, ho, e1, Instr.arrayAt, u1, show ¬ len < n by omega]; rfl, by simp only [SRel, VRel, CRel]; exact ⟨bb, bo, rfl, f2, f3⟩⟩
    · exact h.elim
  · exact h.elim

theorem bnds_uniform {len : Nat} {l h m : Option Int} {K : Nat → Nat → Prop} (hb : bnds len l h m K) : ∃ L H, K L H ∧ bnds len l h m (fun L' H' => L' = L ∧ H' = H) := by
  unfold bnds at hb ⊢
  split at hb
  · obtain ⟨h1, h2, h3, h4⟩ := hb
    exact ⟨_, _, h4, h1, h2, h3, rfl, rfl⟩
  · split at hb
    · exact hb.elim
    · obtain ⟨h1, h2, h3, h5, h4⟩ := hb
      exact ⟨_, _, h4, h1, h2, h3, h5, rfl, rfl⟩

theorem pv_slice {t : TypeId} {x : Operand} {lo hi mx : Option Operand} (ho : o.op = .slice t x lo hi mx) (h : pstep P (.slice t x lo hi mx) fr K) : ∃ s, K s ∧ PV P o fr s := by
  simp only [pstep] at h
  split at h
  · rename_i ti l hh m ht hl hhi hm
    obtain ⟨i1, d1, hs1⟩ := ti_spec ht
    split at h
    · rename_i s hk hx
      have ed := tkOf_str (hk.symm.trans hs1.kind)
      obtain ⟨rfl, h⟩ := h
      obtain ⟨L, H, hK, hb⟩ := bnds_uniform h
      refine ⟨_, hK, fun R a w hf => ?_⟩
      have hc := ev_sound hf x
      rw [hx] at hc
      simp only [SRel, VRel, CRel] at hc
      have u1 := hs1.run_underlying w
      rw [ed] at u1
      obtain ⟨L', H', M, hrun, ⟨rfl, rfl⟩, h1, h2, h3, h4⟩ := bnds_sound (P := P) hf hl hhi (show optI fr none = some none from rfl) (Nat.le_refl _) false hb w
      have hmx : mx = none := by
        cases mx with
        | none => rfl
        | some y => simp only [optI] at hm; split at hm <;> simp at hm
      subst hmx
      simp only [Option.map_none] at hrun
      exact ⟨.string (s.extract L' H'), by simp [execOp, ho, hc, Instr.sliceAt, Instr.slice, u1, hrun], by simp [SRel, VRel, CRel]⟩
    · rename_i e p q n sz hk hx
      have ed := tkOf_slice (hk.symm.trans hs1.kind)
      split at h
      · rename_i ei hei
        obtain ⟨i2, d2, hs2⟩ := ti_spec hei
        obtain ⟨hsz, h⟩ := h
        obtain ⟨L, H, hK, hb⟩ := bnds_uniform h
        refine ⟨_, hK, fun R a w hf => ?_⟩
        have hc := ev_sound hf x
        rw [hx] at hc
        simp only [SRel, VRel, CRel] at hc
        obtain ⟨hp, b, c, e1, e2, e3⟩ := hc
        have u1 := hs1.run_underlying w
        rw [ed] at u1
        obtain ⟨L', H', M, hrun, ⟨rfl, rfl⟩, h1, h2, h3, h4⟩ := bnds_sound (P := P) hf hl hhi hm e2 true hb w
        refine ⟨.slice (if M = L' then b else b.map (·.add (L' * ei.size))) (H' - L') (M - L'), ?_, ?_⟩
        · simp only [execOp, ho, e1, Instr.sliceAt, Instr.slice, Sem.run_bind, u1, Result.andThen_ok, hrun, hs2.run_sizeOf w, Sem.run_pure]
        · simp only [SRel, VRel, CRel]
          refine ⟨hp, _, _, rfl, by omega, ?_⟩
          rcases e3 with ⟨rfl, e4⟩ | e3
          · by_cases hML : M = L'
            · right; omega
            · left
              rw [if_neg hML, Option.map_some, add_none, ← hsz]
              refine ⟨by rw [Nat.add_assoc], ?_⟩
              have : (L' + (M - L')) * sz ≤ c * sz := Nat.mul_le_mul_right _ (by omega)
              rw [Nat.add_mul] at this
              omega
          · right; omega
      · exact h.elim
    · rename_i e n cs hk hx
      have ed := tkOf_slice (hk.symm.trans hs1.kind)
      split at h
      · rename_i ei hei
        obtain ⟨i2, d2, hs2⟩ := ti_spec hei
        obtain ⟨L, H, hK, hb⟩ := bnds_uniform h
        refine ⟨_, hK, fun R a w hf => ?_⟩
        have hc := ev_sound hf x
        rw [hx] at hc
        simp only [SRel, VRel, CRel] at hc
        obtain ⟨b, c, e1, e2, e3, e4⟩ := hc
        have u1 := hs1.run_underlying w
        rw [ed] at u1
        obtain ⟨L', H', M, hrun, ⟨rfl, rfl⟩, h1, h2, h3, h4⟩ := bnds_sound (P := P) hf hl hhi hm e2 true hb w
        refine ⟨.slice (if M = L' then b else b.map (·.add (L' * ei.size))) (H' - L') (M - L'), ?_, ?_⟩
        · simp only [execOp, ho, e1, Instr.sliceAt, Instr.slice, Sem.run_bind, u1, Result.andThen_ok, hrun, hs2.run_sizeOf w, Sem.run_pure]
        · simp only [SRel, VRel, CRel]
          refine ⟨_, _, rfl, by omega, fun hn => ?_, fun y hy hne => ?_⟩
          · have : b = none := by
              split at hn
              · exact hn
              · simpa using hn
            have := e3 this
            omega
          · have hne' : cs ≠ [] := by rintro rfl; simp at hne
            have hML : ¬ M = L' := by
              intro e
              apply hne
              have : H' - L' = 0 := by omega
              simp [this]
            rw [if_neg hML] at hy
            cases b with
            | none => simp at hy
            | some b =>
              obtain ⟨f1, f2, f3⟩ := e4 b rfl hne'
              obtain ⟨bb, bo, bs⟩ := b
              simp only at f1 f2 f3
              subst f1
              simp only [Option.map_some, Option.some.injEq] at hy
              subst hy
              rw [add_none]
              exact ⟨rfl, f2, mrel_take _ (rop_drop _ f3)⟩
      · exact h.elim
    · rename_i e hk hx
      have ed := tkOf_slice (hk.symm.trans hs1.kind)
      split at h
      · rename_i ei hei
        obtain ⟨i2, d2, hs2⟩ := ti_spec hei
        obtain ⟨L, H, hK, hb⟩ := bnds_uniform h
        refine ⟨_, hK, fun R a w hf => ?_⟩
        have hc := ev_sound hf x
        rw [hx] at hc
        simp only [SRel, VRel, CRel] at hc
        have u1 := hs1.run_underlying w
        rw [ed] at u1
        obtain ⟨L', H', M, hrun, ⟨rfl, rfl⟩, h1, h2, h3, h4⟩ := bnds_sound (P := P) hf hl hhi hm (Nat.le_refl 0) true hb w
        refine ⟨.slice none 0 0, ?_, by simp [SRel, VRel, CRel]⟩
        have z1 : M = 0 := by omega
        have z2 : H' = 0 := by omega
        have z3 : L' = 0 := by omega
        subst z1; subst z2; subst z3
        simp [execOp, ho, hc, Instr.sliceAt, Instr.slice, u1, hrun, hs2.run_sizeOf w]
      · exact h.elim
    · rename_i n e cs hk hx
      have ed := tkOf_array (hk.symm.trans hs1.kind)
      split at h
      · rename_i ei hei
        obtain ⟨i2, d2, hs2⟩ := ti_spec hei
        obtain ⟨L, H, hK, hb⟩ := bnds_uniform h
        refine ⟨_, hK, fun R a w hf => ?_⟩
        have hc := ev_sound hf x
        rw [hx] at hc
        simp only [SRel, VRel, CRel] at hc
        obtain ⟨b, q, e1, hT, hM⟩ := hc
        have u1 := hs1.run_underlying w
        rw [ed] at u1
        obtain ⟨L', H', M, hrun, ⟨rfl, rfl⟩, h1, h2, h3, h4⟩ := bnds_sound (P := P) hf hl hhi hm (Nat.le_refl n) false hb w
        refine ⟨.slice (some (if M = L' then ⟨b, q, none⟩ else ⟨b, q + L' * ei.size, none⟩)) (H' - L') (M - L'), ?_, ?_⟩
        · simp [execOp, ho, e1, Instr.sliceAt, u1, Instr.sureAddr, hrun, hs2.run_sizeOf w, add_none]
        · simp only [SRel, VRel, CRel]
          refine ⟨_, _, rfl, by omega, by simp, fun y hy hne => ?_⟩
          have hML : ¬ M = L' := by
            intro e
            apply hne
            have : H' - L' = 0 := by omega
            simp [this]
          rw [if_neg hML] at hy
          obtain rfl := Option.some.inj hy
          exact ⟨rfl, hT, mrel_take _ (rop_drop _ hM)⟩
      · exact h.elim
    · exact h.elim
  · exact h.elim

theorem pv_call {c : Call} (ho : o.op = .call c) (h : pstep P (.call c) fr K) : ∃ s, K s ∧ PV P o fr s := by
  obtain ⟨callee, args, ats⟩ := c
  cases callee with
  | builtin b =>
    cases b
    case len =>
      simp only [pstep] at h
      split at h
      · rename_i x t hargs hats
        split at h
        · rename_i ti ht
          obtain ⟨i1, d1, hs1⟩ := ti_spec ht
          have ha : args = #[x] := by apply Array.ext'; simpa using hargs
          have hat : ats = #[t] := by apply Array.ext'; simpa using hats
          subst ha; subst hat
          split at h
          · rename_i s hk hx
            have ed := tkOf_str (hk.symm.trans hs1.kind)
            refine ⟨_, h, fun R a w hf => ?_⟩
            have hc := ev_sound hf x
            rw [hx] at hc
            simp only [SRel, VRel, CRel] at hc
            have u1 := hs1.run_underlying w
            rw [ed] at u1
            exact ⟨.int .i64 s.size, by simp [execOp, ho, resolve, invoke, builtin, Builtin.len_, hc, u1, goInt], by simp [SRel, VRel, CRel]⟩
          · rename_i e p q n sz hk hx
            have ed := tkOf_slice (hk.symm.trans hs1.kind)
            refine ⟨_, h, fun R a w hf => ?_⟩
            have hc := ev_sound hf x
            rw [hx] at hc
            simp only [SRel, VRel, CRel] at hc
            obtain ⟨hp, b, c, e1, e2, e3⟩ := hc
            have u1 := hs1.run_underlying w
            rw [ed] at u1
            exact ⟨.int .i64 n, by simp [execOp, ho, resolve, invoke, builtin, Builtin.len_, e1, u1, goInt], by simp [SRel, VRel, CRel]⟩
          · rename_i e n cs hk hx
            have ed := tkOf_slice (hk.symm.trans hs1.kind)
            refine ⟨_, h, fun R a w hf => ?_⟩
            have hc := ev_sound hf x
            rw [hx] at hc
            simp only [SRel, VRel, CRel] at hc
            obtain ⟨b, c, e1, e2, e3⟩ := hc
            have u1 := hs1.run_underlying w
            rw [ed] at u1
            exact ⟨.int .i64 n, by simp [execOp, ho, resolve, invoke, builtin, Builtin.len_, e1, u1, goInt], by simp [SRel, VRel, CRel]⟩
          · rename_i e hk hx
            have ed := tkOf_slice (hk.symm.trans hs1.kind)
            refine ⟨_, h, fun R a w hf => ?_⟩
            have hc := ev_sound hf x
            rw [hx] at hc
            simp only [SRel, VRel, CRel] at hc
            have u1 := hs1.run_underlying w
            rw [ed] at u1
            exact ⟨.int .i64 0, by simp [execOp, ho, resolve, invoke, builtin, Builtin.len_, hc, u1, goInt], by simp [SRel, VRel, CRel]⟩
          · rename_i n e hk
            have ed := tkOf_array (hk.symm.trans hs1.kind)
            refine ⟨_, h, fun R a w hf => ?_⟩
            have u1 := hs1.run_underlying w
            rw [ed] at u1
            exact ⟨.int .i64 n, by simp [execOp, ho, resolve, invoke, builtin, Builtin.len_, u1, goInt], by simp [SRel, VRel, CRel]⟩
          · exact h.elim
        · exact h.elim
      · exact h.elim
    case min =>
      simp only [pstep] at h
      split at h
      · rename_i x y hargs
        have ha : args = #[x, y] := by apply Array.ext'; simpa using hargs
        subst ha
        split at h
        · rename_i k c k' d hx hy
          refine ⟨_, h, fun R a w hf => ?_⟩
          have h1 := ev_sound hf x
          rw [hx] at h1
          have h2 := ev_sound hf y
          rw [hy] at h2
          simp only [SRel, VRel, CRel] at h1 h2
          exact ⟨.int k (if d < c then d else c), by simp [execOp, ho, resolve, invoke, builtin, Builtin.min_, Builtin.min2, h1, h2], by simp [SRel, VRel, CRel]⟩
        · exact h.elim
      · exact h.elim
    case max =>
      simp only [pstep] at h
      split at h
      · rename_i x y hargs
        have ha : args = #[x, y] := by apply Array.ext'; simpa using hargs
        subst ha
        split at h
        · rename_i k c k' d hx hy
          refine ⟨_, h, fun R a w hf => ?_⟩
          have h1 := ev_sound hf x
          rw [hx] at h1
          have h2 := ev_sound hf y
          rw [hy] at h2
          simp only [SRel, VRel, CRel] at h1 h2
          exact ⟨.int k (if d > c then d else c), by simp [execOp, ho, resolve, invoke, builtin, Builtin.max_, Builtin.max2, h1, h2], by simp [SRel, VRel, CRel]⟩
        · exact h.elim
      · exact h.elim
    all_goals exact h.elim
  | _ => exact h.elim

theorem pstep_sound (h : pstep P o.op fr K) : ∃ s, K s ∧ PV P o fr s := by
  cases ho : o.op <;> rw [ho] at h
  case move x => exact pv_move (.inl ho) h
  case assign x => exact pv_move (.inr ho) h
  case pick c x y => exact pv_pick ho h
  case nilCheck x => exact pv_nilCheck ho h
  case binOp op xt x y yt => exact pv_binOp ho h
  case unOp op xt x => exact pv_unOp ho h
  case convert s d x => exact pv_convert ho h
  case fieldAddr t x f => exact pv_fieldAddr ho h
  case field t x f => exact pv_field ho h
  case indexAddr t x ix => exact pv_indexAddr ho h
  case index t x ix => exact pv_index ho h
  case extract x i => exact pv_extract ho h
  case makeFunc fn f c => exact pv_makeFunc ho h
  case sliceToArrayPointer t x => exact pv_s2ap ho h
  case slice t x lo hi mx => exact pv_slice ho h
  case call c => exact pv_call ho h
  all_goals exact h.elim
end
end Go.Abs
