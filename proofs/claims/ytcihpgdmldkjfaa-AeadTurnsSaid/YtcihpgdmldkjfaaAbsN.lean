/- The abstract machine: append and copy. -/
import Derived.Test.YtcihpgdmldkjfaaAbsM
namespace Go.Abs
open Go

theorem HRel.kill {E : Env} {ρ : Nat → Place} {w : World} {H : Heap} (h : HRel E ρ w H) (p : Nat) : HRel E ρ w (H.set p none) := by
  have hget : ∀ (q : Nat) cs, (H.set p none)[q]? = some (some cs) → H[q]? = some (some cs) := by
    intro q cs hq
    rw [List.getElem?_set] at hq
    by_cases hqp : p = q
    · subst hqp
      rw [if_pos rfl] at hq
      split at hq <;> simp at hq
    · rwa [if_neg hqp] at hq
  refine ⟨h.os, h.tape, h.output, h.size, h.frame, fun q cs hq hr => h.fresh q cs (hget q cs hq) hr, fun q r cs ds hq hr h1 h2 he => h.inj q r cs ds (hget q cs hq) (hget r ds hr) h1 h2 he, fun q cs hq hr => ?_, fun q cs hq hr => h.emp q cs (hget q cs hq) hr⟩
  rw [List.length_set]
  exact h.blk q cs (hget q cs hq) hr

/-- A block is written on and goes on under another number. -/
theorem HRel.move {E : Env} {ρ : Nat → Place} {w w' : World} {H : Heap} (h : HRel E ρ w H) {p : Nat} {cs ds : List Cell} (hp : H[p]? = some (some cs)) (hr : (ρ p).room ≠ 0)
    {arr : Array Value} {el : TypeId} {fr : Nat × Nat} {dl : Nat}
    (h1 : w' = withBlock w (ρ p).blk (.cells arr el fr)) (hsz : arr.size = (ρ p).room) (hfr : Fz fr arr.size) (hlen : dl + ds.length ≤ (ρ p).room)
    (hcs : ∀ (i : Nat) c, ds[i]? = some c → ∃ v, arr[dl + i]? = some v ∧ v.oneCell' = true ∧ CRel (E.rl (H.length + 1) (upd ρ H.length ⟨(ρ p).blk, dl, (ρ p).room⟩)) c v) :
    HRel E (upd ρ H.length ⟨(ρ p).blk, dl, (ρ p).room⟩) w' (H.set p none ++ [some ds]) := by
  subst h1
  have hlt := h.lt hp hr
  have hpl : p < H.length := (List.getElem?_eq_some_iff.1 hp).1
  have hle := rl_le_upd E ρ H.length H.length ⟨(ρ p).blk, dl, (ρ p).room⟩ (Nat.le_refl _)
  have hget : ∀ (q : Nat) es, (H.set p none ++ [some ds])[q]? = some (some es) → (q ≠ p ∧ q < H.length ∧ H[q]? = some (some es)) ∨ (q = H.length ∧ es = ds) := by
    intro q es hq
    rcases Nat.lt_or_ge q H.length with hlt' | hge
    · rw [List.getElem?_append_left (by simpa using hlt'), List.getElem?_set] at hq
      by_cases hqp : p = q
      · subst hqp
        rw [if_pos rfl, if_pos hpl] at hq
        simp at hq
      · rw [if_neg hqp] at hq
        exact .inl ⟨fun e => hqp e.symm, hlt', hq⟩
    · rw [List.getElem?_append_right (by simpa using hge)] at hq
      rcases Nat.eq_or_lt_of_le hge with he | hgt
      · subst he; simp at hq; exact .inr ⟨rfl, hq.symm⟩
      · rw [List.getElem?_eq_none (by simp; omega)] at hq; simp at hq
  have hu : ∀ q, q < H.length → upd ρ H.length ⟨(ρ p).blk, dl, (ρ p).room⟩ q = ρ q := upd_old
  have hn : upd ρ H.length ⟨(ρ p).blk, dl, (ρ p).room⟩ H.length = ⟨(ρ p).blk, dl, (ρ p).room⟩ := upd_new
  have hother : ∀ b, b ≠ (ρ p).blk → (withBlock w (ρ p).blk (.cells arr el fr)).heap[b]? = w.heap[b]? := fun b hb => by
    simp only [withBlock]; rw [Array.getElem?_setIfInBounds_ne (fun e => hb e.symm)]
  refine ⟨h.os, h.tape, h.output, by simpa [withBlock] using h.size, fun b k1 k2 => ?_, fun q es hq hrq => ?_, fun q r es fs hq hrr h5 h6 he => ?_, fun q es hq hrq => ?_, fun q es hq hrq => ?_⟩
  · rw [hother b (fun e => ?_)]
    · exact h.frame b k1 k2
    · subst e
      rcases h.fresh p cs hp hr with h5 | h5
      · exact k2 h5
      · omega
  · rcases hget q es hq with ⟨hne, hql, k⟩ | ⟨rfl, rfl⟩
    · rw [hu q hql] at hrq ⊢; exact h.fresh q es k hrq
    · rw [hn]; exact h.fresh p cs hp hr
  · rcases hget q es hq with ⟨hne, hql, k⟩ | ⟨rfl, rfl⟩
    · rw [hu q hql] at h5
      rcases hget r fs hrr with ⟨hne', hrl, k'⟩ | ⟨rfl, rfl⟩
      · rw [hu r hrl] at h6
        rw [hu q hql, hu r hrl] at he; exact h.inj q r es fs k k' h5 h6 he
      · rw [hu q hql, hn] at he
        exact absurd (h.inj q p es cs k hp h5 hr he) hne
    · rcases hget r fs hrr with ⟨hne', hrl, k'⟩ | ⟨h7, h8⟩
      · rw [hu r hrl] at h6
        rw [hu r hrl, hn] at he
        exact absurd (h.inj r p fs cs k' hp h6 hr he.symm) hne'
      · exact h7.symm
  · rcases hget q es hq with ⟨hne, hql, k⟩ | ⟨rfl, rfl⟩
    · rw [hu q hql] at hrq ⊢
      refine (h.blk q es k hrq).mono ?_ (hother _ fun e => hne (h.inj q p es cs k hp hrq hr e))
      simpa using hle
    · rw [hn]
      exact ⟨arr, el, fr, withBlock_get _ _ _ hlt, hsz, hfr, hlen, fun i c hi => by simpa using hcs i c hi⟩
  · rcases hget q es hq with ⟨hne, hql, k⟩ | ⟨rfl, rfl⟩
    · rw [hu q hql] at hrq; exact h.emp q es k hrq
    · rw [hn] at hrq; exact absurd hrq hr

section
variable {P : Program} {fr : List S} {H : Heap} {K : S → Heap → Prop} {o : Oper}

theorem elems_sound {esz : Nat} {s : S} {KK : Nat → List Cell → Prop} (h : elems H esz s KK) : ∃ n cs, KK n cs ∧ elems H esz s (fun n' cs' => n' = n ∧ cs' = cs) ∧ cs.length = n * esz ∧
    ∀ (E : Env) (ρ : Nat → Place) (w : World) (v : Value), E.Ok → HRel E ρ w H → SRel (E.rl H.length ρ) s v →
      (Builtin.lenOf v).run P w = .ok n w ∧ ∀ m, m ≤ n → ∃ vs, (Builtin.firstCells esz m v).run P w = .ok vs w ∧ LRel (E.rl H.length ρ) (cs.take (m * esz)) vs.toList := by
  unfold elems at h
  split at h
  · refine ⟨0, [], h, ⟨rfl, rfl⟩, by simp, fun E ρ w v hE hh hv => ?_⟩
    simp only [SRel, VRel, CRel] at hv
    subst hv
    refine ⟨rfl, fun m hm => ⟨#[], rfl, by simp [LRel]⟩⟩
  · rename_i s
    obtain ⟨rfl, h⟩ := h
    refine ⟨_, _, h, ⟨rfl, rfl, rfl⟩, by simp [mapc], fun E ρ w v hE hh hv => ?_⟩
    simp only [SRel, VRel, CRel] at hv
    subst hv
    refine ⟨rfl, fun m hm => ⟨_, rfl, ?_⟩⟩
    have e : ((s.extract 0 m).data.map fun b => Value.int .u8 b.toNat).toList = (s.data.toList.take m).map fun b => Value.int .u8 b.toNat := by
      simp [ByteArray.data_extract]
    rw [e]
    have e2 : (u8s s.data.toList).take (m * 1) = u8s (s.data.toList.take m) := by simp [mapc]
    rw [e2]
    exact lrel_u8s _
  · rename_i n cs
    obtain ⟨hl, h⟩ := h
    refine ⟨_, _, h, ⟨hl, rfl, rfl⟩, hl, fun E ρ w v hE hh hv => ?_⟩
    rcases ro_cells (P := P) hE hh hl hv with ⟨rfl, a, c, rfl⟩ | ⟨b, o', c, vs, rfl, hrun, hlr, _⟩
    · refine ⟨rfl, fun m hm => ⟨#[], ?_, by simp [LRel]⟩⟩
      have h0 : m * esz = 0 := by
        have h1 : m * esz ≤ n * esz := Nat.mul_le_mul_right _ hm
        have h2 : n * esz = 0 := by rw [← hl]; rfl
        omega
      cases a with
      | none => rfl
      | some a => simp only [Builtin.firstCells, h0]; rfl
    · refine ⟨rfl, fun m hm => ?_⟩
      have hle : m * esz ≤ cs.length := by rw [hl]; exact Nat.mul_le_mul_right _ hm
      by_cases h0 : cs.length = 0
      · have hm0 : m * esz = 0 := by omega
        refine ⟨#[], by simp only [Builtin.firstCells, hm0]; rfl, ?_⟩
        rw [hm0]; simp [LRel]
      · -- a part of what lies there
        simp only [SRel, VRel, CRel] at hv
        obtain ⟨a, c', e1, e2, e3, e4⟩ := hv
        injection e1 with e1 _ _
        subst e1
        obtain ⟨f1, hT, hM⟩ := e4 _ rfl (by intro e; rw [e] at h0; exact h0 rfl)
        have hb : w.heap[b]? = E.w0.heap[b]? := hh.frame b (hE.old b hT) (hE.apart b hT)
        have hpos : 0 < cs.length := by omega
        obtain ⟨arr, el, f, v0, g1, g2, g3, g4⟩ := hM.get (List.getElem?_eq_getElem hpos)
        have hg1 : E.w0.heap[b]? = some (.cells arr el f) := g1
        have hall : ∀ (i : Nat) c, cs[i]? = some c → ∃ v, arr[o' + i]? = some v ∧ v.oneCell' = true ∧ CRel (E.rl H.length ρ) c v := fun i c hi => by
          obtain ⟨arr', el', f', v, k1, k2, k3, k4⟩ := hM.get hi
          have hk1 : E.w0.heap[b]? = some (.cells arr' el' f') := k1
          rw [hg1] at hk1
          injection hk1 with hk1
          injection hk1 with e _ _
          subst e
          exact ⟨v, k2, k3, k4⟩
        have hsz : o' + cs.length ≤ arr.size := by
          obtain ⟨v, k1, _, _⟩ := hall (cs.length - 1) _ (List.getElem?_eq_getElem (by omega))
          have := (Array.getElem?_eq_some_iff.1 k1).1
          omega
        refine ⟨_, by simp only [Builtin.firstCells]; exact run_loadCells P (m * esz) w b o' arr el f (hb.trans hg1) (by omega), LRel.of_get (by simp; omega) fun i c hi => ?_⟩
        rw [List.getElem?_take] at hi
        split at hi
        · rename_i hlt
          obtain ⟨v, k1, k2, k3⟩ := hall i c hi
          refine ⟨v, ?_, k2, k3⟩
          rw [Array.toList_extract, List.extract_eq_take_drop, List.getElem?_take, if_pos (by omega), List.getElem?_drop]
          simpa using k1
        · simp at hi
  · rename_i p q n sz
    split at h
    · rename_i cs hp
      obtain ⟨rfl, hle, h⟩ := h
      refine ⟨_, _, h, by simp [elems, hp, hle], by simp; omega, fun E ρ w v hE hh hv => ?_⟩
      have hv' : CRel (E.rl H.length ρ) (.slc p q n sz) v := hv
      have hlen : (Builtin.lenOf v).run P w = .ok n w := by
        simp only [CRel] at hv'
        obtain ⟨_, a, c, rfl, _⟩ := hv'
        rfl
      refine ⟨hlen, fun m hm => ?_⟩
      have hmn : m * sz ≤ n * sz := Nat.mul_le_mul_right _ hm
      rw [List.take_take, Nat.min_eq_left hmn]
      simp only [CRel] at hv'
      obtain ⟨hpn, a, c, rfl, h1, h2⟩ := hv'
      by_cases h0 : m * sz = 0
      · refine ⟨#[], ?_, by rw [h0]; simp [LRel]⟩
        cases a with
        | none => rfl
        | some a => simp only [Builtin.firstCells, h0]; rfl
      · rcases h2 with ⟨rfl, h2⟩ | h2
        · obtain ⟨hr, arr, el, f, b1, b2, b3, b4, b5⟩ := brel_of hh hp (by omega)
          refine ⟨_, by simp only [Builtin.firstCells]; exact run_loadCells P (m * sz) w (ρ p).blk ((ρ p).dl + q) arr el f b1 (by omega), LRel.of_get (by simp; omega) fun i c hi => ?_⟩
          rw [List.getElem?_take] at hi
          split at hi
          · rename_i hlt
            rw [List.getElem?_drop] at hi
            obtain ⟨v, g1, g2, g3⟩ := b5 _ _ hi
            refine ⟨v, ?_, g2, g3⟩
            rw [Array.toList_extract, List.extract_eq_take_drop, List.getElem?_take, if_pos (by omega), List.getElem?_drop]
            rw [← Nat.add_assoc] at g1
            simpa using g1
          · simp at hi
        · exfalso
          have : m = 0 := by omega
          subst this
          simp at h0
    · exact h.elim
  · exact h.elim

theorem nextslicecap_le (need c : Nat) (h : c < need) : Builtin.nextslicecap need c ≤ 2 * need + 192 := by
  unfold Builtin.nextslicecap
  split
  · omega
  · split
    · omega
    · have key : ∀ (r c : Nat), c ≤ 2 * need + 192 → c < need ∨ need ≤ c → Builtin.growBy need r c ≤ 2 * need + 192 := by
        intro r
        induction r with
        | zero => intro c hc _; exact hc
        | succ r ih =>
          intro c hc _
          rw [Builtin.growBy]
          split
          · exact hc
          · exact ih _ (by omega) (by omega)
      exact key 4 c (by omega) (by omega)

theorem len_eq {s : S} {n : Nat} {esz : Nat} {cs : List Cell} (h : elems H esz s (fun n' cs' => n' = n ∧ cs' = cs)) : (∀ p q m sz, s = .v (.c (.slc p q m sz)) → m = n ∧ sz = esz ∧ ∃ ds, H[p]? = some (some ds) ∧ q + n * esz ≤ ds.length ∧ cs = (ds.drop q).take (n * esz)) ∧ (s = .v (.c .nils) → n = 0 ∧ cs = []) := by
  constructor
  · rintro p q m sz rfl
    simp only [elems] at h
    split at h
    · rename_i ds hp
      obtain ⟨rfl, h1, rfl, rfl⟩ := h
      exact ⟨rfl, rfl, ds, hp, h1, rfl⟩
    · exact h.elim
  · rintro rfl
    simp only [elems] at h
    exact ⟨h.1.symm, h.2.symm⟩

def notInt : TypeDesc → Bool | .int _ => false | _ => true
theorem run_append_fit {P : Program} {t t' e ty n m cap sz : Nat} {base : Option Addr} {x : Value} {vn : Array Value} {w : World} {d : TypeDesc} (u1 : (underlying t).run P w = .ok (.slice e) w) (u2 : (underlying t').run P w = .ok d w) (hd : notInt d = true)
  (hsz : (sizeOf e).run P w = .ok sz w) (hl : (Builtin.lenOf x).run P w = .ok m w) (hf : (Builtin.firstCells sz m x).run P w = .ok vn w) (hfit : n + m ≤ cap) :
  (Builtin.append_ #[t, t'] ty #[.slice base n cap, x]).run P w = ((match base with | some a => storeCells (a.add (n*sz)) vn.toList | none => pure () : Sem Unit).run P w).andThen (fun _ w' => .ok (.slice base (n+m) cap) w') := by
  have e0 : #[t, t'][0]? = some t := rfl
  have e1 : #[t, t'][1]? = some t' := rfl
  have e2 : #[Value.slice base n cap, x][0]? = some (.slice base n cap) := rfl
  have e3 : #[Value.slice base n cap, x][1]? = some x := rfl
  unfold Builtin.append_
  simp only [e0, e1, e2, e3, Sem.run_bind, u1, Result.andThen_ok, hsz, u2, Sem.run_pure]
  cases d <;> simp only [notInt] at hd <;> first | (cases hd; done) | skip
  all_goals
    simp only [Bool.false_eq_true, if_false, Sem.run_bind, hl, Result.andThen_ok, if_pos hfit, Bool.not_false, if_true, hf]
    cases base <;> simp
theorem run_append_grow {P : Program} {t t' e ty n m cap sz : Nat} {base : Option Addr} {x zv : Value} {vo vn : Array Value} {w : World} {d : TypeDesc} {ei : TypeInfo} (u1 : (underlying t).run P w = .ok (.slice e) w) (u2 : (underlying t').run P w = .ok d w) (hd : notInt d = true)
  (hsz : ∀ w, (sizeOf e).run P w = .ok sz w) (hl : (Builtin.lenOf x).run P w = .ok m w) (hf : (Builtin.firstCells sz m x).run P { w with drawn := w.drawn + 1 } = .ok vn { w with drawn := w.drawn + 1 }) (hf0 : (Builtin.firstCells sz n (.slice base n cap)).run P { w with drawn := w.drawn + 1 } = .ok vo { w with drawn := w.drawn + 1 })
  (hti : ∀ w, (typeInfo e).run P w = .ok ei w) (hz : ∀ w, (zeroValue e).run P w = .ok zv w) (hb : 0 < ei.bytes)
  (hfit : ¬ n + m ≤ cap) (hroom : Builtin.nextslicecap (n + m) cap * ei.bytes ≤ 2 ^ 48) :
  ∃ c, n + m ≤ c ∧ (Builtin.append_ #[t, t'] ty #[.slice base n cap, x]).run P w = .ok (.slice (some ⟨w.heap.size, 0, none⟩) (n + m) c) { w with drawn := w.drawn + 1, heap := w.heap.push (.cells (vo ++ vn ++ Builtin.zeroCells zv.cells (c - (n + m))) e) } := by
  have e0 : #[t, t'][0]? = some t := rfl
  have e1 : #[t, t'][1]? = some t' := rfl
  have e2 : #[Value.slice base n cap, x][0]? = some (.slice base n cap) := rfl
  have e3 : #[Value.slice base n cap, x][1]? = some x := rfl
  refine ⟨(Question.appendCap (n + m) cap e).cut (w.tape w.drawn (.appendCap (n + m) cap e)), by simp [Question.cut], ?_⟩
  unfold Builtin.append_
  simp only [e0, e1, e2, e3, Sem.run_bind, u1, Result.andThen_ok, hsz, u2, Sem.run_pure]
  cases d <;> simp only [notInt] at hd <;> first | (cases hd; done) | skip
  all_goals
    simp only [Bool.false_eq_true, if_false, Sem.run_bind, hl, Result.andThen_ok, if_neg hfit, Bool.not_false, if_true, hti]
    rw [if_neg (by simp; omega)]
    simp only [Sem.run_bind, hti, Result.andThen_ok]
    rw [if_neg (by omega)]
    simp only [Sem.run_bind, run_choose, Question.forced, Bool.false_eq_true, if_false, Result.andThen_ok, hti, run_askRoom, hf, hf0, hz, newRow, run_newObj, Sem.run_pure]
theorem og_append {args : Array Operand} {ats : Array TypeId} (ho : o.op = .call ⟨.builtin .append, args, ats⟩) (h : ostep P o fr H K) : ∃ s H', OpG P o fr H s H' ∧ K s H' := by
  simp only [ostep, ho] at h
  split at h
  · rename_i s x t t' hargs hats
    have ha : args = #[s, x] := by apply Array.ext'; simpa using hargs
    have hat : ats = #[t, t'] := by apply Array.ext'; simpa using hats
    subst ha; subst hat
    split at h
    · rename_i ti ti' ht ht'
      obtain ⟨i1, d1, hs1⟩ := ti_spec ht
      obtain ⟨i1', d1', hs1'⟩ := ti_spec ht'
      split at h
      · exact h.elim
      · rename_i e hk hnint
        have ed := tkOf_slice (hk.symm.trans hs1.kind)
        split at h
        · rename_i ei hei
          obtain ⟨i2, d2, hs2⟩ := ti_spec hei
          split at h
          · rename_i z hz
            obtain ⟨hby, hsz, hzl, h⟩ := h
            obtain ⟨n, cs, h, hes, hcl, hsnd⟩ := elems_sound (P := P) h
            obtain ⟨m, ds, h, hex, hdl, hxnd⟩ := elems_sound (P := P) h
            obtain ⟨hroom, hmax, h⟩ := h
            have hfin : (∃ p q sz, ev fr s = .v (.c (.slc p q n sz)) ∧ sz = ei.size ∧ ∃ bs, H[p]? = some (some bs) ∧ q + n * ei.size ≤ bs.length ∧ cs = (bs.drop q).take (n * ei.size)) ∨ (ev fr s = .v (.c .nils) ∧ n = 0 ∧ cs = []) := by
              split at h
              · rename_i p q n' sz hx
                obtain ⟨e1, e2, bs, e3, e4, e5⟩ := (len_eq hes).1 p q n' sz hx
                subst e1
                exact .inl ⟨p, q, sz, hx, e2, bs, e3, e4, e5⟩
              · rename_i hx
                exact .inr ⟨hx, (len_eq hes).2 hx⟩
              · exact h.elim
            have hK : K (sc (.slc H.length 0 (n + m) ei.size)) (Abs.kill H (ev fr s) ++ [some (cs ++ ds)]) := by
              rcases hfin with ⟨p, q, sz, hx, _⟩ | ⟨hx, _⟩ <;> · rw [hx] at h ⊢; exact h
            refine ⟨_, _, opg_run (by rcases hfin with ⟨p, q, sz, hx, _⟩ | ⟨hx, _⟩ <;> rw [hx] <;> simp [Abs.kill]) fun E ρ a w hE hs => ?_, hK⟩
            have hcs := ev_sound hs.fr s
            have hcx := ev_sound hs.fr x
            obtain ⟨hl1, hf1⟩ := hsnd E ρ w (a.eval s) hE hs.heap hcs
            obtain ⟨hl2, hf2⟩ := hxnd E ρ w (a.eval x) hE hs.heap hcx
            obtain ⟨vo, hro, hlo⟩ := hf1 n (Nat.le_refl _)
            obtain ⟨vn, hrn, hln⟩ := hf2 m (Nat.le_refl _)
            rw [← hcl, List.take_length] at hlo
            rw [← hdl, List.take_length] at hln
            have hcat : LRel (E.rl H.length ρ) (cs ++ ds) (vo.toList ++ vn.toList) := by
              have l1 := hlo.length
              have l2 := hln.length
              refine LRel.of_get (by simp [l1, l2]) fun i c hi => ?_
              by_cases hlt : i < cs.length
              · rw [List.getElem?_append_left hlt] at hi
                rw [List.getElem?_append_left (by omega)]
                exact hlo.get hi
              · rw [List.getElem?_append_right (by omega)] at hi
                rw [List.getElem?_append_right (by omega), l1]
                exact hln.get hi
            have u1 : ∀ w, (underlying t).run P w = .ok (.slice e) w := fun w => by have := hs1.run_underlying w; rwa [ed] at this
            have u2 : ∀ w, (do pure ((← underlying t') matches .int _) : Sem Bool).run P w = .ok false w := fun w => by
              have := hs1'.run_underlying w
              rw [Sem.run_bind, this]
              simp only [Result.andThen_ok, Sem.run_pure]
              cases hd : d1' with
              | int k => exfalso; rw [hd] at hs1'; exact hnint k (by rw [hs1'.kind]; rfl)
              | _ => rfl
            obtain ⟨base, cap, hev, hcap⟩ : ∃ base cap, a.eval s = .slice base n cap ∧ n ≤ cap := by
              rcases hfin with ⟨p, q, sz, hx, _⟩ | ⟨hx, rfl, _⟩
              · rw [hx] at hcs
                simp only [SRel, VRel, CRel] at hcs
                obtain ⟨_, b, c, e, e', _⟩ := hcs
                exact ⟨b, c, e, e'⟩
              · rw [hx] at hcs
                simp only [SRel, VRel, CRel] at hcs
                exact ⟨none, 0, hcs, Nat.le_refl _⟩
            have hb : i2.bytes = ei.bytes := hs2.bytes.symm
            have hkl : (Abs.kill H (ev fr s)).length = H.length := by rcases hfin with ⟨p, q, sz, hx, _⟩ | ⟨hx, _⟩ <;> rw [hx] <;> simp [Abs.kill]
            have hkr : HRel E ρ w (Abs.kill H (ev fr s)) := by
              rcases hfin with ⟨p, q, sz, hx, _⟩ | ⟨hx, _⟩ <;> rw [hx]
              · exact hs.heap.kill p
              · exact hs.heap
            have lo := hlo.length
            have ln := hln.length
            simp at lo ln
            have hnd : notInt d1' = true := by
              cases hd : d1' with
              | int k => exfalso; rw [hd] at hs1'; exact hnint k (by rw [hs1'.kind]; rfl)
              | _ => rfl
            have hmap : (#[s, x] : Array Operand).map a.eval = #[.slice base n cap, a.eval x] := by simp [hev]
            have hexec : ∀ r w', (Builtin.append_ #[t, t'] o.type #[.slice base n cap, a.eval x]).run P w = .ok r w' → (execOp a.eval o).run P w = .ok (.value r) w' := fun r w' hr => by
              simp only [execOp, ho, resolve, invoke, builtin, hmap, Sem.run_bind, Sem.run_pure, Result.andThen_ok, hr]
            by_cases hfit : n + m ≤ cap
            · -- there is room
              have hrun := run_append_fit (ty := o.type) (n := n) (base := base) (x := a.eval x) (u1 w) (hs1'.run_underlying w) hnd (hs2.run_sizeOf w) hl2 hrn hfit
              by_cases hc0 : cap = 0
              · have hn0 : n = 0 := by omega
                have hm0 : m = 0 := by omega
                subst hn0; subst hm0; subst hc0
                have hvn : vn = #[] := by apply Array.eq_empty_of_size_eq_zero; omega
                subst hvn
                have he : cs ++ ds = [] := by
                  apply List.eq_nil_of_length_eq_zero
                  simp [hcl, hdl]
                refine ⟨.slice base 0 0, w, upd ρ H.length ⟨0, 0, 0⟩, .inl (hexec _ _ (hrun.trans ?_)), upd_old, ?_, ?_⟩
                · cases base <;> rfl
                · rw [he, ← hkl]
                  exact hkr.pushEmp (w' := w) rfl rfl rfl rfl
                · simp only [SRel, VRel, CRel]
                  refine ⟨by simp [Env.rl, hkl], base, 0, rfl, by omega, .inr rfl⟩
              · rcases hfin with ⟨p, q, sz, hx, rfl, bs, hp, hle, hcs'⟩ | ⟨hx, rfl, _⟩
                · rw [hx] at hcs
                  simp only [SRel, VRel, CRel] at hcs
                  obtain ⟨hpn, b, c, e1, e2, e3⟩ := hcs
                  rw [hev] at e1
                  injection e1 with e1 _ e4
                  subst e1; subst e4
                  rcases e3 with ⟨rfl, e3⟩ | e3
                  · have e3' : (ρ p).dl + q + cap * ei.size ≤ (ρ p).room := e3
                    have hpos : 0 < cap * ei.size := Nat.mul_pos (by omega) hsz
                    have hr : (ρ p).room ≠ 0 := by omega
                    obtain ⟨arr, el, f, b1, b2, b3, b4, b5⟩ := hs.heap.blk p bs hp hr
                    have hmul : (n + m) * ei.size ≤ cap * ei.size := Nat.mul_le_mul_right _ hfit
                    rw [Nat.add_mul] at hmul
                    have hst := run_storeCells P vn.toList w (ρ p).blk ((ρ p).dl + q + n * ei.size) 0 arr el f b1 b3.no (by simp; omega) hln.one
                    refine ⟨.slice (some ⟨(ρ p).blk, (ρ p).dl + q, none⟩) (n + m) cap, withBlock w (ρ p).blk (.cells (wrA arr ((ρ p).dl + q + n * ei.size + 0) vn.toList) el f), upd ρ H.length ⟨(ρ p).blk, (ρ p).dl + q, (ρ p).room⟩, .inl (hexec _ _ (hrun.trans ?_)), upd_old, ?_, ?_⟩
                    · show ((storeCells ((⟨(ρ p).blk, (ρ p).dl + q, none⟩ : Addr).add (n * ei.size)) vn.toList).run P w).andThen _ = _
                      rw [add_none, hst]
                      rfl
                    · rw [hx]
                      refine hs.heap.move hp hr rfl (by rw [wrA_size]; exact b2) (by rw [wrA_size]; exact b3) (by simp [hcl, hdl]; omega) fun i c hi => ?_
                      rw [wrA_get _ _ _ _ (by simp; omega)]
                      have hmono := rl_le_upd E ρ H.length H.length ⟨(ρ p).blk, (ρ p).dl + q, (ρ p).room⟩ (Nat.le_refl _)
                      by_cases hlt : i < cs.length
                      · rw [List.getElem?_append_left hlt] at hi
                        rw [if_neg (by omega)]
                        rw [hcs', List.getElem?_take, if_pos (by omega), List.getElem?_drop] at hi
                        obtain ⟨v, g1, g2, g3⟩ := b5 _ _ hi
                        exact ⟨v, by rw [← Nat.add_assoc] at g1; exact g1, g2, g3.mono hmono⟩
                      · rw [List.getElem?_append_right (by omega)] at hi
                        have hi2 := (List.getElem?_eq_some_iff.1 hi).1
                        rw [if_pos (by simp; omega)]
                        obtain ⟨v, g1, g2, g3⟩ := hln.get hi
                        refine ⟨v, ?_, g2, g3.mono hmono⟩
                        rw [show (ρ p).dl + q + i - ((ρ p).dl + q + n * ei.size + 0) = i - cs.length by omega]
                        exact g1
                    · simp only [SRel, VRel, CRel]
                      refine ⟨by simp [Env.rl, hkl], _, cap, rfl, by omega, .inl ?_⟩
                      simp only [Env.rl, upd_new]
                      exact ⟨by simp, by omega⟩
                  · exact absurd e3 hc0
                · rw [hx] at hcs
                  simp only [SRel, VRel, CRel] at hcs
                  rw [hev] at hcs
                  injection hcs with _ _ e
                  exact absurd e hc0
            · -- a new row
              have hh' : HRel E ρ { w with drawn := w.drawn + 1 } H := hs.heap.drew _
              obtain ⟨_, hf1'⟩ := hsnd E ρ _ (a.eval s) hE hh' (ev_sound hs.fr s)
              obtain ⟨_, hf2'⟩ := hxnd E ρ _ (a.eval x) hE hh' hcx
              obtain ⟨vo', hro', hlo'⟩ := hf1' n (Nat.le_refl _)
              obtain ⟨vn', hrn', hln'⟩ := hf2' m (Nat.le_refl _)
              rw [← hcl, List.take_length] at hlo'
              rw [← hdl, List.take_length] at hln'
              rw [hev] at hro'
              obtain ⟨zv, z1, z2, z3⟩ := hs2.run_zero hz w
              have hzall : ∀ w, (zeroValue e).run P w = .ok zv w := fun w' => by
                obtain ⟨zv', y1, _, _⟩ := hs2.run_zero hz w'
                have hzi : i2.zero = some zv := by
                  simp only [zeroValue, Sem.run_bind, hs2.run_typeInfo, Result.andThen_ok] at z1
                  cases hiz : i2.zero with
                  | none => rw [hiz] at z1; simp at z1
                  | some v => rw [hiz] at z1; simp at z1; rw [z1]
                simp [zeroValue, hs2.run_typeInfo, hzi]
              have hns := nextslicecap_le (n + m) cap (by omega)
              have hroom' : Builtin.nextslicecap (n + m) cap * i2.bytes ≤ 2 ^ 48 := by
                rw [hb]
                exact Nat.le_trans (Nat.mul_le_mul_right _ hns) (by omega)
              obtain ⟨c, hc1, hrun⟩ := run_append_grow (ty := o.type) (n := n) (base := base) (x := a.eval x) (cap := cap) (u1 w) (hs1'.run_underlying w) hnd (fun w => hs2.run_sizeOf w) hl2 hrn' hro' (fun w => hs2.run_typeInfo w) hzall (by omega) hfit hroom'
              have lo' := hlo'.length
              have ln' := hln'.length
              simp at lo' ln'
              have hzc : zv.cells.size = ei.size := by rw [← hzl, z3]; simp
              generalize harr : vo' ++ vn' ++ Builtin.zeroCells zv.cells (c - (n + m)) = arr at hrun
              have hasz : arr.size = c * ei.size := by
                rw [← harr]
                simp only [Array.size_append, Builtin.zeroCells, Array.size_map, Array.size_range, hzc]
                rw [lo', ln', hcl, hdl, ← Nat.add_mul, ← Nat.add_mul]
                congr 1
                omega
              refine ⟨_, _, upd ρ H.length ⟨w.heap.size, 0, arr.size⟩, .inl (hexec _ _ hrun), upd_old, ?_, ?_⟩
              · have hpush := (hkr.drew (w.drawn + 1)).push (w' := { w with drawn := w.drawn + 1, heap := w.heap.push (.cells arr e) }) (arr := arr) (el := e) (fr := (0, 0)) (cs := cs ++ ds) rfl rfl rfl rfl (.inl rfl)
                  (by rw [hasz]; simp [hcl, hdl]; rw [← Nat.add_mul]; exact Nat.mul_le_mul_right _ hc1) (fun i c hi => by
                    have hmono := rl_le_upd E ρ H.length H.length ⟨w.heap.size, 0, arr.size⟩ (Nat.le_refl _)
                    rw [hkl]
                    by_cases hlt : i < cs.length
                    · rw [List.getElem?_append_left hlt] at hi
                      obtain ⟨v, g1, g2, g3⟩ := hlo'.get hi
                      refine ⟨v, ?_, g2, g3.mono hmono⟩
                      rw [← harr, Array.append_assoc, Array.getElem?_append_left (by omega)]
                      simpa using g1
                    · rw [List.getElem?_append_right (by omega)] at hi
                      have hi2 := (List.getElem?_eq_some_iff.1 hi).1
                      obtain ⟨v, g1, g2, g3⟩ := hln'.get hi
                      refine ⟨v, ?_, g2, g3.mono hmono⟩
                      rw [← harr, Array.append_assoc, Array.getElem?_append_right (by omega), Array.getElem?_append_left (by omega), lo']
                      simpa using g1)
                rw [hkl] at hpush
                exact hpush
              · rw [List.length_append, hkl]
                exact slc_new hc1 (by omega)
          · exact h.elim
        · exact h.elim
      · exact h.elim
    · exact h.elim
  · exact h.elim
end
end Go.Abs
