/- Texts that the proof stands on, put together: the abstract machine, and what functions do over it. -/
import Derived.Test.YtlidpcjinillfaaOutLowb
import Derived.Laws.Externs
import Derived.KernelRfl
import Derived.Test.YtlidpcjinillfaaProg
/- The abstract machine: an empty slice as a block of its own; memory looked at anew. -/
namespace Go.Abs
open Go

/-- What stands between two pieces of code is told in these words, however it was come by. -/
theorem awp_mid {P : Program} {n : Nat} {x y : Code} {Q : Exit → St → Prop} {st : St} (st0 : St) (h1 : AWp P n x (then_ (fun s => SLe n s st0) Q) st) (h2 : AWp P n y Q st0) : AWp P n (.seq x y) Q st := by
  refine awp_seq fun E ρ a w hE hs => wp_mono (h1 E ρ a w hE hs) ?_
  rintro e a' w' ⟨st', ρ', k1, k2, k3⟩
  refine ⟨st', ρ', ?_, k2, k3⟩
  cases e with
  | normal => exact awp_le k1 h2
  | _ => exact k1
/-- Nothing at all may be told as an empty slice of this block. -/
def SubE (q sz : Nat) (al : List (Nat × S)) : List (Nat × S) → Prop
  | [] => True
  | (t, s) :: r => (lkp al t = s ∨ (lkp al t = sc .nils ∧ s = sc (.slc q 0 0 sz))) ∧ SubE q sz al r

theorem sube_get {q sz : Nat} {al : List (Nat × S)} : ∀ {al' : List (Nat × S)}, SubE q sz al al' → ∀ t, lkp al' t = ud ∨ lkp al' t = lkp al t ∨ (lkp al t = sc .nils ∧ lkp al' t = sc (.slc q 0 0 sz))
  | [], _, _ => .inl rfl
  | (i, s) :: r, h, t => by
    simp only [SubE] at h
    simp only [lkp]
    cases hb : Nat.beq i t with
    | true =>
      have := Nat.eq_of_beq_eq_true hb
      subst this
      rw [cond_true]
      rcases h.1 with h | ⟨h, h'⟩
      · exact .inr (.inl h.symm)
      · exact .inr (.inr ⟨h, h'⟩)
    | false => rw [cond_false]; exact sube_get h.2 t

theorem sle_empty {n N : Nat} {al al' : List (Nat × S)} {H : Heap} (sz : Nat) (hn : n ≤ H.length) (hf : SubE H.length sz al al') : SLe n ⟨frm N al, H⟩ ⟨frm N al', H ++ [some []]⟩ := by
  intro E ρ a w hs
  let ρ' : Nat → Place := fun p => if p = H.length then ⟨0, 0, 0⟩ else ρ p
  have hρ : ∀ p, p < H.length → ρ' p = ρ p := fun p hp => if_neg (by omega)
  have hle : (E.rl H.length ρ).Le (E.rl (H ++ [some []]).length ρ') := ⟨fun b hb => ⟨hb, rfl⟩, fun p hp => ⟨by
    show p < (H ++ [some []]).length
    have hp' : p < H.length := hp
    simp; omega, hρ p hp⟩⟩
  have hget : ∀ p cs, (H ++ [some ([] : List Cell)])[p]? = some (some cs) → (ρ' p).room ≠ 0 → p < H.length ∧ H[p]? = some (some cs) := by
    intro p cs hp hr
    by_cases hlt : p < H.length
    · rw [List.getElem?_append_left hlt] at hp; exact ⟨hlt, hp⟩
    · have := (List.getElem?_eq_some_iff.1 hp).1
      simp at this
      have : p = H.length := by omega
      subst this
      simp [ρ'] at hr
  refine ⟨ρ', fun p hp => hρ p (by omega), ⟨hs.fr.1, by rw [frm_length]; have := hs.fr.2.1; rwa [frm_length] at this, fun t s ht => ?_⟩, ?_⟩
  · have hlt : t < N := by
      have := (List.getElem?_eq_some_iff.1 ht).1
      rwa [frm_length] at this
    rw [frm_get hlt] at ht
    obtain rfl := Option.some.inj ht
    obtain ⟨v, k1, k2⟩ := hs.fr.2.2 t _ (frm_get hlt)
    refine ⟨v, k1, ?_⟩
    rcases sube_get hf t with h | h | ⟨h, h'⟩
    · rw [h]; simp [ud, SRel, VRel, CRel]
    · rw [h]; exact SRel.mono hle _ _ k2
    · rw [h']
      rw [h] at k2
      simp only [SRel, VRel, CRel] at k2 ⊢
      subst k2
      exact ⟨by show H.length < (H ++ [some []]).length; simp, none, 0, rfl, Nat.le_refl _, .inr rfl⟩
  · have hh := hs.heap
    refine ⟨hh.os, hh.tape, hh.output, hh.size, hh.frame, fun p cs hp hr => ?_, fun p q cs ds hp hq hrp hrq he => ?_, fun p cs hp hr => ?_, fun p cs hp hr => ?_⟩
    · obtain ⟨h1, h2⟩ := hget p cs hp hr
      rw [hρ p h1] at hr ⊢
      exact hh.fresh p cs h2 hr
    · obtain ⟨h1, h2⟩ := hget p cs hp hrp
      obtain ⟨h3, h4⟩ := hget q ds hq hrq
      rw [hρ p h1] at hrp he
      rw [hρ q h3] at hrq he
      exact hh.inj p q cs ds h2 h4 hrp hrq he
    · obtain ⟨h1, h2⟩ := hget p cs hp hr
      rw [hρ p h1] at hr ⊢
      exact (hh.blk p cs h2 hr).mono hle rfl
    · by_cases hlt : p < H.length
      · rw [List.getElem?_append_left hlt] at hp
        rw [hρ p hlt] at hr
        exact hh.emp p cs hp hr
      · have := (List.getElem?_eq_some_iff.1 hp).1
        simp at this
        have : p = H.length := by omega
        subst this
        simpa using hp

theorem pick_c {H : Heap} {m : CM} {p : Nat} {cs : List Cell} (h : H[p]? = some (some cs)) (hc : cs.map (cm m 8) = cs) : pick H (cm m 8) p = some cs := by
  unfold pick; rw [h]; simp only [hc]
theorem pick_m {α : Type} {k : IntKind} {g : α → Int} {l : List α} {H : Heap} {m : CM} {p : Nat} (h : H[p]? = some (some (mapc k g l))) : pick H (cm m 8) p = some (mapc k g l) := pick_c h (mapc_cm m 8 l)
theorem vh1 {H : Heap} {f : Cell → Cell} {a : Nat} {x : Option (List Cell)} (h : pick H f a = x) : [x] = [a].map (pick H f) := by simp [h]
theorem vh2 {H : Heap} {f : Cell → Cell} {a b : Nat} {x y : Option (List Cell)} (h : pick H f a = x) (h1 : pick H f b = y) : [x, y] = [a, b].map (pick H f) := by simp [h, h1]
theorem vh3 {H : Heap} {f : Cell → Cell} {a b c : Nat} {x y z : Option (List Cell)} (h : pick H f a = x) (h1 : pick H f b = y) (h2 : pick H f c = z) : [x, y, z] = [a, b, c].map (pick H f) := by simp [h, h1, h2]
theorem vh4 {H : Heap} {f : Cell → Cell} {a b c d : Nat} {x y z w : Option (List Cell)} (h : pick H f a = x) (h1 : pick H f b = y) (h2 : pick H f c = z) (h3 : pick H f d = w) : [x, y, z, w] = [a, b, c, d].map (pick H f) := by simp [h, h1, h2, h3]
/-- A call that is handed some blocks, whatever it makes of them, and makes others. -/
def setB : List Nat → Heap → Heap → Heap
  | p :: π, x :: L, H => setB π L (H.set p x)
  | _, _, H => H
theorem setB_get : ∀ (π : List Nat) (L H : Heap) (j : Nat), π.Nodup → L.length = π.length → (setB π L H)[j]? = (H[j]?).map fun b => match idx j π with | some i => L.getD i none | none => b
  | [], [], H, j, _, _ => by simp [setB, idx]
  | [], _ :: _, _, _, _, h => by simp at h
  | _ :: _, [], _, _, _, h => by simp at h
  | p :: π, x :: L, H, j, hn, hl => by
    rw [setB, setB_get π L (H.set p x) j (List.nodup_cons.1 hn).2 (by simpa using hl), List.getElem?_set]
    by_cases hj : p = j
    · subst hj
      have hni : idx p π = none := by
        cases h : idx p π with
        | none => rfl
        | some i => exact absurd (List.mem_of_getElem? (idx_get h)) (List.nodup_cons.1 hn).1
      by_cases hlt : p < H.length
      · simp [hlt, idx, hni]
      · simp [hlt]
    · rw [if_neg hj]
      cases h : idx j π with
      | none => simp [idx, hj, h]
      | some i => simp [idx, hj, h]
theorem picks_map (f : Cell → Cell) : ∀ H : Heap, picks f H = H.map (Option.map (List.map f))
  | [] => rfl
  | some _ :: r => by simp [picks, picks_map f r]
  | none :: r => by simp [picks, picks_map f r]
theorem back_split {π : List Nat} {f : Cell → Cell} {H L N : Heap} (hnd : π.Nodup) (hl : L.length = π.length) : back π f H (L ++ N) = setB π (L.map (Option.map (List.map f))) H ++ N.map (Option.map (List.map f)) := by
  rw [back, ← hl, List.drop_left, picks_map]
  congr 1
  apply List.ext_getElem?
  intro j
  rw [putB_get, setB_get _ _ _ _ hnd (by simpa using hl), Nat.zero_add]
  congr 1
  funext b
  unfold pbk
  cases h : idx j π with
  | none => rfl
  | some i =>
    have hi : i < L.length := by rw [hl]; exact (List.getElem?_eq_some_iff.1 (idx_get h)).1
    simp only [pick, List.getElem?_append_left hi, List.getD_eq_getElem?_getD, List.getElem?_map, List.getElem?_eq_getElem hi]
    cases L[i] <;> rfl
theorem pl0 {H : Heap} {f : Cell → Cell} : ([] : List Nat).map (pick H f) = [] := rfl
theorem pl1 {H Hl : Heap} {f : Cell → Cell} {p : Nat} {π : List Nat} {cs cs' : List Cell} (hp : H[p]? = some (some cs)) (hc : cs.map f = cs') (h : π.map (pick H f) = Hl) : (p :: π).map (pick H f) = some cs' :: Hl := by
  simp [pick, hp, hc, ← h]
theorem ml0 {f : Cell → Cell} : ([] : Heap).map (Option.map (List.map f)) = [] := rfl
theorem ml1 {f : Cell → Cell} {L L' : Heap} {x y : List Cell} (hx : x.map f = y) (h : L.map (Option.map (List.map f)) = L') : (some x :: L).map (Option.map (List.map f)) = some y :: L' := by
  simp [hx, h]
theorem mln {f : Cell → Cell} {L L' : Heap} (h : L.map (Option.map (List.map f)) = L') : (none :: L).map (Option.map (List.map f)) = none :: L' := by
  simp [h]
theorem r_callv {P : Program} {fr : List S} {H : Heap} {K : S → Heap → Prop} {o : Oper} {f : Nat} {args : Array Operand} {ats : Array TypeId} {v s : S} {Hl L L' M M' : Heap} {args' : List V} (π : List Nat) (ho : o.op = .call ⟨.value (.func f), args, ats⟩)
    (ha : CA fr H π true args.toList args') (hnd : π.Nodup) (hπ : ∀ p ∈ π, p < H.length) (e2 : π.map (pick H (cm (cin π true H) 8)) = Hl) (hg : Good P f args' Hl v (L ++ M)) (hl : L.length = π.length)
    (eL : L.map (Option.map (List.map (cm (cout π true H.length) 8))) = L') (eM : M.map (Option.map (List.map (cm (cout π true H.length) 8))) = M') (e3 : sm (cm (cout π true H.length) 8) v = s) (h : K s (setB π L' H ++ M')) : ostep P o fr H K := by
  obtain ⟨avs, h1, h2⟩ := ha
  exact r_call π true ho rfl h1 hnd hπ (by simpa using h2) e2 hg e3 (by rw [back_split hnd hl, eL, eM]) h
theorem allB {π : List Nat} {n : Nat} (h : (π.all fun p => Nat.blt p n) = true) : ∀ p ∈ π, p < n := fun p hp => by
  have := List.all_eq_true.1 h p hp
  simpa [Nat.blt_eq] using this
theorem q_callv {P : Program} {fr : List S} {H : Heap} {K : S → Heap → Prop} {od : Option Nat} {oty : TypeId} {ops_ : String} {oaf : Array Edge} {ogu : Option (Nat × Bool)} {f : Nat} {args : Array Operand} {ats : Array TypeId} {v s : S} {Hl L' M' : Heap} {args' : List V} (π : List Nat) (L : Heap) (M : Heap)
    (hg : Good P f args' Hl v (L ++ M)) (h : K s (setB π L' H ++ M')) (ha : CA fr H π true args.toList args' := by repeat' (first | exact ca0 | refine cac (by first | exact et rfl | exact rfl) (by first | exact cm_int | exact cm_bool | exact cm_str | exact sees_ro | (apply sees_slc; exact rfl; (first | exact rfl | assumption); (first | exact cut_h (by with_reducible assumption) | exact rfl | exact cut_m | exact cut_w)) | (apply sees_parts; exact rfl; (first | exact rfl | assumption); (repeat' (first | exact pq0 | (apply pq_ro; (first | with_reducible assumption | (simp only [List.length_take, List.length_drop, List.length_append] <;> omega) | exact rfl)) | refine pq_nil ?_ | (apply pq_slc; exact rfl; (first | exact rfl | assumption); (first | exact cut_h (by with_reducible assumption) | exact rfl | exact cut_m | exact cut_w); (first | with_reducible assumption | (simp only [List.length_take, List.length_drop, List.length_append] <;> omega) | exact rfl))))) | exact sees_nil8 | exact sees_nil | exact sees_ptr rfl (by first | exact rfl | assumption) rfl rfl | exact rfl) ?_ | refine caa (by first | exact et rfl | exact rfl) (by first | exact sees_m | exact rfl) ?_)) (hnd : π.Nodup := by decide) (hπ : (π.all fun p => Nat.blt p H.length) = true := by exact rfl)
    (e2 : π.map (pick H (cm (cin π true H) 8)) = Hl := by repeat' (first | exact pl0 | refine pl1 rfl (by first | exact sees_m | exact rfl) ?_)) (hl : L.length = π.length := by exact rfl)
    (eL : L.map (Option.map (List.map (cm (cout π true H.length) 8))) = L' := by first | exact ml0 | exact ml1 (by first | exact sees_m | exact rfl) ml0 | exact ml1 (by first | exact sees_m | exact rfl) (ml1 (by first | exact sees_m | exact rfl) ml0) | exact ml1 (by first | exact sees_m | exact rfl) (ml1 (by first | exact sees_m | exact rfl) (ml1 (by first | exact sees_m | exact rfl) ml0)) | exact ml1 (by first | exact sees_m | exact rfl) (ml1 (by first | exact sees_m | exact rfl) (ml1 (by first | exact sees_m | exact rfl) (ml1 (by first | exact sees_m | exact rfl) ml0))) | exact ml1 (by first | exact sees_m | exact rfl) (ml1 (by first | exact sees_m | exact rfl) (ml1 (by first | exact sees_m | exact rfl) (ml1 (by first | exact sees_m | exact rfl) (ml1 (by first | exact sees_m | exact rfl) ml0))))) (eM : M.map (Option.map (List.map (cm (cout π true H.length) 8))) = M' := by first | exact ml0 | exact ml1 (by first | exact sees_m | exact rfl) ml0 | exact ml1 (by first | exact sees_m | exact rfl) (ml1 (by first | exact sees_m | exact rfl) ml0) | exact ml1 (by first | exact sees_m | exact rfl) (ml1 (by first | exact sees_m | exact rfl) (ml1 (by first | exact sees_m | exact rfl) ml0)) | exact ml1 (by first | exact sees_m | exact rfl) (ml1 (by first | exact sees_m | exact rfl) (ml1 (by first | exact sees_m | exact rfl) (ml1 (by first | exact sees_m | exact rfl) ml0))) | exact ml1 (by first | exact sees_m | exact rfl) (ml1 (by first | exact sees_m | exact rfl) (ml1 (by first | exact sees_m | exact rfl) (ml1 (by first | exact sees_m | exact rfl) (ml1 (by first | exact sees_m | exact rfl) ml0)))))
    (e3 : sm (cm (cout π true H.length) 8) v = s := by first | exact rs_int | exact rs_bool | exact rs_m | exact rs_new | exact rs_nils | exact rs_str | exact rs_newp | exact rs_nilp | exact vt0 | exact vt2 (by first | exact vs_int | exact vs_bool | exact vs_m | exact vs_new | exact vs_nils | exact vs_str | exact vs_newp | exact vs_nilp | exact rfl) (by first | exact vs_int | exact vs_bool | exact vs_m | exact vs_new | exact vs_nils | exact vs_str | exact vs_newp | exact vs_nilp | exact rfl) | exact vt3 (by first | exact vs_int | exact vs_bool | exact vs_m | exact vs_new | exact vs_nils | exact vs_str | exact vs_newp | exact vs_nilp | exact rfl) (by first | exact vs_int | exact vs_bool | exact vs_m | exact vs_new | exact vs_nils | exact vs_str | exact vs_newp | exact vs_nilp | exact rfl) (by first | exact vs_int | exact vs_bool | exact vs_m | exact vs_new | exact vs_nils | exact vs_str | exact vs_newp | exact vs_nilp | exact rfl) | exact vt4 (by first | exact vs_int | exact vs_bool | exact vs_m | exact vs_new | exact vs_nils | exact vs_str | exact vs_newp | exact vs_nilp | exact rfl) (by first | exact vs_int | exact vs_bool | exact vs_m | exact vs_new | exact vs_nils | exact vs_str | exact vs_newp | exact vs_nilp | exact rfl) (by first | exact vs_int | exact vs_bool | exact vs_m | exact vs_new | exact vs_nils | exact vs_str | exact vs_newp | exact vs_nilp | exact rfl) (by first | exact vs_int | exact vs_bool | exact vs_m | exact vs_new | exact vs_nils | exact vs_str | exact vs_newp | exact vs_nilp | exact rfl) | exact rfl) : ostep P ⟨od, .call ⟨.value (.func f), args, ats⟩, oty, ops_, oaf, ogu⟩ fr H K :=
  r_callv π rfl ha hnd (allB hπ) e2 hg hl eL eM e3 h
theorem pi01 : ∀ p : Nat, p < 2 → [0, 1][p]? = some p := by
  intro p hp
  match p, hp with
  | 0, _ => rfl
  | 1, _ => rfl
theorem pi012 : ∀ p : Nat, p < 3 → [0, 1, 2][p]? = some p := by
  intro p hp
  match p, hp with
  | 0, _ => rfl
  | 1, _ => rfl
  | 2, _ => rfl
section
variable {P : Program} {fr : List S} {H : Heap} {K : S → Heap → Prop} {od : Option Nat} {oty : TypeId} {ops_ : String} {oaf : Array Edge} {ogu : Option (Nat × Bool)} {t u : TypeId} {ti : TI} {a b : Operand}
end
/-- Constants laid into cells. -/
def intC : Value → Option Cell
  | .int k n => some (.int k n)
  | _ => none
def fillC (place : Nat → Option (Nat × Nat)) : List Cell → List (Nat × Operand) → Option (List Cell)
  | cells, [] => some cells
  | cells, (i, .const v) :: r => match place i, intC v with
    | some (off, 1), some c => bif Nat.blt off cells.length then fillC place (cells.set off c) r else none
    | _, _ => none
  | _, _ => none
theorem fkC_go {fr : List S} {place : Nat → Option (Nat × Nat)} {KK : List Cell → Prop} {out : List Cell} (h : KK out) : ∀ (parts : List (Nat × Operand)) (cells : List Cell), fillC place cells parts = some out → fillK fr place KK cells parts
  | [], cells, hc => by
    simp only [fillC, Option.some.injEq] at hc
    subst hc; exact h
  | (i, .const v) :: r, cells, hc => by
    simp only [fillC] at hc
    split at hc
    · rename_i off c hp hv
      cases hb : Nat.blt off cells.length with
      | false => rw [hb] at hc; cases hc
      | true =>
        rw [hb] at hc
        have hv' : ev fr (.const v) = sc c ∧ cellsV (sc c) = some [c] := by
          cases v <;> simp only [intC, Option.some.injEq, reduceCtorEq] at hv
          subst hv; exact ⟨rfl, rfl⟩
        exact fkc hp hv'.1 hv'.2 (by simpa [Nat.blt_eq] using hb) (fkC_go h r _ hc)
    · cases hc
  | (i, .tmp n) :: r, cells, hc => by simp [fillC] at hc
  | (i, .func n) :: r, cells, hc => by simp [fillC] at hc
  | (i, .global n) :: r, cells, hc => by simp [fillC] at hc
theorem fkC {fr : List S} {place : Nat → Option (Nat × Nat)} {KK : List Cell → Prop} {cells out : List Cell} {parts : List (Nat × Operand)} (h : KK out) (hc : fillC place cells parts = some out := by kernel_rfl) : fillK fr place KK cells parts := fkC_go h parts cells hc
/-! A body's end, whatever blocks are told. -/
theorem fx0 {P : Program} {st : St} {fn : Func} {v : S} {H' : Heap} {n : Nat} (π : List Nat) (hl : fn.results.toList = [] := by exact rfl) (hH : π.map (pick st.H (cm ⟨fun p => idx p π, fun _ => none, true, false⟩ 8)) = H' := by repeat' (first | exact pl0 | refine pl1 rfl (by first | exact sees_m | exact rfl) ?_)) (hv : v = .t [] := by exact rfl) (hnd : π.Nodup := by decide) (hn : ∀ p, p < n → π[p]? = some p := by first | exact fun p h => absurd h (Nat.not_lt_zero _) | exact pi0 | exact pi01 | exact pi012) : fin P fn n v H' st :=
  fin_g (ys := []) π hn hnd hv hl rv0 hH.symm
theorem fx1 {P : Program} {st : St} {fn : Func} {v : S} {H' : Heap} {n : Nat} {t0 : Nat} {x0 y0 : V} (π : List Nat) (hl : fn.results.toList = [.tmp t0] := by exact rfl) (hx0 : ev st.fr (.tmp t0) = .v x0 := by first | exact et rfl | exact rfl) (hm0 : vm (cm ⟨fun p => idx p π, fun _ => none, true, false⟩ 8) x0 = y0 := by first | exact vs_int | exact vs_bool | exact vs_m | exact vs_str | exact vs_nilp | exact rfl) (hH : π.map (pick st.H (cm ⟨fun p => idx p π, fun _ => none, true, false⟩ 8)) = H' := by repeat' (first | exact pl0 | refine pl1 rfl (by first | exact sees_m | exact rfl) ?_)) (hv : v = .v y0 := by exact rfl) (hnd : π.Nodup := by decide) (hn : ∀ p, p < n → π[p]? = some p := by first | exact fun p h => absurd h (Nat.not_lt_zero _) | exact pi0 | exact pi01 | exact pi012) : fin P fn n v H' st :=
  fin_g (ys := [y0]) π hn hnd hv hl (rvt hx0 hm0 rv0) hH.symm
/-- In a region that draws its order: an operation that looks at one block. -/
theorem DSp {P : Program} {N : Nat} {al : List (Nat × S)} {H : Heap} {ops r : List Oper} {q : St → Prop} {op : Op} {oty : TypeId} {ops_ : String} {oaf : Array Edge} {d : Nat} {lo hi : List Nat} {i : Nat} {rem : List Nat} {hist : List Heap} {pend : List (Nat × Heap)} {s : S} (p : Nat) {cs : List Cell}
    (_hp : H[p]? = some (some cs)) (h : ∀ V' : Heap, V'[p]? = some (some cs) → ostep P ⟨some d, op, oty, ops_, oaf, none⟩ (frm N al) V' fun s' H' => s' = s ∧ H' = V')
    (k : Dw P ops lo hi q r (i + 1) rem (H :: hist) ((hi.getD i 0, one p cs) :: pend) (frm N ((d, s) :: al))) (hne : (rem.head? == some i) = false := by exact rfl)
    (hs : seen (one p cs) ((H :: hist).take ((hist.length + 1) - lo.getD i 0)) := by repeat' (first | exact trivial | exact sub_one rfl | refine And.intro ?_ ?_)) : Dw P ops lo hi q (⟨some d, op, oty, ops_, oaf, none⟩ :: r) i rem (H :: hist) pend (frm N al) :=
  dR p rfl (tk rfl) hne hs h k
section
variable {P : Program} {N : Nat} {al : List (Nat × S)} {H : Heap} {ops r : List Oper} {q : St → Prop} {oty : TypeId} {ops_ : String} {oaf : Array Edge} {d j w : Nat} {want : Bool} {oj : Oper}
variable {lo hi : List Nat} {i : Nat} {rem : List Nat} {hist : List Heap} {pend : List (Nat × Heap)} {t : TypeId} {ti : TI} {x : Operand} {p : Nat} {cs : List Cell}
end
end Go.Abs

/- The abstract machine: functions without a body that the model stands in for. -/
namespace Go.Abs
open Go

theorem av0 {fr : List S} : argVs fr [] = some [] := rfl
theorem av1 {fr : List S} {x : Operand} {r : List Operand} {y : V} {ys : List V} (hx : ev fr x = .v y) (h : argVs fr r = some ys) : argVs fr (x :: r) = some (y :: ys) := by
  simp only [argVs, hx, h]
theorem q_callx {P : Program} {fr : List S} {H : Heap} {K : S → Heap → Prop} {od : Option Nat} {oty : TypeId} {ops_ : String} {oaf : Array Edge} {ogu : Option (Nat × Bool)} {f : Nat} {args : Array Operand} {ats : Array TypeId} {v : S} {avs : List V}
    (hx : Ext P f avs v) (h : K v H) (ha : argVs fr args.toList = some avs := by repeat' (first | exact av0 | refine av1 (by first | exact et rfl | exact rfl) ?_)) : ostep P ⟨od, .call ⟨.value (.func f), args, ats⟩, oty, ops_, oaf, ogu⟩ fr H K := by
  simp only [ostep, callO]
  rw [show ev fr (.func f) = sc (.fn f []) from rfl, ha]
  exact .inr ⟨rfl, v, hx, h⟩

/-- A sum with a carry, a difference with a borrow. -/
def addc (x y c : UInt64) : UInt64 := if 18446744073709551616 ≤ x.toNat + y.toNat + c.toNat then 1 else 0
def subb (x y c : UInt64) : UInt64 := if x.toNat < y.toNat + c.toNat then 1 else 0
theorem addc_le (x y c : UInt64) : (addc x y c).toNat ≤ 1 := by unfold addc; split <;> decide
theorem subb_le (x y c : UInt64) : (subb x y c).toNat ≤ 1 := by unfold subb; split <;> decide

def subEntry : Array Value → Sem Value := fun args => do
  let (x, y, b) ← Extern.MathBitsCarry.three "Sub64" args
  pure (Extern.MathBitsCarry.pair ((x + Extern.MathBitsCarry.m64 - y - b) % Extern.MathBitsCarry.m64) (if x < y + b then 1 else 0))
theorem run_sub {P : Program} (x y b : Nat) (hb : b ≤ 1) (w : World) :
    (subEntry #[.int .u64 x, .int .u64 y, .int .u64 b]).run P w =
      .ok (.tuple #[.int .u64 (((x + 18446744073709551616 - y - b) % 18446744073709551616 : Nat) : Int), .int .u64 ((if x < y + b then 1 else 0 : Nat) : Int)]) w := by
  have : b = 0 ∨ b = 1 := by omega
  rcases this with rfl | rfl <;> rfl

theorem ext3 {R : Rl} {x y c : UInt64} {rargs : List Value} (h : VsRel R [.c (c64 x), .c (c64 y), .c (c64 c)] rargs) : rargs = [.int .u64 x.toNat, .int .u64 y.toNat, .int .u64 c.toNat] := by
  simp only [VsRel, VRel, CRel] at h
  obtain ⟨v, vs, rfl, rfl, v', vs', rfl, rfl, v'', vs'', rfl, rfl, rfl⟩ := h
  rfl
theorem add_ext {P : Program} {k : Nat} {fn : Func} (hf : P.funcs[k]? = some fn) (hname : (fn.name == "runtime.NumGoroutine") = false) (hb : fn.body.isNone = true) (hn : Extern.findNext fn = none) (he : Extern.find fn = some add64Entry)
    (x y c : UInt64) (hc : c.toNat ≤ 1) : Ext P k [.c (c64 x), .c (c64 y), .c (c64 c)] (.t [.c (c64 (x + y + c)), .c (c64 (addc x y c))]) := by
  intro R w rargs h
  rw [ext3 h]
  refine ⟨.tuple #[.int .u64 (x + y + c).toNat, .int .u64 (addc x y c).toNat], ?_, #[.int .u64 (x + y + c).toNat, .int .u64 (addc x y c).toNat], rfl, ?_⟩
  · rw [run_callFunc_extern hf hname hb hn he]
    have hx := x.toNat_lt
    have hy := y.toNat_lt
    rw [show ([.int .u64 x.toNat, .int .u64 y.toNat, .int .u64 c.toNat] : List Value).toArray = #[.int .u64 (x.toNat : Int), .int .u64 (y.toNat : Int), .int .u64 (c.toNat : Int)] from rfl, run_add64 _ _ _ (by omega) (by omega) (by omega) (by omega)]
    simp only [Result.andThen]
    have e1 : (x + y + c).toNat = (x.toNat + y.toNat + c.toNat) % 18446744073709551616 := by simp [UInt64.toNat_add]
    have e2 : (addc x y c).toNat = (x.toNat + y.toNat + c.toNat) / 18446744073709551616 := by
      unfold addc
      split
      · show 1 = _; omega
      · show 0 = _; omega
    rw [e1, e2]
    congr 5 <;> omega
  · simp only [VsRel, VRel, CRel]
    exact ⟨_, _, rfl, rfl, _, _, rfl, rfl, rfl⟩
theorem sub_ext {P : Program} {k : Nat} {fn : Func} (hf : P.funcs[k]? = some fn) (hname : (fn.name == "runtime.NumGoroutine") = false) (hb : fn.body.isNone = true) (hn : Extern.findNext fn = none) (he : Extern.find fn = some subEntry)
    (x y c : UInt64) (hc : c.toNat ≤ 1) : Ext P k [.c (c64 x), .c (c64 y), .c (c64 c)] (.t [.c (c64 (x - y - c)), .c (c64 (subb x y c))]) := by
  intro R w rargs h
  rw [ext3 h]
  refine ⟨.tuple #[.int .u64 (x - y - c).toNat, .int .u64 (subb x y c).toNat], ?_, #[.int .u64 (x - y - c).toNat, .int .u64 (subb x y c).toNat], rfl, ?_⟩
  · rw [run_callFunc_extern hf hname hb hn he]
    have hx := x.toNat_lt
    have hy := y.toNat_lt
    rw [show ([.int .u64 x.toNat, .int .u64 y.toNat, .int .u64 c.toNat] : List Value).toArray = #[.int .u64 (x.toNat : Int), .int .u64 (y.toNat : Int), .int .u64 (c.toNat : Int)] from rfl, run_sub _ _ _ hc]
    simp only [Result.andThen]
    have e1 : (x - y - c).toNat = (x.toNat + 18446744073709551616 - y.toNat - c.toNat) % 18446744073709551616 := by
      rw [UInt64.toNat_sub, UInt64.toNat_sub]
      omega
    have e2 : (subb x y c).toNat = if x.toNat < y.toNat + c.toNat then 1 else 0 := by
      unfold subb
      split <;> rfl
    rw [e1, e2]
  · simp only [VsRel, VRel, CRel]
    exact ⟨_, _, rfl, rfl, _, _, rfl, rfl, rfl⟩
/-- What the model stands in for, by the function's number. -/
class AddX (P : Program) (k : Nat) : Prop where h : ∀ x y c : UInt64, c.toNat ≤ 1 → Ext P k [.c (c64 x), .c (c64 y), .c (c64 c)] (.t [.c (c64 (x + y + c)), .c (c64 (addc x y c))])
class SubX (P : Program) (k : Nat) : Prop where h : ∀ x y c : UInt64, c.toNat ≤ 1 → Ext P k [.c (c64 x), .c (c64 y), .c (c64 c)] (.t [.c (c64 (x - y - c)), .c (c64 (subb x y c))])
section
variable {P : Program} {fr : List S} {H : Heap} {K : S → Heap → Prop} {od : Option Nat} {oty : TypeId} {ops_ : String} {oaf : Array Edge} {ogu : Option (Nat × Bool)} {f : Nat} {a b d : Operand} {ats : Array TypeId} {x y c : UInt64}
theorem q_addx [ax : AddX P f] (h : K (.t [.c (c64 (x + y + c)), .c (c64 (addc x y c))]) H) (hx : ev fr a = sc (c64 x) := by first | exact et rfl | exact rfl) (hy : ev fr b = sc (c64 y) := by first | exact et rfl | exact rfl) (hz : ev fr d = sc (c64 c) := by first | exact et rfl | exact rfl)
    (hc : c.toNat ≤ 1 := by first | exact addc_le .. | exact subb_le .. | assumption | decide) : ostep P ⟨od, .call ⟨.value (.func f), #[a, b, d], ats⟩, oty, ops_, oaf, ogu⟩ fr H K := q_callx (ax.h x y c hc) h (av1 hx (av1 hy (av1 hz av0)))
theorem q_subx [ax : SubX P f] (h : K (.t [.c (c64 (x - y - c)), .c (c64 (subb x y c))]) H) (hx : ev fr a = sc (c64 x) := by first | exact et rfl | exact rfl) (hy : ev fr b = sc (c64 y) := by first | exact et rfl | exact rfl) (hz : ev fr d = sc (c64 c) := by first | exact et rfl | exact rfl)
    (hc : c.toNat ≤ 1 := by first | exact addc_le .. | exact subb_le .. | assumption | decide) : ostep P ⟨od, .call ⟨.value (.func f), #[a, b, d], ats⟩, oty, ops_, oaf, ogu⟩ fr H K := q_callx (ax.h x y c hc) h (av1 hx (av1 hy (av1 hz av0)))
end
end Go.Abs

/- The types of the program, as the abstract machine asks for them. -/
namespace Go.Proofs.Ytlidpcjinillfaa
open Go Go.Abs Go.Proofs

abbrev T1 : TI := ⟨1, 8, some ([.nilf]), .func, true⟩
theorem y1 : tiOf Try.prog 1 = some T1 := by kernel_rfl
instance : TiOf Try.prog 1 T1 := ⟨y1⟩
abbrev T2 : TI := ⟨1, 8, some ([cn 0]), .int .i64, true⟩
theorem y2 : tiOf Try.prog 2 = some T2 := by kernel_rfl
instance : TiOf Try.prog 2 T2 := ⟨y2⟩
abbrev T3 : TI := ⟨1, 8, some ([cn 0]), .int .i64, true⟩
theorem y3 : tiOf Try.prog 3 = some T3 := by kernel_rfl
instance : TiOf Try.prog 3 T3 := ⟨y3⟩
abbrev T4 : TI := ⟨1, 1, some ([.bool false]), .bool, true⟩
theorem y4 : tiOf Try.prog 4 = some T4 := by kernel_rfl
instance : TiOf Try.prog 4 T4 := ⟨y4⟩
abbrev T5 : TI := ⟨1, 1, some ([c8 0]), .int .u8, true⟩
theorem y5 : tiOf Try.prog 5 = some T5 := by kernel_rfl
instance : TiOf Try.prog 5 T5 := ⟨y5⟩
abbrev T6 : TI := ⟨1, 1, some ([c8 0]), .int .u8, true⟩
theorem y6 : tiOf Try.prog 6 = some T6 := by kernel_rfl
instance : TiOf Try.prog 6 T6 := ⟨y6⟩
abbrev T7 : TI := ⟨4, 24, some ([cn 0, cn 0, .bool false, c8 0]), .struct [(0, 2), (1, 3), (2, 4), (3, 6)], true⟩
theorem y7 : tiOf Try.prog 7 = some T7 := by kernel_rfl
instance : TiOf Try.prog 7 T7 := ⟨y7⟩
abbrev T8 : TI := ⟨4, 24, some ([cn 0, cn 0, .bool false, c8 0]), .struct [(0, 2), (1, 3), (2, 4), (3, 6)], true⟩
theorem y8 : tiOf Try.prog 8 = some T8 := by kernel_rfl
instance : TiOf Try.prog 8 T8 := ⟨y8⟩
abbrev T9 : TI := ⟨1, 16, some ([.str ⟨#[]⟩]), .str, true⟩
theorem y9 : tiOf Try.prog 9 = some T9 := by kernel_rfl
instance : TiOf Try.prog 9 T9 := ⟨y9⟩
abbrev T10 : TI := ⟨1, 16, some ([.str ⟨#[]⟩]), .str, true⟩
theorem y10 : tiOf Try.prog 10 = some T10 := by kernel_rfl
instance : TiOf Try.prog 10 T10 := ⟨y10⟩
abbrev T11 : TI := ⟨1, 16, some ([.str ⟨#[]⟩]), .str, true⟩
theorem y11 : tiOf Try.prog 11 = some T11 := by kernel_rfl
instance : TiOf Try.prog 11 T11 := ⟨y11⟩
abbrev T12 : TI := ⟨1, 8, some ([c64 0]), .int .u64, true⟩
theorem y12 : tiOf Try.prog 12 = some T12 := by kernel_rfl
instance : TiOf Try.prog 12 T12 := ⟨y12⟩
abbrev T13 : TI := ⟨2, 24, some ([.str ⟨#[]⟩, c64 0]), .struct [(0, 9), (1, 12)], true⟩
theorem y13 : tiOf Try.prog 13 = some T13 := by kernel_rfl
instance : TiOf Try.prog 13 T13 := ⟨y13⟩
abbrev T14 : TI := ⟨2, 24, some ([.str ⟨#[]⟩, c64 0]), .struct [(0, 9), (1, 12)], true⟩
theorem y14 : tiOf Try.prog 14 = some T14 := by kernel_rfl
instance : TiOf Try.prog 14 T14 := ⟨y14⟩
abbrev T15 : TI := ⟨1, 8, some ([.nilp]), .ptr 77, true⟩
theorem y15 : tiOf Try.prog 15 = some T15 := by kernel_rfl
instance : TiOf Try.prog 15 T15 := ⟨y15⟩
abbrev T16 : TI := ⟨1, 8, some ([.nilp]), .ptr 80, true⟩
theorem y16 : tiOf Try.prog 16 = some T16 := by kernel_rfl
instance : TiOf Try.prog 16 T16 := ⟨y16⟩
abbrev T17 : TI := ⟨1, 8, some ([.nilp]), .ptr 90, true⟩
theorem y17 : tiOf Try.prog 17 = some T17 := by kernel_rfl
instance : TiOf Try.prog 17 T17 := ⟨y17⟩
abbrev T18 : TI := ⟨1, 8, some ([.nilp]), .struct [(0, 17)], true⟩
theorem y18 : tiOf Try.prog 18 = some T18 := by kernel_rfl
instance : TiOf Try.prog 18 T18 := ⟨y18⟩
abbrev T19 : TI := ⟨1, 8, some ([.nilp]), .struct [(0, 17)], true⟩
theorem y19 : tiOf Try.prog 19 = some T19 := by kernel_rfl
instance : TiOf Try.prog 19 T19 := ⟨y19⟩
abbrev T21 : TI := ⟨1, 4, some ([.int .i32 0]), .int .i32, true⟩
theorem y21 : tiOf Try.prog 21 = some T21 := by kernel_rfl
instance : TiOf Try.prog 21 T21 := ⟨y21⟩
abbrev T22 : TI := ⟨32, 32, some (u8s (List.replicate 32 0)), .array 32 5, true⟩
theorem y22 : tiOf Try.prog 22 = some T22 := by kernel_rfl
instance : TiOf Try.prog 22 T22 := ⟨y22⟩
abbrev T23 : TI := ⟨32, 32, some (u8s (List.replicate 32 0)), .array 32 5, true⟩
theorem y23 : tiOf Try.prog 23 = some T23 := by kernel_rfl
instance : TiOf Try.prog 23 T23 := ⟨y23⟩
abbrev T24 : TI := ⟨1, 8, some ([.nilf]), .func, true⟩
theorem y24 : tiOf Try.prog 24 = some T24 := by kernel_rfl
instance : TiOf Try.prog 24 T24 := ⟨y24⟩
abbrev T25 : TI := ⟨1, 8, some ([cn 0]), .int .i64, true⟩
theorem y25 : tiOf Try.prog 25 = some T25 := by kernel_rfl
instance : TiOf Try.prog 25 T25 := ⟨y25⟩
abbrev T27 : TI := ⟨1, 8, some ([.nilf]), .func, true⟩
theorem y27 : tiOf Try.prog 27 = some T27 := by kernel_rfl
instance : TiOf Try.prog 27 T27 := ⟨y27⟩
abbrev T28 : TI := ⟨1, 8, some ([.nilf]), .func, true⟩
theorem y28 : tiOf Try.prog 28 = some T28 := by kernel_rfl
instance : TiOf Try.prog 28 T28 := ⟨y28⟩
abbrev T29 : TI := ⟨1, 8, some ([.nilf]), .func, true⟩
theorem y29 : tiOf Try.prog 29 = some T29 := by kernel_rfl
instance : TiOf Try.prog 29 T29 := ⟨y29⟩
abbrev T30 : TI := ⟨1, 8, some ([.nilf]), .func, true⟩
theorem y30 : tiOf Try.prog 30 = some T30 := by kernel_rfl
instance : TiOf Try.prog 30 T30 := ⟨y30⟩
abbrev T31 : TI := ⟨1, 8, some ([.nilf]), .func, true⟩
theorem y31 : tiOf Try.prog 31 = some T31 := by kernel_rfl
instance : TiOf Try.prog 31 T31 := ⟨y31⟩
abbrev T32 : TI := ⟨1, 8, some ([.nilf]), .func, true⟩
theorem y32 : tiOf Try.prog 32 = some T32 := by kernel_rfl
instance : TiOf Try.prog 32 T32 := ⟨y32⟩
abbrev T33 : TI := ⟨1, 8, some ([c64 0]), .int .u64, true⟩
theorem y33 : tiOf Try.prog 33 = some T33 := by kernel_rfl
instance : TiOf Try.prog 33 T33 := ⟨y33⟩
abbrev T34 : TI := ⟨16, 128, some (u64s (List.replicate 16 0)), .array 16 33, true⟩
theorem y34 : tiOf Try.prog 34 = some T34 := by kernel_rfl
instance : TiOf Try.prog 34 T34 := ⟨y34⟩
abbrev T35 : TI := ⟨16, 128, some (u64s (List.replicate 16 0)), .array 16 33, true⟩
theorem y35 : tiOf Try.prog 35 = some T35 := by kernel_rfl
instance : TiOf Try.prog 35 T35 := ⟨y35⟩
abbrev T36 : TI := ⟨1, 8, some ([.nilf]), .func, true⟩
theorem y36 : tiOf Try.prog 36 = some T36 := by kernel_rfl
instance : TiOf Try.prog 36 T36 := ⟨y36⟩
abbrev T37 : TI := ⟨1, 8, some ([.nilf]), .func, true⟩
theorem y37 : tiOf Try.prog 37 = some T37 := by kernel_rfl
instance : TiOf Try.prog 37 T37 := ⟨y37⟩
abbrev T38 : TI := ⟨1, 8, some ([.nilf]), .func, true⟩
theorem y38 : tiOf Try.prog 38 = some T38 := by kernel_rfl
instance : TiOf Try.prog 38 T38 := ⟨y38⟩
abbrev T39 : TI := ⟨1, 24, some ([.nils]), .slice 23, true⟩
theorem y39 : tiOf Try.prog 39 = some T39 := by kernel_rfl
instance : TiOf Try.prog 39 T39 := ⟨y39⟩
abbrev T40 : TI := ⟨1, 8, some ([.nilf]), .func, true⟩
theorem y40 : tiOf Try.prog 40 = some T40 := by kernel_rfl
instance : TiOf Try.prog 40 T40 := ⟨y40⟩
abbrev T41 : TI := ⟨1, 8, some ([.nilf]), .func, true⟩
theorem y41 : tiOf Try.prog 41 = some T41 := by kernel_rfl
instance : TiOf Try.prog 41 T41 := ⟨y41⟩
abbrev T42 : TI := ⟨1, 8, some ([c64 0]), .int .u64, true⟩
theorem y42 : tiOf Try.prog 42 = some T42 := by kernel_rfl
instance : TiOf Try.prog 42 T42 := ⟨y42⟩
abbrev T43 : TI := ⟨1, 8, some ([.nilf]), .func, true⟩
theorem y43 : tiOf Try.prog 43 = some T43 := by kernel_rfl
instance : TiOf Try.prog 43 T43 := ⟨y43⟩
abbrev T44 : TI := ⟨4, 32, some (u64s (List.replicate 4 0)), .array 4 33, true⟩
theorem y44 : tiOf Try.prog 44 = some T44 := by kernel_rfl
instance : TiOf Try.prog 44 T44 := ⟨y44⟩
abbrev T45 : TI := ⟨4, 32, some (u64s (List.replicate 4 0)), .struct [(0, 44)], true⟩
theorem y45 : tiOf Try.prog 45 = some T45 := by kernel_rfl
instance : TiOf Try.prog 45 T45 := ⟨y45⟩
abbrev T46 : TI := ⟨4, 32, some (u64s (List.replicate 4 0)), .struct [(0, 44)], true⟩
theorem y46 : tiOf Try.prog 46 = some T46 := by kernel_rfl
instance : TiOf Try.prog 46 T46 := ⟨y46⟩
abbrev T47 : TI := ⟨1, 8, some ([.nilf]), .func, true⟩
theorem y47 : tiOf Try.prog 47 = some T47 := by kernel_rfl
instance : TiOf Try.prog 47 T47 := ⟨y47⟩
abbrev T48 : TI := ⟨1, 8, some ([.nilp]), .ptr 51, true⟩
theorem y48 : tiOf Try.prog 48 = some T48 := by kernel_rfl
instance : TiOf Try.prog 48 T48 := ⟨y48⟩
abbrev T49 : TI := ⟨1, 8, some ([.nilf]), .func, true⟩
theorem y49 : tiOf Try.prog 49 = some T49 := by kernel_rfl
instance : TiOf Try.prog 49 T49 := ⟨y49⟩
abbrev T50 : TI := ⟨16, 128, some (u64s (List.replicate 16 0)), .struct [(0, 46), (4, 46), (8, 46), (12, 46)], true⟩
theorem y50 : tiOf Try.prog 50 = some T50 := by kernel_rfl
instance : TiOf Try.prog 50 T50 := ⟨y50⟩
abbrev T51 : TI := ⟨16, 128, some (u64s (List.replicate 16 0)), .struct [(0, 46), (4, 46), (8, 46), (12, 46)], true⟩
theorem y51 : tiOf Try.prog 51 = some T51 := by kernel_rfl
instance : TiOf Try.prog 51 T51 := ⟨y51⟩
abbrev T52 : TI := ⟨1, 8, some ([.nilf]), .func, true⟩
theorem y52 : tiOf Try.prog 52 = some T52 := by kernel_rfl
instance : TiOf Try.prog 52 T52 := ⟨y52⟩
abbrev T53 : TI := ⟨1, 8, some ([.nilf]), .func, true⟩
theorem y53 : tiOf Try.prog 53 = some T53 := by kernel_rfl
instance : TiOf Try.prog 53 T53 := ⟨y53⟩
abbrev T54 : TI := ⟨1, 8, some ([.nilf]), .func, true⟩
theorem y54 : tiOf Try.prog 54 = some T54 := by kernel_rfl
instance : TiOf Try.prog 54 T54 := ⟨y54⟩
abbrev T55 : TI := ⟨1, 8, some ([.nilf]), .func, true⟩
theorem y55 : tiOf Try.prog 55 = some T55 := by kernel_rfl
instance : TiOf Try.prog 55 T55 := ⟨y55⟩
abbrev T56 : TI := ⟨1, 8, some ([.nilf]), .func, true⟩
theorem y56 : tiOf Try.prog 56 = some T56 := by kernel_rfl
instance : TiOf Try.prog 56 T56 := ⟨y56⟩
abbrev T57 : TI := ⟨1, 24, some ([.nils]), .slice 33, true⟩
theorem y57 : tiOf Try.prog 57 = some T57 := by kernel_rfl
instance : TiOf Try.prog 57 T57 := ⟨y57⟩
abbrev T58 : TI := ⟨1, 8, some ([.nilf]), .func, true⟩
theorem y58 : tiOf Try.prog 58 = some T58 := by kernel_rfl
instance : TiOf Try.prog 58 T58 := ⟨y58⟩
abbrev T59 : TI := ⟨1, 8, some ([.nilf]), .func, true⟩
theorem y59 : tiOf Try.prog 59 = some T59 := by kernel_rfl
instance : TiOf Try.prog 59 T59 := ⟨y59⟩
abbrev T60 : TI := ⟨1, 8, some ([.nilf]), .func, true⟩
theorem y60 : tiOf Try.prog 60 = some T60 := by kernel_rfl
instance : TiOf Try.prog 60 T60 := ⟨y60⟩
abbrev T61 : TI := ⟨1, 8, some ([.nilf]), .func, true⟩
theorem y61 : tiOf Try.prog 61 = some T61 := by kernel_rfl
instance : TiOf Try.prog 61 T61 := ⟨y61⟩
abbrev T62 : TI := ⟨1, 8, some ([.nilf]), .func, true⟩
theorem y62 : tiOf Try.prog 62 = some T62 := by kernel_rfl
instance : TiOf Try.prog 62 T62 := ⟨y62⟩
abbrev T64 : TI := ⟨1, 8, some ([.nilf]), .func, true⟩
theorem y64 : tiOf Try.prog 64 = some T64 := by kernel_rfl
instance : TiOf Try.prog 64 T64 := ⟨y64⟩
abbrev T65 : TI := ⟨8, 64, some (u64s (List.replicate 8 0)), .array 8 33, true⟩
theorem y65 : tiOf Try.prog 65 = some T65 := by kernel_rfl
instance : TiOf Try.prog 65 T65 := ⟨y65⟩
abbrev T67 : TI := ⟨1, 8, some ([.nilf]), .func, true⟩
theorem y67 : tiOf Try.prog 67 = some T67 := by kernel_rfl
instance : TiOf Try.prog 67 T67 := ⟨y67⟩
abbrev T68 : TI := ⟨1, 8, some ([.nilf]), .func, true⟩
theorem y68 : tiOf Try.prog 68 = some T68 := by kernel_rfl
instance : TiOf Try.prog 68 T68 := ⟨y68⟩
abbrev T69 : TI := ⟨1, 8, some ([.nilf]), .func, true⟩
theorem y69 : tiOf Try.prog 69 = some T69 := by kernel_rfl
instance : TiOf Try.prog 69 T69 := ⟨y69⟩
abbrev T70 : TI := ⟨1, 8, some ([.nilf]), .func, true⟩
theorem y70 : tiOf Try.prog 70 = some T70 := by kernel_rfl
instance : TiOf Try.prog 70 T70 := ⟨y70⟩
abbrev T71 : TI := ⟨1, 8, some ([.nilf]), .func, true⟩
theorem y71 : tiOf Try.prog 71 = some T71 := by kernel_rfl
instance : TiOf Try.prog 71 T71 := ⟨y71⟩
abbrev T72 : TI := ⟨1, 8, some ([.nilf]), .func, true⟩
theorem y72 : tiOf Try.prog 72 = some T72 := by kernel_rfl
instance : TiOf Try.prog 72 T72 := ⟨y72⟩
abbrev T73 : TI := ⟨1, 8, some ([.nilf]), .func, true⟩
theorem y73 : tiOf Try.prog 73 = some T73 := by kernel_rfl
instance : TiOf Try.prog 73 T73 := ⟨y73⟩
abbrev T74 : TI := ⟨1, 8, some ([.nilf]), .func, true⟩
theorem y74 : tiOf Try.prog 74 = some T74 := by kernel_rfl
instance : TiOf Try.prog 74 T74 := ⟨y74⟩
abbrev T75 : TI := ⟨1, 8, some ([.nilf]), .func, true⟩
theorem y75 : tiOf Try.prog 75 = some T75 := by kernel_rfl
instance : TiOf Try.prog 75 T75 := ⟨y75⟩
abbrev T76 : TI := ⟨4, 40, some ([.nilp, .nilp, .nilp, .str ⟨#[]⟩]), .struct [(0, 17), (1, 17), (2, 17), (3, 9)], true⟩
theorem y76 : tiOf Try.prog 76 = some T76 := by kernel_rfl
instance : TiOf Try.prog 76 T76 := ⟨y76⟩
abbrev T77 : TI := ⟨4, 40, some ([.nilp, .nilp, .nilp, .str ⟨#[]⟩]), .struct [(0, 17), (1, 17), (2, 17), (3, 9)], true⟩
theorem y77 : tiOf Try.prog 77 = some T77 := by kernel_rfl
instance : TiOf Try.prog 77 T77 := ⟨y77⟩
abbrev T78 : TI := ⟨0, 0, some ([]), .array 0 16, true⟩
theorem y78 : tiOf Try.prog 78 = some T78 := by kernel_rfl
instance : TiOf Try.prog 78 T78 := ⟨y78⟩
abbrev T79 : TI := ⟨0, 0, some ([]), .struct [(0, 78)], true⟩
theorem y79 : tiOf Try.prog 79 = some T79 := by kernel_rfl
instance : TiOf Try.prog 79 T79 := ⟨y79⟩
abbrev T80 : TI := ⟨0, 0, some ([]), .struct [(0, 78)], true⟩
theorem y80 : tiOf Try.prog 80 = some T80 := by kernel_rfl
instance : TiOf Try.prog 80 T80 := ⟨y80⟩
abbrev T81 : TI := ⟨1, 8, some ([.nilf]), .func, true⟩
theorem y81 : tiOf Try.prog 81 = some T81 := by kernel_rfl
instance : TiOf Try.prog 81 T81 := ⟨y81⟩
abbrev T82 : TI := ⟨1, 4, some ([c32 0]), .int .u32, true⟩
theorem y82 : tiOf Try.prog 82 = some T82 := by kernel_rfl
instance : TiOf Try.prog 82 T82 := ⟨y82⟩
abbrev T83 : TI := ⟨1, 1, some ([c8 0]), .int .u8, true⟩
theorem y83 : tiOf Try.prog 83 = some T83 := by kernel_rfl
instance : TiOf Try.prog 83 T83 := ⟨y83⟩
abbrev T84 : TI := ⟨1, 1, some ([c8 0]), .int .u8, true⟩
theorem y84 : tiOf Try.prog 84 = some T84 := by kernel_rfl
instance : TiOf Try.prog 84 T84 := ⟨y84⟩
abbrev T85 : TI := ⟨1, 8, some ([.nilf]), .func, true⟩
theorem y85 : tiOf Try.prog 85 = some T85 := by kernel_rfl
instance : TiOf Try.prog 85 T85 := ⟨y85⟩
abbrev T86 : TI := ⟨1, 8, some ([.nilp]), .ptr 5, true⟩
theorem y86 : tiOf Try.prog 86 = some T86 := by kernel_rfl
instance : TiOf Try.prog 86 T86 := ⟨y86⟩
abbrev T87 : TI := ⟨1, 4, some ([.int .i32 0]), .int .i32, true⟩
theorem y87 : tiOf Try.prog 87 = some T87 := by kernel_rfl
instance : TiOf Try.prog 87 T87 := ⟨y87⟩
abbrev T88 : TI := ⟨1, 4, some ([.int .i32 0]), .int .i32, true⟩
theorem y88 : tiOf Try.prog 88 = some T88 := by kernel_rfl
instance : TiOf Try.prog 88 T88 := ⟨y88⟩
abbrev T89 : TI := ⟨11, 48, some ([c64 0, c64 0, c32 0] ++ u8s (List.replicate 4 0) ++ [.nilf, .nilp, .int .i32 0, .int .i32 0]), .struct [(0, 12), (1, 12), (2, 82), (3, 83), (4, 5), (5, 5), (6, 84), (7, 85), (8, 86), (9, 87), (10, 88)], true⟩
theorem y89 : tiOf Try.prog 89 = some T89 := by kernel_rfl
instance : TiOf Try.prog 89 T89 := ⟨y89⟩
abbrev T90 : TI := ⟨11, 48, some ([c64 0, c64 0, c32 0] ++ u8s (List.replicate 4 0) ++ [.nilf, .nilp, .int .i32 0, .int .i32 0]), .struct [(0, 12), (1, 12), (2, 82), (3, 83), (4, 5), (5, 5), (6, 84), (7, 85), (8, 86), (9, 87), (10, 88)], true⟩
theorem y90 : tiOf Try.prog 90 = some T90 := by kernel_rfl
instance : TiOf Try.prog 90 T90 := ⟨y90⟩
instance : ZT Try.prog 1 T1 ([.nilf]) := ⟨y1, rfl⟩
instance : ZT Try.prog 2 T2 ([cn 0]) := ⟨y2, rfl⟩
instance : ZT Try.prog 3 T3 ([cn 0]) := ⟨y3, rfl⟩
instance : ZT Try.prog 4 T4 ([.bool false]) := ⟨y4, rfl⟩
instance : ZT Try.prog 5 T5 ([c8 0]) := ⟨y5, rfl⟩
instance : ZT Try.prog 6 T6 ([c8 0]) := ⟨y6, rfl⟩
instance : ZT Try.prog 7 T7 ([cn 0, cn 0, .bool false, c8 0]) := ⟨y7, rfl⟩
instance : StT Try.prog 7 T7 [(0, 2), (1, 3), (2, 4), (3, 6)] := ⟨y7, rfl⟩
instance : ZT Try.prog 8 T8 ([cn 0, cn 0, .bool false, c8 0]) := ⟨y8, rfl⟩
instance : StT Try.prog 8 T8 [(0, 2), (1, 3), (2, 4), (3, 6)] := ⟨y8, rfl⟩
instance : ZT Try.prog 9 T9 ([.str ⟨#[]⟩]) := ⟨y9, rfl⟩
instance : ZT Try.prog 10 T10 ([.str ⟨#[]⟩]) := ⟨y10, rfl⟩
instance : ZT Try.prog 11 T11 ([.str ⟨#[]⟩]) := ⟨y11, rfl⟩
instance : ZT Try.prog 12 T12 ([c64 0]) := ⟨y12, rfl⟩
instance : ZT Try.prog 13 T13 ([.str ⟨#[]⟩, c64 0]) := ⟨y13, rfl⟩
instance : StT Try.prog 13 T13 [(0, 9), (1, 12)] := ⟨y13, rfl⟩
instance : ZT Try.prog 14 T14 ([.str ⟨#[]⟩, c64 0]) := ⟨y14, rfl⟩
instance : StT Try.prog 14 T14 [(0, 9), (1, 12)] := ⟨y14, rfl⟩
instance : ZT Try.prog 15 T15 ([.nilp]) := ⟨y15, rfl⟩
instance : ZT Try.prog 16 T16 ([.nilp]) := ⟨y16, rfl⟩
instance : ZT Try.prog 17 T17 ([.nilp]) := ⟨y17, rfl⟩
instance : ZT Try.prog 18 T18 ([.nilp]) := ⟨y18, rfl⟩
instance : StT Try.prog 18 T18 [(0, 17)] := ⟨y18, rfl⟩
instance : ZT Try.prog 19 T19 ([.nilp]) := ⟨y19, rfl⟩
instance : StT Try.prog 19 T19 [(0, 17)] := ⟨y19, rfl⟩
instance : ZT Try.prog 21 T21 ([.int .i32 0]) := ⟨y21, rfl⟩
instance : ZT Try.prog 22 T22 (u8s (List.replicate 32 0)) := ⟨y22, rfl⟩
instance : ZT Try.prog 23 T23 (u8s (List.replicate 32 0)) := ⟨y23, rfl⟩
instance : ZT Try.prog 24 T24 ([.nilf]) := ⟨y24, rfl⟩
instance : ZT Try.prog 25 T25 ([cn 0]) := ⟨y25, rfl⟩
instance : ZT Try.prog 27 T27 ([.nilf]) := ⟨y27, rfl⟩
instance : ZT Try.prog 28 T28 ([.nilf]) := ⟨y28, rfl⟩
instance : ZT Try.prog 29 T29 ([.nilf]) := ⟨y29, rfl⟩
instance : ZT Try.prog 30 T30 ([.nilf]) := ⟨y30, rfl⟩
instance : ZT Try.prog 31 T31 ([.nilf]) := ⟨y31, rfl⟩
instance : ZT Try.prog 32 T32 ([.nilf]) := ⟨y32, rfl⟩
instance : ZT Try.prog 33 T33 ([c64 0]) := ⟨y33, rfl⟩
instance : ZT Try.prog 34 T34 (u64s (List.replicate 16 0)) := ⟨y34, rfl⟩
instance : ZT Try.prog 35 T35 (u64s (List.replicate 16 0)) := ⟨y35, rfl⟩
instance : ZT Try.prog 36 T36 ([.nilf]) := ⟨y36, rfl⟩
instance : ZT Try.prog 37 T37 ([.nilf]) := ⟨y37, rfl⟩
instance : ZT Try.prog 38 T38 ([.nilf]) := ⟨y38, rfl⟩
instance : ZT Try.prog 39 T39 ([.nils]) := ⟨y39, rfl⟩
instance : ZT Try.prog 40 T40 ([.nilf]) := ⟨y40, rfl⟩
instance : ZT Try.prog 41 T41 ([.nilf]) := ⟨y41, rfl⟩
instance : ZT Try.prog 42 T42 ([c64 0]) := ⟨y42, rfl⟩
instance : ZT Try.prog 43 T43 ([.nilf]) := ⟨y43, rfl⟩
instance : ZT Try.prog 44 T44 (u64s (List.replicate 4 0)) := ⟨y44, rfl⟩
instance : ZT Try.prog 45 T45 (u64s (List.replicate 4 0)) := ⟨y45, rfl⟩
instance : StT Try.prog 45 T45 [(0, 44)] := ⟨y45, rfl⟩
instance : ZT Try.prog 46 T46 (u64s (List.replicate 4 0)) := ⟨y46, rfl⟩
instance : StT Try.prog 46 T46 [(0, 44)] := ⟨y46, rfl⟩
instance : ZT Try.prog 47 T47 ([.nilf]) := ⟨y47, rfl⟩
instance : ZT Try.prog 48 T48 ([.nilp]) := ⟨y48, rfl⟩
instance : ZT Try.prog 49 T49 ([.nilf]) := ⟨y49, rfl⟩
instance : ZT Try.prog 50 T50 (u64s (List.replicate 16 0)) := ⟨y50, rfl⟩
instance : StT Try.prog 50 T50 [(0, 46), (4, 46), (8, 46), (12, 46)] := ⟨y50, rfl⟩
instance : ZT Try.prog 51 T51 (u64s (List.replicate 16 0)) := ⟨y51, rfl⟩
instance : StT Try.prog 51 T51 [(0, 46), (4, 46), (8, 46), (12, 46)] := ⟨y51, rfl⟩
instance : ZT Try.prog 52 T52 ([.nilf]) := ⟨y52, rfl⟩
instance : ZT Try.prog 53 T53 ([.nilf]) := ⟨y53, rfl⟩
instance : ZT Try.prog 54 T54 ([.nilf]) := ⟨y54, rfl⟩
instance : ZT Try.prog 55 T55 ([.nilf]) := ⟨y55, rfl⟩
instance : ZT Try.prog 56 T56 ([.nilf]) := ⟨y56, rfl⟩
instance : ZT Try.prog 57 T57 ([.nils]) := ⟨y57, rfl⟩
instance : ZT Try.prog 58 T58 ([.nilf]) := ⟨y58, rfl⟩
instance : ZT Try.prog 59 T59 ([.nilf]) := ⟨y59, rfl⟩
instance : ZT Try.prog 60 T60 ([.nilf]) := ⟨y60, rfl⟩
instance : ZT Try.prog 61 T61 ([.nilf]) := ⟨y61, rfl⟩
instance : ZT Try.prog 62 T62 ([.nilf]) := ⟨y62, rfl⟩
instance : ZT Try.prog 64 T64 ([.nilf]) := ⟨y64, rfl⟩
instance : ZT Try.prog 65 T65 (u64s (List.replicate 8 0)) := ⟨y65, rfl⟩
instance : ZT Try.prog 67 T67 ([.nilf]) := ⟨y67, rfl⟩
instance : ZT Try.prog 68 T68 ([.nilf]) := ⟨y68, rfl⟩
instance : ZT Try.prog 69 T69 ([.nilf]) := ⟨y69, rfl⟩
instance : ZT Try.prog 70 T70 ([.nilf]) := ⟨y70, rfl⟩
instance : ZT Try.prog 71 T71 ([.nilf]) := ⟨y71, rfl⟩
instance : ZT Try.prog 72 T72 ([.nilf]) := ⟨y72, rfl⟩
instance : ZT Try.prog 73 T73 ([.nilf]) := ⟨y73, rfl⟩
instance : ZT Try.prog 74 T74 ([.nilf]) := ⟨y74, rfl⟩
instance : ZT Try.prog 75 T75 ([.nilf]) := ⟨y75, rfl⟩
instance : ZT Try.prog 76 T76 ([.nilp, .nilp, .nilp, .str ⟨#[]⟩]) := ⟨y76, rfl⟩
instance : StT Try.prog 76 T76 [(0, 17), (1, 17), (2, 17), (3, 9)] := ⟨y76, rfl⟩
instance : ZT Try.prog 77 T77 ([.nilp, .nilp, .nilp, .str ⟨#[]⟩]) := ⟨y77, rfl⟩
instance : StT Try.prog 77 T77 [(0, 17), (1, 17), (2, 17), (3, 9)] := ⟨y77, rfl⟩
instance : ZT Try.prog 78 T78 ([]) := ⟨y78, rfl⟩
instance : ZT Try.prog 79 T79 ([]) := ⟨y79, rfl⟩
instance : StT Try.prog 79 T79 [(0, 78)] := ⟨y79, rfl⟩
instance : ZT Try.prog 80 T80 ([]) := ⟨y80, rfl⟩
instance : StT Try.prog 80 T80 [(0, 78)] := ⟨y80, rfl⟩
instance : ZT Try.prog 81 T81 ([.nilf]) := ⟨y81, rfl⟩
instance : ZT Try.prog 82 T82 ([c32 0]) := ⟨y82, rfl⟩
instance : ZT Try.prog 83 T83 ([c8 0]) := ⟨y83, rfl⟩
instance : ZT Try.prog 84 T84 ([c8 0]) := ⟨y84, rfl⟩
instance : ZT Try.prog 85 T85 ([.nilf]) := ⟨y85, rfl⟩
instance : ZT Try.prog 86 T86 ([.nilp]) := ⟨y86, rfl⟩
instance : ZT Try.prog 87 T87 ([.int .i32 0]) := ⟨y87, rfl⟩
instance : ZT Try.prog 88 T88 ([.int .i32 0]) := ⟨y88, rfl⟩
instance : ZT Try.prog 89 T89 ([c64 0, c64 0, c32 0] ++ u8s (List.replicate 4 0) ++ [.nilf, .nilp, .int .i32 0, .int .i32 0]) := ⟨y89, rfl⟩
instance : StT Try.prog 89 T89 [(0, 12), (1, 12), (2, 82), (3, 83), (4, 5), (5, 5), (6, 84), (7, 85), (8, 86), (9, 87), (10, 88)] := ⟨y89, rfl⟩
instance : ZT Try.prog 90 T90 ([c64 0, c64 0, c32 0] ++ u8s (List.replicate 4 0) ++ [.nilf, .nilp, .int .i32 0, .int .i32 0]) := ⟨y90, rfl⟩
instance : StT Try.prog 90 T90 [(0, 12), (1, 12), (2, 82), (3, 83), (4, 5), (5, 5), (6, 84), (7, 85), (8, 86), (9, 87), (10, 88)] := ⟨y90, rfl⟩
instance : FdT Try.prog 7 0 T7 [(0, 2), (1, 3), (2, 4), (3, 6)] 0 2 T2 1 := ⟨y7, rfl, rfl, y2, rfl⟩
instance : FdT Try.prog 7 1 T7 [(0, 2), (1, 3), (2, 4), (3, 6)] 1 3 T3 1 := ⟨y7, rfl, rfl, y3, rfl⟩
instance : FdT Try.prog 7 2 T7 [(0, 2), (1, 3), (2, 4), (3, 6)] 2 4 T4 1 := ⟨y7, rfl, rfl, y4, rfl⟩
instance : FdT Try.prog 7 3 T7 [(0, 2), (1, 3), (2, 4), (3, 6)] 3 6 T6 1 := ⟨y7, rfl, rfl, y6, rfl⟩
instance : FdT Try.prog 8 0 T8 [(0, 2), (1, 3), (2, 4), (3, 6)] 0 2 T2 1 := ⟨y8, rfl, rfl, y2, rfl⟩
instance : FdT Try.prog 8 1 T8 [(0, 2), (1, 3), (2, 4), (3, 6)] 1 3 T3 1 := ⟨y8, rfl, rfl, y3, rfl⟩
instance : FdT Try.prog 8 2 T8 [(0, 2), (1, 3), (2, 4), (3, 6)] 2 4 T4 1 := ⟨y8, rfl, rfl, y4, rfl⟩
instance : FdT Try.prog 8 3 T8 [(0, 2), (1, 3), (2, 4), (3, 6)] 3 6 T6 1 := ⟨y8, rfl, rfl, y6, rfl⟩
instance : FdT Try.prog 13 0 T13 [(0, 9), (1, 12)] 0 9 T9 1 := ⟨y13, rfl, rfl, y9, rfl⟩
instance : FdT Try.prog 13 1 T13 [(0, 9), (1, 12)] 1 12 T12 1 := ⟨y13, rfl, rfl, y12, rfl⟩
instance : FdT Try.prog 14 0 T14 [(0, 9), (1, 12)] 0 9 T9 1 := ⟨y14, rfl, rfl, y9, rfl⟩
instance : FdT Try.prog 14 1 T14 [(0, 9), (1, 12)] 1 12 T12 1 := ⟨y14, rfl, rfl, y12, rfl⟩
instance : FdT Try.prog 18 0 T18 [(0, 17)] 0 17 T17 1 := ⟨y18, rfl, rfl, y17, rfl⟩
instance : FdT Try.prog 19 0 T19 [(0, 17)] 0 17 T17 1 := ⟨y19, rfl, rfl, y17, rfl⟩
instance : ArT Try.prog 22 T22 32 5 T5 1 := ⟨y22, rfl, y5, rfl⟩
instance : ArT Try.prog 23 T23 32 5 T5 1 := ⟨y23, rfl, y5, rfl⟩
instance : ArT Try.prog 34 T34 16 33 T33 1 := ⟨y34, rfl, y33, rfl⟩
instance : ArT Try.prog 35 T35 16 33 T33 1 := ⟨y35, rfl, y33, rfl⟩
instance : SlT Try.prog 39 T39 23 T23 32 := ⟨y39, rfl, y23, rfl⟩
instance : ArT Try.prog 44 T44 4 33 T33 1 := ⟨y44, rfl, y33, rfl⟩
instance : FdT Try.prog 45 0 T45 [(0, 44)] 0 44 T44 4 := ⟨y45, rfl, rfl, y44, rfl⟩
instance : FdT Try.prog 46 0 T46 [(0, 44)] 0 44 T44 4 := ⟨y46, rfl, rfl, y44, rfl⟩
instance : FdT Try.prog 50 0 T50 [(0, 46), (4, 46), (8, 46), (12, 46)] 0 46 T46 4 := ⟨y50, rfl, rfl, y46, rfl⟩
instance : FdT Try.prog 50 1 T50 [(0, 46), (4, 46), (8, 46), (12, 46)] 4 46 T46 4 := ⟨y50, rfl, rfl, y46, rfl⟩
instance : FdT Try.prog 50 2 T50 [(0, 46), (4, 46), (8, 46), (12, 46)] 8 46 T46 4 := ⟨y50, rfl, rfl, y46, rfl⟩
instance : FdT Try.prog 50 3 T50 [(0, 46), (4, 46), (8, 46), (12, 46)] 12 46 T46 4 := ⟨y50, rfl, rfl, y46, rfl⟩
instance : FdT Try.prog 51 0 T51 [(0, 46), (4, 46), (8, 46), (12, 46)] 0 46 T46 4 := ⟨y51, rfl, rfl, y46, rfl⟩
instance : FdT Try.prog 51 1 T51 [(0, 46), (4, 46), (8, 46), (12, 46)] 4 46 T46 4 := ⟨y51, rfl, rfl, y46, rfl⟩
instance : FdT Try.prog 51 2 T51 [(0, 46), (4, 46), (8, 46), (12, 46)] 8 46 T46 4 := ⟨y51, rfl, rfl, y46, rfl⟩
instance : FdT Try.prog 51 3 T51 [(0, 46), (4, 46), (8, 46), (12, 46)] 12 46 T46 4 := ⟨y51, rfl, rfl, y46, rfl⟩
instance : SlT Try.prog 57 T57 33 T33 1 := ⟨y57, rfl, y33, rfl⟩
instance : ArT Try.prog 65 T65 8 33 T33 1 := ⟨y65, rfl, y33, rfl⟩
instance : FdT Try.prog 76 0 T76 [(0, 17), (1, 17), (2, 17), (3, 9)] 0 17 T17 1 := ⟨y76, rfl, rfl, y17, rfl⟩
instance : FdT Try.prog 76 1 T76 [(0, 17), (1, 17), (2, 17), (3, 9)] 1 17 T17 1 := ⟨y76, rfl, rfl, y17, rfl⟩
instance : FdT Try.prog 76 2 T76 [(0, 17), (1, 17), (2, 17), (3, 9)] 2 17 T17 1 := ⟨y76, rfl, rfl, y17, rfl⟩
instance : FdT Try.prog 76 3 T76 [(0, 17), (1, 17), (2, 17), (3, 9)] 3 9 T9 1 := ⟨y76, rfl, rfl, y9, rfl⟩
instance : FdT Try.prog 77 0 T77 [(0, 17), (1, 17), (2, 17), (3, 9)] 0 17 T17 1 := ⟨y77, rfl, rfl, y17, rfl⟩
instance : FdT Try.prog 77 1 T77 [(0, 17), (1, 17), (2, 17), (3, 9)] 1 17 T17 1 := ⟨y77, rfl, rfl, y17, rfl⟩
instance : FdT Try.prog 77 2 T77 [(0, 17), (1, 17), (2, 17), (3, 9)] 2 17 T17 1 := ⟨y77, rfl, rfl, y17, rfl⟩
instance : FdT Try.prog 77 3 T77 [(0, 17), (1, 17), (2, 17), (3, 9)] 3 9 T9 1 := ⟨y77, rfl, rfl, y9, rfl⟩
instance : ArT Try.prog 78 T78 0 16 T16 1 := ⟨y78, rfl, y16, rfl⟩
instance : FdT Try.prog 79 0 T79 [(0, 78)] 0 78 T78 0 := ⟨y79, rfl, rfl, y78, rfl⟩
instance : FdT Try.prog 80 0 T80 [(0, 78)] 0 78 T78 0 := ⟨y80, rfl, rfl, y78, rfl⟩
instance : FdT Try.prog 89 0 T89 [(0, 12), (1, 12), (2, 82), (3, 83), (4, 5), (5, 5), (6, 84), (7, 85), (8, 86), (9, 87), (10, 88)] 0 12 T12 1 := ⟨y89, rfl, rfl, y12, rfl⟩
instance : FdT Try.prog 89 1 T89 [(0, 12), (1, 12), (2, 82), (3, 83), (4, 5), (5, 5), (6, 84), (7, 85), (8, 86), (9, 87), (10, 88)] 1 12 T12 1 := ⟨y89, rfl, rfl, y12, rfl⟩
instance : FdT Try.prog 89 2 T89 [(0, 12), (1, 12), (2, 82), (3, 83), (4, 5), (5, 5), (6, 84), (7, 85), (8, 86), (9, 87), (10, 88)] 2 82 T82 1 := ⟨y89, rfl, rfl, y82, rfl⟩
instance : FdT Try.prog 89 3 T89 [(0, 12), (1, 12), (2, 82), (3, 83), (4, 5), (5, 5), (6, 84), (7, 85), (8, 86), (9, 87), (10, 88)] 3 83 T83 1 := ⟨y89, rfl, rfl, y83, rfl⟩
instance : FdT Try.prog 89 4 T89 [(0, 12), (1, 12), (2, 82), (3, 83), (4, 5), (5, 5), (6, 84), (7, 85), (8, 86), (9, 87), (10, 88)] 4 5 T5 1 := ⟨y89, rfl, rfl, y5, rfl⟩
instance : FdT Try.prog 89 5 T89 [(0, 12), (1, 12), (2, 82), (3, 83), (4, 5), (5, 5), (6, 84), (7, 85), (8, 86), (9, 87), (10, 88)] 5 5 T5 1 := ⟨y89, rfl, rfl, y5, rfl⟩
instance : FdT Try.prog 89 6 T89 [(0, 12), (1, 12), (2, 82), (3, 83), (4, 5), (5, 5), (6, 84), (7, 85), (8, 86), (9, 87), (10, 88)] 6 84 T84 1 := ⟨y89, rfl, rfl, y84, rfl⟩
instance : FdT Try.prog 89 7 T89 [(0, 12), (1, 12), (2, 82), (3, 83), (4, 5), (5, 5), (6, 84), (7, 85), (8, 86), (9, 87), (10, 88)] 7 85 T85 1 := ⟨y89, rfl, rfl, y85, rfl⟩
instance : FdT Try.prog 89 8 T89 [(0, 12), (1, 12), (2, 82), (3, 83), (4, 5), (5, 5), (6, 84), (7, 85), (8, 86), (9, 87), (10, 88)] 8 86 T86 1 := ⟨y89, rfl, rfl, y86, rfl⟩
instance : FdT Try.prog 89 9 T89 [(0, 12), (1, 12), (2, 82), (3, 83), (4, 5), (5, 5), (6, 84), (7, 85), (8, 86), (9, 87), (10, 88)] 9 87 T87 1 := ⟨y89, rfl, rfl, y87, rfl⟩
instance : FdT Try.prog 89 10 T89 [(0, 12), (1, 12), (2, 82), (3, 83), (4, 5), (5, 5), (6, 84), (7, 85), (8, 86), (9, 87), (10, 88)] 10 88 T88 1 := ⟨y89, rfl, rfl, y88, rfl⟩
instance : FdT Try.prog 90 0 T90 [(0, 12), (1, 12), (2, 82), (3, 83), (4, 5), (5, 5), (6, 84), (7, 85), (8, 86), (9, 87), (10, 88)] 0 12 T12 1 := ⟨y90, rfl, rfl, y12, rfl⟩
instance : FdT Try.prog 90 1 T90 [(0, 12), (1, 12), (2, 82), (3, 83), (4, 5), (5, 5), (6, 84), (7, 85), (8, 86), (9, 87), (10, 88)] 1 12 T12 1 := ⟨y90, rfl, rfl, y12, rfl⟩
instance : FdT Try.prog 90 2 T90 [(0, 12), (1, 12), (2, 82), (3, 83), (4, 5), (5, 5), (6, 84), (7, 85), (8, 86), (9, 87), (10, 88)] 2 82 T82 1 := ⟨y90, rfl, rfl, y82, rfl⟩
instance : FdT Try.prog 90 3 T90 [(0, 12), (1, 12), (2, 82), (3, 83), (4, 5), (5, 5), (6, 84), (7, 85), (8, 86), (9, 87), (10, 88)] 3 83 T83 1 := ⟨y90, rfl, rfl, y83, rfl⟩
instance : FdT Try.prog 90 4 T90 [(0, 12), (1, 12), (2, 82), (3, 83), (4, 5), (5, 5), (6, 84), (7, 85), (8, 86), (9, 87), (10, 88)] 4 5 T5 1 := ⟨y90, rfl, rfl, y5, rfl⟩
instance : FdT Try.prog 90 5 T90 [(0, 12), (1, 12), (2, 82), (3, 83), (4, 5), (5, 5), (6, 84), (7, 85), (8, 86), (9, 87), (10, 88)] 5 5 T5 1 := ⟨y90, rfl, rfl, y5, rfl⟩
instance : FdT Try.prog 90 6 T90 [(0, 12), (1, 12), (2, 82), (3, 83), (4, 5), (5, 5), (6, 84), (7, 85), (8, 86), (9, 87), (10, 88)] 6 84 T84 1 := ⟨y90, rfl, rfl, y84, rfl⟩
instance : FdT Try.prog 90 7 T90 [(0, 12), (1, 12), (2, 82), (3, 83), (4, 5), (5, 5), (6, 84), (7, 85), (8, 86), (9, 87), (10, 88)] 7 85 T85 1 := ⟨y90, rfl, rfl, y85, rfl⟩
instance : FdT Try.prog 90 8 T90 [(0, 12), (1, 12), (2, 82), (3, 83), (4, 5), (5, 5), (6, 84), (7, 85), (8, 86), (9, 87), (10, 88)] 8 86 T86 1 := ⟨y90, rfl, rfl, y86, rfl⟩
instance : FdT Try.prog 90 9 T90 [(0, 12), (1, 12), (2, 82), (3, 83), (4, 5), (5, 5), (6, 84), (7, 85), (8, 86), (9, 87), (10, 88)] 9 87 T87 1 := ⟨y90, rfl, rfl, y87, rfl⟩
instance : FdT Try.prog 90 10 T90 [(0, 12), (1, 12), (2, 82), (3, 83), (4, 5), (5, 5), (6, 84), (7, 85), (8, 86), (9, 87), (10, 88)] 10 88 T88 1 := ⟨y90, rfl, rfl, y88, rfl⟩
instance : AddX Try.prog 41 := ⟨fun x y c hc => add_ext (fn := Try.f41) (by kernel_rfl) (by kernel_rfl) (by kernel_rfl) (by kernel_rfl) (by kernel_rfl) x y c hc⟩
instance : SubX Try.prog 48 := ⟨fun x y c hc => sub_ext (fn := Try.f48) (by kernel_rfl) (by kernel_rfl) (by kernel_rfl) (by kernel_rfl) (by kernel_rfl) x y c hc⟩
end Go.Proofs.Ytlidpcjinillfaa

/- Words: sums with a carry, differences with a borrow, products of two words, as numbers. -/
namespace Go.Abs
open Go

theorem addc_nat (x y c : UInt64) : (x + y + c).toNat + 18446744073709551616 * (addc x y c).toNat = x.toNat + y.toNat + c.toNat ∨ 1 < c.toNat := by
  have hx := x.toNat_lt
  have hy := y.toNat_lt
  have hc := c.toNat_lt
  rcases Nat.lt_or_ge 1 c.toNat with h | h
  · exact .inr h
  refine .inl ?_
  simp only [UInt64.toNat_add]
  unfold addc
  split
  · have : UInt64.toNat 1 = 1 := rfl
    rw [this]; omega
  · have : UInt64.toNat 0 = 0 := rfl
    rw [this]; omega
theorem addc_eq {x y c : UInt64} (h : c.toNat ≤ 1) : (x + y + c).toNat + 18446744073709551616 * (addc x y c).toNat = x.toNat + y.toNat + c.toNat :=
  (addc_nat x y c).resolve_right (by omega)
theorem subb_eq {x y c : UInt64} (h : c.toNat ≤ 1) : (x - y - c).toNat + y.toNat + c.toNat = x.toNat + 18446744073709551616 * (subb x y c).toNat := by
  have hx := x.toNat_lt
  have hy := y.toNat_lt
  rw [UInt64.toNat_sub, UInt64.toNat_sub]
  unfold subb
  split
  · have : UInt64.toNat 1 = 1 := rfl
    rw [this]; omega
  · have : UInt64.toNat 0 = 0 := rfl
    rw [this]; omega
/-- The upper word of a product. -/
def mulhi (x y : UInt64) : UInt64 :=
  shr64n x 32 * shr64n y 32 + shr64n (shr64n x 32 * (y &&& 4294967295) + shr64n ((x &&& 4294967295) * (y &&& 4294967295)) 32) 32 +
    shr64n ((shr64n x 32 * (y &&& 4294967295) + shr64n ((x &&& 4294967295) * (y &&& 4294967295)) 32 &&& 4294967295) + (x &&& 4294967295) * shr64n y 32) 32
theorem shr_nat (n : UInt64) (k : Nat) (h : k < 64) : (shr64n n k).toNat = n.toNat / 2 ^ k := by
  unfold shr64n
  simp [UInt64.toNat_shiftRight, Nat.shiftRight_eq_div_pow, h, Nat.mod_eq_of_lt h]
theorem low_nat (n : UInt64) : (n &&& 4294967295).toNat = n.toNat % 4294967296 := by
  rw [UInt64.toNat_and]
  exact Nat.and_two_pow_sub_one_eq_mod n.toNat 32
theorem mulhi_nat (x y : UInt64) : (mulhi x y).toNat = x.toNat * y.toNat / 18446744073709551616 := by
  have hx := x.toNat_lt
  have hy := y.toNat_lt
  have s32 : ∀ n : UInt64, (shr64n n 32).toNat = n.toNat / 4294967296 := fun n => shr_nat n 32 (by decide)
  have hx1 : x.toNat / 4294967296 < 4294967296 := by omega
  have hy1 : y.toNat / 4294967296 < 4294967296 := by omega
  have hx0 : x.toNat % 4294967296 < 4294967296 := Nat.mod_lt _ (by decide)
  have hy0 : y.toNat % 4294967296 < 4294967296 := Nat.mod_lt _ (by decide)
  have ex : x.toNat = 4294967296 * (x.toNat / 4294967296) + x.toNat % 4294967296 := (Nat.div_add_mod _ _).symm
  have ey : y.toNat = 4294967296 * (y.toNat / 4294967296) + y.toNat % 4294967296 := (Nat.div_add_mod _ _).symm
  unfold mulhi
  simp only [UInt64.toNat_add, UInt64.toNat_mul, s32, low_nat]
  rw [show x.toNat * y.toNat = (4294967296 * (x.toNat / 4294967296) + x.toNat % 4294967296) * (4294967296 * (y.toNat / 4294967296) + y.toNat % 4294967296) by rw [← ex, ← ey]]
  generalize x.toNat / 4294967296 = a at *
  generalize x.toNat % 4294967296 = b at *
  generalize y.toNat / 4294967296 = c at *
  generalize y.toNat % 4294967296 = d at *
  have m : ∀ u v : Nat, u < 4294967296 → v < 4294967296 → u * v ≤ 4294967295 * 4294967295 := fun u v hu hv => Nat.mul_le_mul (by omega) (by omega)
  have h1 := m a c hx1 hy1
  have h2 := m a d hx1 hy0
  have h3 := m b c hx0 hy1
  have h4 := m b d hx0 hy0
  have e : (4294967296 * a + b) * (4294967296 * c + d) = 18446744073709551616 * (a * c) + 4294967296 * (a * d + b * c) + b * d := by
    simp only [Nat.mul_add, Nat.add_mul]
    have e1 : 4294967296 * a * (4294967296 * c) = 18446744073709551616 * (a * c) := by rw [Nat.mul_mul_mul_comm]
    have e2 : 4294967296 * a * d = 4294967296 * (a * d) := Nat.mul_assoc ..
    have e3 : b * (4294967296 * c) = 4294967296 * (b * c) := by rw [Nat.mul_left_comm]
    omega
  rw [e]
  generalize a * c = p at *
  generalize a * d = q at *
  generalize b * c = r at *
  generalize b * d = s at *
  omega
/-- One place of a product's row: what stands there, what is carried on. -/
theorem row_eq (x y w v : UInt64) : (x * y + w + 0 + v + 0).toNat + 18446744073709551616 * (mulhi x y + addc (x * y) w 0 + addc (x * y + w + 0) v 0).toNat = x.toNat * y.toNat + w.toNat + v.toNat := by
  have hx := x.toNat_lt
  have hy := y.toNat_lt
  have hw := w.toNat_lt
  have hv := v.toNat_lt
  have h1 := addc_eq (x := x * y) (y := w) (c := 0) (by decide)
  have h2 := addc_eq (x := x * y + w + 0) (y := v) (c := 0) (by decide)
  have hm := mulhi_nat x y
  have hxy : (x * y).toNat = x.toNat * y.toNat % 18446744073709551616 := UInt64.toNat_mul ..
  have hb : x.toNat * y.toNat ≤ 18446744073709551615 * 18446744073709551615 := Nat.mul_le_mul (by omega) (by omega)
  have z : UInt64.toNat 0 = 0 := rfl
  rw [z] at h1 h2
  have c1 := addc_le (x * y) w 0
  have c2 := addc_le (x * y + w + 0) v 0
  rw [UInt64.toNat_add (mulhi x y + addc (x * y) w 0), UInt64.toNat_add (mulhi x y)]
  generalize (addc (x * y) w 0).toNat = k1 at *
  generalize (addc (x * y + w + 0) v 0).toNat = k2 at *
  generalize (x * y + w + 0 + v + 0).toNat = t at *
  generalize (x * y + w + 0).toNat = u at *
  rw [hm]
  rw [hxy] at h1
  generalize x.toNat * y.toNat = P at *
  omega
/-! Regions, with the memory told plainly first. -/
section
variable {P : Program} {n N id : Nat} {Q : Exit → St → Prop} {ops : Array Oper} {al : List (Nat × S)} {H H' : Heap}
theorem rln (h : aops P ops.toList (Q .normal) ops.toList ⟨frm N al, H'⟩) (hH : H = H' := by first | (simp only [List.set_cons_zero, List.set_cons_succ, List.cons_append, List.nil_append, List.append_nil]; done) | (simp only [List.set_cons_zero, List.set_cons_succ, List.cons_append, List.nil_append, List.append_nil]; exact rfl) | exact rfl) (hn : Nat.ble n H'.length = true := by exact rfl) : AWp P n (.region id ops false) Q ⟨frm N al, H⟩ := by
  subst hH; exact awp_region (Nat.le_of_ble_eq_true hn) h
theorem rdln (es lo hi : List Nat) (h : Dw P ops.toList lo hi (Q .normal) ops.toList 0 es [H'] [] (frm N al)) (hH : H = H' := by first | (simp only [List.set_cons_zero, List.set_cons_succ, List.cons_append, List.nil_append, List.append_nil]; done) | (simp only [List.set_cons_zero, List.set_cons_succ, List.cons_append, List.nil_append, List.append_nil]; exact rfl) | exact rfl) (hn : Nat.ble n H'.length = true := by exact rfl) (hm : P.follows .mixedOrders = true := by exact rfl) (hB : drawE ops.toList es lo hi = true := by decide +kernel) : AWp P n (.region id ops true) Q ⟨frm N al, H⟩ := by
  subst hH; exact awp_drawE es lo hi hm hB (Nat.le_of_ble_eq_true hn) h
end
/-! In a region that draws its order: a struct or an array inside a block. -/
section
variable {P : Program} {N : Nat} {al : List (Nat × S)} {H : Heap} {ops r : List Oper} {q : St → Prop} {oty : TypeId} {ops_ : String} {oaf : Array Edge} {d j w : Nat} {want : Bool} {oj : Oper}
variable {lo hi : List Nat} {i : Nat} {rem : List Nat} {hist : List Heap} {pend : List (Nat × Heap)} {t : TypeId} {ti : TI} {x : Operand} {p o1 : Nat} {cs xs : List Cell}
theorem DLa [it : TiOf P t ti] (k : Dw P ops lo hi q r (i + 1) rem (H :: hist) ((hi.getD i 0, one p cs) :: pend) (frm N ((d, sa xs) :: al))) (hx : ev (frm N al) x = sc (.ptr p o1) := by first | exact et rfl | exact rfl) (_hp : H[p]? = some (some cs) := by exact rfl) (hk : ti.kind.agg = true := by exact rfl) (hz : Nat.blt 0 ti.size = true := by exact rfl) (hl : o1 + ti.size ≤ cs.length := by first | omega | with_reducible assumption | (simp only [List.length_set, List.length_append, List.length_replicate, List.length_take, List.length_drop, List.length_map, List.length_cons, List.length_nil, mapc_length] <;> omega) | exact rfl | exact Nat.le_of_ble_eq_true rfl | assumption) (hc : (cs.drop o1).take ti.size = xs := by first | exact rfl | exact cut_m) (hne : (rem.head? == some i) = false := by exact rfl)
    (hs : seen (one p cs) ((H :: hist).take ((hist.length + 1) - lo.getD i 0)) := by repeat' (first | exact trivial | exact sub_one rfl | refine And.intro ?_ ?_)) : Dw P ops lo hi q (⟨some d, .load t x, oty, ops_, oaf, none⟩ :: r) i rem (H :: hist) pend (frm N al) :=
  dR p rfl (tk rfl) hne hs (fun _ hv => r_lda rfl it.h hk hz hx hv hl hc ⟨rfl, rfl⟩) k
end
/-! Several arrays are the result. -/
theorem fpc2 {P : Program} {st : St} {fn : Func} {v : S} {a0 t0 p0 a1 t1 p1 : Nat} {ti0 ti1 : TI} {ds0 ds1 : List Cell} {y0 y1 : V} [it0 : TiOf P t0 ti0] [it1 : TiOf P t1 ti1] (hl : fn.results.toList = [.cell a0 t0, .cell a1 t1] := by exact rfl) (hx0 : ev st.fr (.tmp a0) = sc (.ptr p0 0) := by first | exact et rfl | exact rfl) (hp0 : st.H[p0]? = some (some ds0) := by exact rfl) (hn0 : ds0.length = ti0.size := by first | omega | with_reducible assumption | exact (mapc_length ..).trans (by with_reducible assumption) | exact rfl) (hm0 : vm (cm ⟨fun p => idx p [], fun _ => none, true, false⟩ 8) (.a ds0) = y0 := by first | exact vs_m | exact rfl) (hk0 : ti0.kind.agg = true := by exact rfl) (hz0 : Nat.blt 0 ti0.size = true := by exact rfl) (hx1 : ev st.fr (.tmp a1) = sc (.ptr p1 0) := by first | exact et rfl | exact rfl) (hp1 : st.H[p1]? = some (some ds1) := by exact rfl) (hn1 : ds1.length = ti1.size := by first | omega | with_reducible assumption | exact (mapc_length ..).trans (by with_reducible assumption) | exact rfl) (hm1 : vm (cm ⟨fun p => idx p [], fun _ => none, true, false⟩ 8) (.a ds1) = y1 := by first | exact vs_m | exact rfl) (hk1 : ti1.kind.agg = true := by exact rfl) (hz1 : Nat.blt 0 ti1.size = true := by exact rfl) (hv : v = .t [y0, y1] := by exact rfl) : fin P fn 0 v [] st :=
  fin_g (ys := [y0, y1]) [] (by simp) List.nodup_nil hv hl (rva hx0 hp0 hn0 hm0 (rva hx1 hp1 hn1 hm1 rv0 hk1 hz1) hk0 hz0) rfl
end Go.Abs

/- The abstract machine: regions that draw their order, whose effects lie in no one chain: one walk for each order of the effects. -/
namespace Go.Abs
open Go

/-! A list of operations, put into another order. -/
def posOf : List Nat → Nat → Nat
  | [], _ => 0
  | x :: r, i => bif Nat.beq x i then 0 else posOf r i + 1
def prevOf : List Nat → Nat → Option Nat
  | x :: y :: r, i => bif Nat.beq y i then some x else prevOf (y :: r) i
  | _, _ => none
def renE (ord : List Nat) (e : Edge) : Edge := ⟨posOf ord e.on, e.ground⟩
def preE (ord es : List Nat) (i : Nat) : Array Edge := match prevOf es i with
  | some x => #[⟨posOf ord x, .data⟩]
  | none => #[]
def renO (ord es : List Nat) (i : Nat) (o : Oper) : Oper :=
  ⟨o.dst, o.op, o.type, o.pos, o.after.map (renE ord) ++ preE ord es i, match o.guard with
    | some (j, b) => some (posOf ord j, b)
    | none => none⟩
def permO (ops : List Oper) (ord es : List Nat) : List Oper := ord.map fun i => renO ord es i ((ops[i]?).getD default)
def permB (n : Nat) (ord : List Nat) : Bool :=
  ord.length == n && (List.range n).all fun i => decide (posOf ord i < n) && ord[posOf ord i]? == some i && (match ord[i]? with
    | some x => decide (x < n) && posOf ord x == i
    | none => false)

theorem wp_ren {P : Program} {ord es : List Nat} {i : Nat} {o : Oper} {a : Act} {w : World} {K : Act → World → Prop} {Q : Exit → Act → World → Prop} : (renO ord es i o).wp P a w K Q = o.wp P a w K Q := rfl
theorem asks_ren {P : Program} {ord es : List Nat} {i : Nat} {o : Oper} {a : Act} {w : World} : (renO ord es i o).asks P a w = o.asks P a w := rfl

structure PermOk (n : Nat) (ord : List Nat) : Prop where
  len : ord.length = n
  lt : ∀ i, i < n → posOf ord i < n
  at_ : ∀ i, i < n → ord[posOf ord i]? = some i
  inv : ∀ (j x : Nat), ord[j]? = some x → x < n ∧ posOf ord x = j
theorem permB_ok {n : Nat} {ord : List Nat} (h : permB n ord = true) : PermOk n ord := by
  simp only [permB, Bool.and_eq_true, beq_iff_eq] at h
  obtain ⟨h1, h2⟩ := h
  have h3 : ∀ i, i < n → (posOf ord i < n ∧ ord[posOf ord i]? = some i) ∧ (match ord[i]? with
    | some x => decide (x < n) && posOf ord x == i
    | none => false) = true := fun i hi => by
    have := List.all_eq_true.1 h2 i (List.mem_range.2 hi)
    simpa only [Bool.and_eq_true, decide_eq_true_eq, beq_iff_eq] using this
  refine ⟨h1, fun i hi => (h3 i hi).1.1, fun i hi => (h3 i hi).1.2, fun j x hx => ?_⟩
  have hj : j < n := by rw [← h1]; exact (List.getElem?_eq_some_iff.1 hx).1
  have := (h3 j hj).2
  rw [hx] at this
  simpa only [Bool.and_eq_true, decide_eq_true_eq, beq_iff_eq] using this
theorem posOf_out : ∀ {ord : List Nat} {i : Nat}, i ∉ ord → posOf ord i = ord.length
  | [], _, _ => rfl
  | x :: r, i, h => by
    have hx : x ≠ i := fun e => h (by simp [e])
    have hr : i ∉ r := fun e => h (by simp [e])
    have : Nat.beq x i = false := by
      cases hb : Nat.beq x i with
      | false => rfl
      | true => exact absurd (Nat.eq_of_beq_eq_true hb) hx
    rw [posOf, this, cond_false, posOf_out hr]; rfl

section
variable {ops : List Oper} {ord es : List Nat}
theorem permO_len : (permO ops ord es).length = ord.length := by simp [permO]
theorem permO_at (ok : PermOk ops.length ord) {i : Nat} {o : Oper} (h : ops[i]? = some o) : (permO ops ord es)[posOf ord i]? = some (renO ord es i o) := by
  have hi := (List.getElem?_eq_some_iff.1 h).1
  simp [permO, List.getElem?_map, ok.at_ i hi, h]
theorem permO_inv (ok : PermOk ops.length ord) {j : Nat} {o' : Oper} (h : (permO ops ord es)[j]? = some o') : ∃ i o, ops[i]? = some o ∧ posOf ord i = j ∧ o' = renO ord es i o := by
  simp only [permO, List.getElem?_map, Option.map_eq_some_iff] at h
  obtain ⟨x, hx, rfl⟩ := h
  obtain ⟨h1, h2⟩ := ok.inv j x hx
  obtain ⟨o, ho⟩ : ∃ o, ops[x]? = some o := ⟨_, List.getElem?_eq_getElem h1⟩
  exact ⟨x, o, ho, h2, by rw [ho]; rfl⟩
theorem yielded_ren (ok : PermOk ops.length ord) (tmps : Array Value) (j : Nat) : yielded (permO ops ord es).toArray tmps (posOf ord j) = yielded ops.toArray tmps j := by
  unfold yielded
  have : ((permO ops ord es).toArray[posOf ord j]?).bind (·.dst) = (ops.toArray[j]?).bind (·.dst) := by
    simp only [List.getElem?_toArray]
    by_cases hj : j < ops.length
    · obtain ⟨o, ho⟩ : ∃ o, ops[j]? = some o := ⟨_, List.getElem?_eq_getElem hj⟩
      rw [permO_at ok ho, ho]; rfl
    · have hn : j ∉ ord := fun hm => by
        obtain ⟨k, hk⟩ := List.mem_iff_getElem?.1 hm
        exact hj (ok.inv k j hk).1
      rw [posOf_out hn, List.getElem?_eq_none (by rw [permO_len]; exact Nat.le_refl _), List.getElem?_eq_none (by omega)]
  rw [this]
theorem wanted_ren (ok : PermOk ops.length ord) (tmps : Array Value) (i : Nat) (o : Oper) : Region.wanted (renO ord es i o) (yielded (permO ops ord es).toArray tmps) = Region.wanted o (yielded ops.toArray tmps) := by
  unfold Region.wanted renO
  cases hg : o.guard with
  | none => rfl
  | some g =>
    obtain ⟨j, b⟩ := g
    simp only [yielded_ren ok]
theorem wpOps_ren (ok : PermOk ops.length ord) {P : Program} {Q : Exit → Act → World → Prop} : ∀ (σ : List Nat) (a : Act) (w : World), (∀ i ∈ σ, i < ops.length) →
    wpOps P (permO ops ord es).toArray Q (σ.map (posOf ord)) a w → wpOps P ops.toArray Q σ a w
  | [], _, _, _, h => h
  | i :: σ, a, w, hi, h => by
    obtain ⟨o, ho⟩ : ∃ o, ops[i]? = some o := ⟨_, List.getElem?_eq_getElem (hi i (by simp))⟩
    rw [List.map_cons, wpOps_cons] at h
    rw [wpOps_cons]
    unfold wpOp at h ⊢
    rw [List.getElem?_toArray] at h ⊢
    rw [permO_at ok ho] at h
    rw [ho]
    simp only at h ⊢
    rw [wanted_ren ok, wp_ren, asks_ren] at h
    have ih := wpOps_ren ok (P := P) (Q := Q) σ
    split
    · rename_i hw
      rw [if_pos hw] at h
      rcases h with h | h
      · exact .inl (Oper.wp_mono (fun a w h => ih a w (fun x hx => hi x (by simp [hx])) h) h)
      · exact .inr h
    · rename_i hw
      rw [if_neg hw] at h
      exact ih _ _ (fun x hx => hi x (by simp [hx])) h
end

/-! Orders that may be drawn. -/
inductive ValidO (ops : Array Oper) : Array Bool → List Nat → Prop
  | nil {l : Array Bool} : Region.ready .any ops l = [] → ValidO ops l []
  | cons {l : Array Bool} {i : Nat} {σ : List Nat} : i ∈ Region.ready .any ops l → ValidO ops (l.setIfInBounds i true) σ → ValidO ops l (i :: σ)

theorem any_valid {P : Program} {ops : Array Oper} {Q : Exit → Act → World → Prop} : ∀ (σ : List Nat) (f : Nat) (l : Array Bool) (a : Act) (w : World), ValidO ops l σ → wpAny P .any ops Q f l a w → wpOps P ops Q σ a w
  | [], 0, _, _, _, _, h => h.2
  | [], f + 1, _, _, _, .nil hr, h => h.1 hr
  | i :: σ, 0, _, _, _, .cons hi _, h => by rw [h.1] at hi; cases hi
  | i :: σ, f + 1, l, a, w, .cons hi hv, h => by
    rw [wpOps_cons]
    exact wpOp_mono (fun a w h => any_valid σ f _ a w hv h) (h.2 i hi)

theorem valid_go {ops : List Oper} : ∀ (f t : Nat) (l : Array Bool), l.size = ops.length → (List.range ops.length).countP (fun j => l.getD j false) + f = ops.length →
    ValidO ops.toArray l (Region.linearise.go .any ops.toArray f t l [])
  | 0, t, l, hs, hc => by
    have hall : ∀ j, j < ops.length → l.getD j false = true := by
      have : (List.range ops.length).countP (fun j => l.getD j false) = (List.range ops.length).length := by rw [List.length_range]; omega
      rw [List.countP_eq_length] at this
      exact fun j hj => this j (List.mem_range.2 hj)
    refine .nil (List.eq_nil_iff_forall_not_mem.2 fun i hi => ?_)
    obtain ⟨h1, o, h2, _⟩ := mem_ready.1 hi
    have hlt : i < ops.length := by simpa using (Array.getElem?_eq_some_iff.1 h2).1
    have h3 := getD_both h1
    rw [hall i hlt] at h3; cases h3
  | f + 1, t, l, hs, hc => by
    simp only [Region.linearise.go]
    change ValidO ops.toArray l (match (Region.ready .any ops.toArray l)[t % (Region.ready .any ops.toArray l).length]? with
      | some i => Region.linearise.go .any ops.toArray f (t / (Region.ready .any ops.toArray l).length) (l.setIfInBounds i true) [i]
      | none => [].reverse)
    cases hi : (Region.ready .any ops.toArray l)[t % (Region.ready .any ops.toArray l).length]? with
    | none =>
      refine .nil ?_
      cases hr : Region.ready .any ops.toArray l with
      | nil => rfl
      | cons x xs =>
        rw [hr] at hi
        have hlt : t % (x :: xs).length < (x :: xs).length := Nat.mod_lt _ (by simp)
        simp at hi
        simp at hlt
        omega
    | some i =>
      simp only []
      rw [linearise_go_acc, List.reverse_singleton, List.singleton_append]
      have hm := List.mem_of_getElem? hi
      obtain ⟨h1, o, h2, _⟩ := mem_ready.1 hm
      have hlt : i < ops.length := by simpa using (Array.getElem?_eq_some_iff.1 h2).1
      refine .cons hm (valid_go f _ _ (by simpa using hs) ?_)
      have := countP_set (p := fun j => l.getD j false) (p' := fun j => (l.setIfInBounds i true).getD j false) (i := i) (List.nodup_range (n := ops.length)) (List.mem_range.2 hlt) (getD_both h1) (fun j => by
        rw [getD_set_i false (by omega)]
        by_cases h : j = i
        · subst h; simp
        · rw [if_neg h]
          have : (j == i) = false := by simpa using h
          rw [this, Bool.or_false])
      omega

theorem valid_lt {ops : List Oper} {l : Array Bool} {σ : List Nat} (h : ValidO ops.toArray l σ) : ∀ i ∈ σ, i < ops.length := by
  induction h with
  | nil => intro i hi; cases hi
  | cons hi _ ih =>
    intro j hj
    rcases List.mem_cons.1 hj with rfl | hj
    · obtain ⟨_, o, h2, _⟩ := mem_ready.1 hi
      simpa using (Array.getElem?_eq_some_iff.1 h2).1
    · exact ih j hj

/-! Which orders the effects come in. -/
def covB (A E : List Nat) (pls : List (List Nat)) : Nat → List Nat → Bool
  | 0, run => (E.all fun e => run.contains e) && pls.contains run
  | f + 1, run => bif (E.all fun e => run.contains e) then pls.contains run else E.all fun i => run.contains i || (E.any fun e => (A.getD i 0).testBit e && !run.contains e) || covB A E pls f (run ++ [i])

theorem cov_sound {ops : List Oper} {A E : List Nat} {pls : List (List Nat)} (hA : ∀ i j, (A.getD i 0).testBit j = true → Anc ops i j) (hE : ∀ e ∈ E, e < ops.length)
    (topo : ∀ (i : Nat) o, ops[i]? = some o → ∀ e ∈ o.after, Region.binds .any e = true → e.on < i) :
    ∀ (σ : List Nat) (l : Array Bool) (f : Nat) (run : List Nat), l.size = ops.length → (∀ (j : Nat) oj, ops[j]? = some oj → l.getD j false = true → ∀ e ∈ oj.after, Region.binds .any e = true → l.getD e.on false = true) →
      (∀ e ∈ E, l.getD e false = true ↔ e ∈ run) → ValidO ops.toArray l σ → covB A E pls f run = true → run ++ σ.filter (fun i => E.contains i) ∈ pls
  | [], l, f, run, hs, hcl, hr, .nil hnil, hc => by
    have hall : ∀ (j : Nat), j < ops.length → l.getD j false = true := by
      intro j
      induction j using Nat.strongRecOn with
      | ind j ih =>
        intro hj
        obtain ⟨o, ho⟩ : ∃ o, ops[j]? = some o := ⟨_, List.getElem?_eq_getElem hj⟩
        apply Classical.byContradiction
        intro hn
        have hn' : l.getD j false = false := by simpa using hn
        have : j ∈ Region.ready .any ops.toArray l := mem_ready.2 ⟨getD_in (by omega) hn', o, by simpa using ho, fun e he hb => ih e.on (topo j o ho e he hb) (by have := topo j o ho e he hb; omega)⟩
        rw [hnil] at this; cases this
    have hE' : (E.all fun e => run.contains e) = true := List.all_eq_true.2 fun e he => by
      have := (hr e he).1 (hall e (hE e he))
      simpa using this
    rw [List.filter_nil, List.append_nil]
    cases f with
    | zero => simp only [covB, hE', Bool.true_and] at hc; simpa using hc
    | succ f => simp only [covB, hE', cond_true] at hc; simpa using hc
  | i :: σ, l, f, run, hs, hcl, hr, .cons hi hv, hc => by
    obtain ⟨h1, o, h2, hd⟩ := mem_ready.1 hi
    have ho : ops[i]? = some o := by simpa using h2
    have hlt := (List.getElem?_eq_some_iff.1 ho).1
    have hcl' : ∀ (j : Nat) oj, ops[j]? = some oj → (l.setIfInBounds i true).getD j false = true → ∀ e ∈ oj.after, Region.binds .any e = true → (l.setIfInBounds i true).getD e.on false = true := by
      intro j oj hj hlj e he hb
      rw [getD_set_i false (by omega)] at hlj ⊢
      by_cases hji : j = i
      · subst hji
        rw [ho] at hj
        obtain rfl := Option.some.inj hj
        rw [hd e he hb]; simp
      · rw [if_neg hji] at hlj
        rw [hcl j oj hj hlj e he hb]; simp
    by_cases hiE : i ∈ E
    · have hnr : i ∉ run := fun h => by
        have := (hr i hiE).2 h
        rw [getD_both h1] at this; cases this
      have hE' : (E.all fun e => run.contains e) = false := by
        apply Bool.eq_false_iff.2
        intro h
        have := List.all_eq_true.1 h i hiE
        exact hnr (by simpa using this)
      rw [List.filter_cons_of_pos (by simpa using hiE)]
      cases f with
      | zero => simp only [covB, hE', Bool.false_and] at hc; cases hc
      | succ f =>
        simp only [covB, hE', cond_false] at hc
        have h3 := List.all_eq_true.1 hc i hiE
        simp only [Bool.or_eq_true, List.any_eq_true, Bool.and_eq_true, Bool.not_eq_true', List.contains_iff_mem] at h3
        rcases h3 with (h3 | ⟨e, h3, h4, h5⟩) | h3
        · exact absurd h3 hnr
        · have := anc_listed (listed := l) hcl (hA i e h4) (fun o' ho' e' he' hb' => by
            rw [ho] at ho'; obtain rfl := Option.some.inj ho'; exact hd e' he' hb')
          have := (hr e h3).1 this
          have h6 : run.contains e = true := by simpa using this
          rw [h6] at h5; cases h5
        · have := cov_sound hA hE topo σ (l.setIfInBounds i true) f (run ++ [i]) (by simpa using hs) hcl' (fun e he => by
            rw [getD_set_i false (by omega)]
            by_cases hei : e = i
            · subst hei; simp
            · rw [if_neg hei, hr e he]; simp [hei]) hv h3
          rw [List.append_assoc] at this
          exact this
    · rw [List.filter_cons_of_neg (by simpa using hiE)]
      refine cov_sound hA hE topo σ (l.setIfInBounds i true) f run (by simpa using hs) hcl' (fun e he => ?_) hv hc
      rw [getD_set_i false (by omega), if_neg (fun h : e = i => hiE (h ▸ he))]
      exact hr e he

theorem prevOf_at : ∀ {es : List Nat} {i x : Nat}, prevOf es i = some x → ∃ l r, es = l ++ x :: i :: r
  | [], _, _, h => by simp [prevOf] at h
  | [_], _, _, h => by simp [prevOf] at h
  | a :: b :: es, i, x, h => by
    simp only [prevOf] at h
    cases hb : Nat.beq b i with
    | true =>
      rw [hb, cond_true] at h
      have := Nat.eq_of_beq_eq_true hb
      subst this
      obtain rfl := Option.some.inj h
      exact ⟨[], es, rfl⟩
    | false =>
      rw [hb, cond_false] at h
      obtain ⟨l, r, e⟩ := prevOf_at h
      exact ⟨a :: l, r, by rw [e]; rfl⟩

/-- An order in which the effects come just so is one of the renamed region. -/
theorem valid_ren {ops : List Oper} {ord es E : List Nat} (ok : PermOk ops.length ord) (topo : ∀ (i : Nat) o, ops[i]? = some o → ∀ e ∈ o.after, Region.binds .any e = true → e.on < i)
    (hnd : es.Nodup) (hsub : ∀ e ∈ es, e ∈ E) : ∀ (σ : List Nat) (l l' : Array Bool) (run : List Nat), l.size = ops.length → l'.size = ops.length → (∀ j, j < ops.length → l'.getD (posOf ord j) false = l.getD j false) →
      (∀ e ∈ E, e ∈ run → l.getD e false = true) → es = run ++ σ.filter (fun i => E.contains i) → ValidO ops.toArray l σ → ValidO (permO ops ord es).toArray l' (σ.map (posOf ord))
  | [], l, l', run, hs, hs', hl, hr, he, .nil hnil => by
    refine .nil (List.eq_nil_iff_forall_not_mem.2 fun j hj => ?_)
    obtain ⟨h1, o', h2, hd⟩ := mem_ready.1 hj
    obtain ⟨i, o, ho, hp, rfl⟩ := permO_inv ok (by simpa using h2)
    have hi := (List.getElem?_eq_some_iff.1 ho).1
    have : i ∈ Region.ready .any ops.toArray l := mem_ready.2 ⟨getD_in (by omega) (by rw [← hl i hi, hp]; exact getD_both h1), o, by simpa using ho, fun e he hb => by
      have h3 := hd (renE ord e) (by simp only [renO, Array.mem_append, Array.mem_map]; exact .inl ⟨e, he, rfl⟩) hb
      have h4 := topo i o ho e he hb
      rw [← hl e.on (by omega)]; exact h3⟩
    rw [hnil] at this; cases this
  | i :: σ, l, l', run, hs, hs', hl, hr, he, .cons hi hv => by
    obtain ⟨h1, o, h2, hd⟩ := mem_ready.1 hi
    have ho : ops[i]? = some o := by simpa using h2
    have hlt := (List.getElem?_eq_some_iff.1 ho).1
    have hpl := ok.lt i hlt
    have hl' : ∀ j, j < ops.length → (l'.setIfInBounds (posOf ord i) true).getD (posOf ord j) false = (l.setIfInBounds i true).getD j false := fun j hj => by
      rw [getD_set_i false (by omega), getD_set_i false (by omega)]
      by_cases hji : j = i
      · subst hji; simp
      · have : posOf ord j ≠ posOf ord i := fun h => hji (by
          have h3 := ok.at_ j hj
          rw [h, ok.at_ i hlt] at h3
          exact (Option.some.inj h3).symm)
        rw [if_neg hji, if_neg this, hl j hj]
    have hready : posOf ord i ∈ Region.ready .any (permO ops ord es).toArray l' := by
      refine mem_ready.2 ⟨getD_in (by omega) (by rw [hl i hlt]; exact getD_both h1), renO ord es i o, by simpa using permO_at ok ho, fun e hm hb => ?_⟩
      simp only [renO, Array.mem_append, Array.mem_map] at hm
      rcases hm with ⟨e0, hm, rfl⟩ | hm
      · have h4 := topo i o ho e0 hm hb
        show l'.getD (posOf ord e0.on) false = true
        rw [hl e0.on (by omega)]; exact hd e0 hm hb
      · unfold preE at hm
        cases hp : prevOf es i with
        | none => rw [hp] at hm; simp at hm
        | some x =>
          rw [hp] at hm
          simp only [List.mem_toArray, List.mem_cons, List.not_mem_nil, or_false] at hm
          subst hm
          show l'.getD (posOf ord x) false = true
          obtain ⟨p, q, hpq⟩ := prevOf_at hp
          have hiE : i ∈ E := hsub i (by rw [hpq]; simp)
          have hxE : x ∈ E := hsub x (by rw [hpq]; simp)
          rw [List.filter_cons_of_pos (by simpa using hiE)] at he
          -- the same list, cut at i twice
          have hnd1 := hnd
          rw [he] at hnd1
          have hnr : i ∉ run := fun h => by
            have := (List.nodup_append.1 hnd1).2.2 i h i (by simp)
            exact this rfl
          have hnp : i ∉ p ++ [x] := fun h => by
            have hnd2 := hnd
            rw [hpq, show p ++ x :: i :: q = (p ++ [x]) ++ i :: q by simp] at hnd2
            exact (List.nodup_append.1 hnd2).2.2 i h i (by simp) rfl
          have hcut : ∀ (a b c d : List Nat), a ++ i :: b = c ++ i :: d → i ∉ a → i ∉ c → a = c := by
            intro a
            induction a with
            | nil =>
              intro b c d h _ hc
              cases c with
              | nil => rfl
              | cons y c => simp at h; exact absurd h.1 (fun e => hc (by simp [← e]))
            | cons z a ih =>
              intro b c d h ha hc
              cases c with
              | nil => simp at h; exact absurd h.1.symm (fun e => ha (by simp [← e]))
              | cons y c =>
                simp only [List.cons_append, List.cons.injEq] at h
                rw [h.1, ih b c d h.2 (fun e => ha (by simp [e])) (fun e => hc (by simp [e]))]
          have hrun : run = p ++ [x] := hcut run _ (p ++ [x]) q (by rw [← he, hpq]; simp) hnr hnp
          have hlx := hr x hxE (by rw [hrun]; simp)
          have hxl : x < ops.length := by
            rcases Nat.lt_or_ge x ops.length with h | h
            · exact h
            · rw [Array.getD_eq_getD_getElem?, Array.getElem?_eq_none (by omega)] at hlx; cases hlx
          rw [hl x hxl]; exact hlx
    rw [List.map_cons]
    by_cases hiE : i ∈ E
    · rw [List.filter_cons_of_pos (by simpa using hiE)] at he
      exact .cons hready (valid_ren ok topo hnd hsub σ _ _ (run ++ [i]) (by simpa using hs) (by simpa using hs') hl' (fun e heE hm => by
        rw [getD_set_i false (by omega)]
        by_cases hei : e = i
        · rw [if_pos hei]
        · rw [if_neg hei]
          refine hr e heE ?_
          rcases List.mem_append.1 hm with h | h
          · exact h
          · simp at h; exact absurd h hei) (by rw [he]; simp) hv)
    · rw [List.filter_cons_of_neg (by simpa using hiE)] at he
      exact .cons hready (valid_ren ok topo hnd hsub σ _ _ run (by simpa using hs) (by simpa using hs') hl' (fun e heE hm => by
        rw [getD_set_i false (by omega)]
        by_cases hei : e = i
        · rw [if_pos hei]
        · rw [if_neg hei]; exact hr e heE hm) he hv)

/-- A region that draws its order: what draw_game comes to. -/
theorem drawE_any {P : Program} {n0 : Nat} {ops : List Oper} {Q : Exit → St → Prop} {fr : List S} {H : Heap} (es lo hi : List Nat) (hB : drawE ops es lo hi = true) (hn : n0 ≤ H.length)
    (h : Dw P ops lo hi (Q .normal) ops 0 es [H] [] fr) {E : Env} {ρ : Nat → Place} {a : Act} {w : World} (hE : E.Ok) (hs : Sim E ρ ⟨fr, H⟩ a w) :
    wpAny P .any ops.toArray (post n0 E ρ Q) ops.length (Array.replicate ops.length false) a { w with drawn := w.drawn + 1 } := by
  have ok := drawE_ok hB
  obtain ⟨vals, hp, Vs, h1, _, h2⟩ := dw_tr (E := es.length) ops 0 es [H] [] fr (by simp) (by simp; omega) h
  have h0 : hp 0 = H := by
    have := h1 0 (by simp)
    simpa using this.symm
  obtain ⟨hst, hend⟩ := tr_each ok (fr0 := fr) ops 0 0 fr (fun j => by rw [Nat.zero_add]) (by simp) (Nat.zero_le _) (fun m e _ => by omega) ⟨rfl, fun _ _ => rfl, fun j o t _ hd => by simp at hd⟩ (by simpa using h2)
  exact draw_game (P := P) (n0 := n0) (Q := Q) ok (fun j o ho => hst j o (Nat.zero_le _) ho) hend hE ops.length 0 ρ (Array.replicate ops.length false) fr a { w with drawn := w.drawn + 1 } (by
      have : (List.range ops.length).countP (fun j => (Array.replicate ops.length false).getD j false) = 0 := by
        rw [List.countP_eq_zero]
        intro j _
        rw [getD_replicate_false]; simp
      rw [this]; simp)
    ⟨by simp, fun j oj _ hl => (by rw [getD_replicate_false] at hl; cases hl), fun t ht ht' => by simp at ht ht'; omega⟩ (Nat.zero_le _)
    (fun m e _ => by rw [getD_replicate_false]; simp)
    ⟨rfl, fun _ _ => rfl, fun j o t _ hd => by rw [getD_replicate_false] at hd; cases hd⟩ (by rw [h0]; exact hn) ⟨by rw [h0]; exact hs.fr, by rw [h0]; exact hs.heap.drew _⟩

/-- One order of the effects: the order of the walk, the effects by their numbers, and by their places in the walk, and what may come between which. -/
structure Plan where
  ord : List Nat
  es : List Nat
  es2 : List Nat
  lo : List Nat
  hi : List Nat
def planB (ops : List Oper) (E : List Nat) (p : Plan) : Bool :=
  permB ops.length p.ord && drawE (permO ops p.ord p.es) p.es2 p.lo p.hi && decide p.es.Nodup && (p.es.all fun e => E.contains e)
def multiB (ops : List Oper) (E : List Nat) (pls : List Plan) : Bool :=
  topoE ops && (E.all fun e => decide (e < ops.length)) && covB (ancs ops []) E (pls.map Plan.es) E.length [] && pls.all (planB ops E)
def plansDw (P : Program) (ops : List Oper) (Q : St → Prop) (H : Heap) (fr : List S) : List Plan → Prop
  | [] => True
  | p :: r => Dw P (permO ops p.ord p.es) p.lo p.hi Q (permO ops p.ord p.es) 0 p.es2 [H] [] fr ∧ plansDw P ops Q H fr r
theorem plans_at {P : Program} {ops : List Oper} {Q : St → Prop} {H : Heap} {fr : List S} : ∀ {pls : List Plan}, plansDw P ops Q H fr pls → ∀ p ∈ pls, Dw P (permO ops p.ord p.es) p.lo p.hi Q (permO ops p.ord p.es) 0 p.es2 [H] [] fr
  | [], _, p, hp => by cases hp
  | q :: r, h, p, hp => by
    rcases List.mem_cons.1 hp with rfl | hp
    · exact h.1
    · exact plans_at h.2 p hp
theorem awp_drawM {P : Program} {n0 id : Nat} {ops : Array Oper} {Q : Exit → St → Prop} {fr : List S} {H : Heap} (E : List Nat) (pls : List Plan) (hm : P.follows .mixedOrders = true) (hB : multiB ops.toList E pls = true) (hn : n0 ≤ H.length)
    (h : plansDw P ops.toList (Q .normal) H fr pls) : AWp P n0 (.region id ops true) Q ⟨fr, H⟩ := by
  intro En ρ a w hE hs
  simp only [multiB, Bool.and_eq_true] at hB
  obtain ⟨⟨⟨hT, hEl⟩, hC⟩, hP⟩ := hB
  obtain ⟨ops⟩ := ops
  simp only at hT hEl hC hP h ⊢
  have topo : ∀ (i : Nat) o, ops[i]? = some o → ∀ e ∈ o.after, Region.binds .any e = true → e.on < i := fun i o ho e he hb => by
    have := List.all_eq_true.1 hT i (List.mem_range.2 (List.getElem?_eq_some_iff.1 ho).1)
    rw [ho] at this
    have := Array.all_eq_true'.1 this e he
    simp only [hb, Bool.not_true, Bool.false_or, decide_eq_true_eq] at this
    exact this
  have hA : ∀ i j, ((ancs ops []).getD i 0).testBit j = true → Anc ops i j := ancs_spec ops [] (fun j => by simp) (fun i j hb => by simp at hb)
  refine wp_region_draw fun t => ?_
  simp only [Region.schedule, hm, Bool.true_or, if_true]
  have hv : ValidO ops.toArray (Array.replicate ops.length false) (Region.linearise .any ops.toArray t) := by
    show ValidO ops.toArray _ (Region.linearise.go .any ops.toArray ops.toArray.size t (Array.replicate ops.toArray.size false) [])
    rw [show ops.toArray.size = ops.length by simp]
    refine valid_go _ _ _ (by simp) ?_
    have : (List.range ops.length).countP (fun j => (Array.replicate ops.length false).getD j false) = 0 := by
      rw [List.countP_eq_zero]
      intro j _
      rw [getD_replicate_false]; simp
    rw [this]; simp
  generalize Region.linearise .any ops.toArray t = σ at hv ⊢
  have hlt := valid_lt hv
  have hcov := cov_sound (pls := pls.map Plan.es) (E := E) hA (fun e he => by simpa using List.all_eq_true.1 hEl e he) topo σ _ E.length [] (by simp) (fun j oj _ hl => (by rw [getD_replicate_false] at hl; cases hl))
    (fun e _ => by rw [getD_replicate_false]; simp) hv hC
  rw [List.nil_append] at hcov
  obtain ⟨p, hp, he⟩ := List.mem_map.1 hcov
  have hpB := List.all_eq_true.1 hP p hp
  simp only [planB, Bool.and_eq_true, decide_eq_true_eq] at hpB
  obtain ⟨⟨⟨h1, h2⟩, h3⟩, h4⟩ := hpB
  have ok := permB_ok h1
  have hany := drawE_any (n0 := n0) (Q := Q) p.es2 p.lo p.hi h2 hn (plans_at h p hp) hE hs
  refine wpOps_ren ok σ _ _ hlt (any_valid _ _ _ _ _ ?_ hany)
  refine valid_ren (E := E) ok topo h3 (fun e he => by simpa using List.all_eq_true.1 h4 e he) σ (Array.replicate ops.length false) _ [] (by simp) (by simp [permO_len, ok.len]) (fun j _ => by rw [getD_replicate_false, getD_replicate_false]) (fun e _ hm => by cases hm) (by rw [List.nil_append]; exact he) hv
/-! Effects in a region, the memory told plainly behind each. -/
section
variable {P : Program} {N : Nat} {al : List (Nat × S)} {H H1 H2 : Heap} {ops r : List Oper} {q : St → Prop} {op : Op} {oty : TypeId} {ops_ : String} {oaf : Array Edge} {d j w : Nat} {want : Bool} {oj : Oper} {s : S}
variable {lo hi : List Nat} {i : Nat} {rem : List Nat} {hist : List Heap} {pend : List (Nat × Heap)}
theorem De2 (h : ∀ K : S → Heap → Prop, K s H1 → ostep P ⟨some d, op, oty, ops_, oaf, none⟩ (frm N al) H K) (k : Dw P ops lo hi q r (i + 1) rem (H2 :: H :: hist) pend (frm N ((d, s) :: al))) (hH : H1 = H2 := by first | (simp only [List.set_cons_zero, List.set_cons_succ, List.cons_append, List.nil_append, List.append_nil, kill, setB]; done) | (simp only [List.set_cons_zero, List.set_cons_succ, List.cons_append, List.nil_append, List.append_nil, kill, setB]; exact rfl) | exact rfl) (hp : pendOk pend (hist.length + 1) H2 := by repeat' (first | exact trivial | exact sub_one rfl | refine And.intro ?_ ?_)) : Dw P ops lo hi q (⟨some d, op, oty, ops_, oaf, none⟩ :: r) i (i :: rem) (H :: hist) pend (frm N al) := by
  subst hH; exact De (h _ ⟨hp, k⟩)
theorem De20 (h : ∀ K : S → Heap → Prop, K s H1 → ostep P ⟨none, op, oty, ops_, oaf, none⟩ (frm N al) H K) (k : Dw P ops lo hi q r (i + 1) rem (H2 :: H :: hist) pend (frm N al)) (hH : H1 = H2 := by first | (simp only [List.set_cons_zero, List.set_cons_succ, List.cons_append, List.nil_append, List.append_nil, kill, setB]; done) | (simp only [List.set_cons_zero, List.set_cons_succ, List.cons_append, List.nil_append, List.append_nil, kill, setB]; exact rfl) | exact rfl) (hp : pendOk pend (hist.length + 1) H2 := by repeat' (first | exact trivial | exact sub_one rfl | refine And.intro ?_ ?_)) : Dw P ops lo hi q (⟨none, op, oty, ops_, oaf, none⟩ :: r) i (i :: rem) (H :: hist) pend (frm N al) := by
  subst hH; exact De0 (h _ ⟨hp, k⟩)
theorem G2 (h : ∀ K : S → Heap → Prop, K s H1 → ostep P ⟨some d, op, oty, ops_, oaf, none⟩ (frm N al) H K) (k : aops P ops q r ⟨frm N ((d, s) :: al), H2⟩) (hH : H1 = H2 := by first | (simp only [List.set_cons_zero, List.set_cons_succ, List.cons_append, List.nil_append, List.append_nil, kill, setB]; done) | (simp only [List.set_cons_zero, List.set_cons_succ, List.cons_append, List.nil_append, List.append_nil, kill, setB]; exact rfl) | exact rfl) : aops P ops q (⟨some d, op, oty, ops_, oaf, none⟩ :: r) ⟨frm N al, H⟩ := by
  subst hH; exact G (h _ k)
theorem G20 (h : ∀ K : S → Heap → Prop, K s H1 → ostep P ⟨none, op, oty, ops_, oaf, none⟩ (frm N al) H K) (k : aops P ops q r ⟨frm N al, H2⟩) (hH : H1 = H2 := by first | (simp only [List.set_cons_zero, List.set_cons_succ, List.cons_append, List.nil_append, List.append_nil, kill, setB]; done) | (simp only [List.set_cons_zero, List.set_cons_succ, List.cons_append, List.nil_append, List.append_nil, kill, setB]; exact rfl) | exact rfl) : aops P ops q (⟨none, op, oty, ops_, oaf, none⟩ :: r) ⟨frm N al, H⟩ := by
  subst hH; exact G0 (h _ k)
theorem G2g (h : ∀ K : S → Heap → Prop, K s H1 → ostep P ⟨some d, op, oty, ops_, oaf, some (j, want)⟩ (frm N al) H K) (k : aops P ops q r ⟨frm N ((d, s) :: al), H2⟩) (hH : H1 = H2 := by first | (simp only [List.set_cons_zero, List.set_cons_succ, List.cons_append, List.nil_append, List.append_nil, kill, setB]; done) | (simp only [List.set_cons_zero, List.set_cons_succ, List.cons_append, List.nil_append, List.append_nil, kill, setB]; exact rfl) | exact rfl) (hj : ops[j]? = some oj := by exact rfl) (hjd : oj.dst = some w := by exact rfl) (hv : lkpB N al w = .v (.c (.bool want)) := by first | exact rfl | exact congrArg (fun b => S.v (V.c (Cell.bool b))) (by assumption) | exact congrArg (fun b => S.v (V.c (Cell.bool b))) (decide_eq_true (by assumption)) | exact congrArg (fun b => S.v (V.c (Cell.bool b))) (decide_eq_false (by assumption))) : aops P ops q (⟨some d, op, oty, ops_, oaf, some (j, want)⟩ :: r) ⟨frm N al, H⟩ := by
  subst hH; exact Gg (h _ k) hj hjd hv
end
section
variable {P : Program} {n N id : Nat} {Q : Exit → St → Prop} {ops : Array Oper} {al : List (Nat × S)} {H H' : Heap}
theorem rdm (E : List Nat) (pls : List Plan) (h : plansDw P ops.toList (Q .normal) H' (frm N al) pls) (hH : H = H' := by first | (simp only [List.set_cons_zero, List.set_cons_succ, List.cons_append, List.nil_append, List.append_nil]; done) | (simp only [List.set_cons_zero, List.set_cons_succ, List.cons_append, List.nil_append, List.append_nil]; exact rfl) | exact rfl) (hn : Nat.ble n H'.length = true := by exact rfl) (hm : P.follows .mixedOrders = true := by exact rfl) (hB : multiB ops.toList E pls = true := by decide +kernel) : AWp P n (.region id ops true) Q ⟨frm N al, H⟩ := by
  subst hH; exact awp_drawM E pls hm hB (Nat.le_of_ble_eq_true hn) h
end
/-! More operations. -/
section
variable {P : Program} {fr : List S} {H : Heap} {K : S → Heap → Prop} {od : Option Nat} {oty : TypeId} {ops_ : String} {oaf : Array Edge} {ogu : Option (Nat × Bool)} {t u : TypeId} {ti : TI} {a b : Operand}
end
end Go.Abs

/- What functions of the program do, walked over the abstract machine. -/
namespace Go.Proofs.Ytlidpcjinillfaa.Fd
open Go Go.Abs Go.Proofs

/-- p, as words. -/
abbrev pl : List UInt64 := [18446744073709551597, 18446744073709551615, 18446744073709551615, 9223372036854775807]
/-- Four words as a number. -/
def V4 (l : List UInt64) : Nat := (l.getD 0 0).toNat + 18446744073709551616 * (l.getD 1 0).toNat + 340282366920938463463374607431768211456 * (l.getD 2 0).toNat + 6277101735386680763835789423207666416102355444464034512896 * (l.getD 3 0).toNat
/-- p is taken away. -/
def lsb (w : List UInt64) : Nat → List UInt64 × UInt64
  | 0 => (List.replicate 4 0, 0)
  | i + 1 => ((lsb w i).1.set i (w.getD i 0 - pl.getD i 0 - (lsb w i).2), subb (w.getD i 0) (pl.getD i 0) (lsb w i).2)
theorem lsb_len (w : List UInt64) : ∀ i, (lsb w i).1.length = 4
  | 0 => by simp [lsb]
  | i + 1 => by rw [lsb, List.length_set, lsb_len]
theorem lsb_le (w : List UInt64) : ∀ i, (lsb w i).2.toNat ≤ 1
  | 0 => by show (0 : UInt64).toNat ≤ 1; decide
  | i + 1 => by rw [lsb]; exact subb_le ..
def lessL (w : List UInt64) : List UInt64 := if (lsb w 4).2 = 0 then (lsb w 4).1 else w
/-- A carry runs on. -/
def crl (l : List UInt64) (c : UInt64) : Nat → List UInt64 × UInt64
  | 0 => (l, c)
  | i + 1 => ((crl l c i).1.set (1 + i) ((crl l c i).1.getD (1 + i) 0 + 0 + (crl l c i).2), addc ((crl l c i).1.getD (1 + i) 0) 0 (crl l c i).2)
theorem crl_len (l : List UInt64) (c : UInt64) : ∀ i, (crl l c i).1.length = l.length
  | 0 => rfl
  | i + 1 => by rw [crl, List.length_set, crl_len]
theorem crl_le (l : List UInt64) (c : UInt64) (h : c.toNat ≤ 1) : ∀ i, (crl l c i).2.toNat ≤ 1
  | 0 => h
  | i + 1 => by rw [crl]; exact addc_le ..
abbrev m63 (l : List UInt64) : List UInt64 := l.set 3 (l.getD 3 0 &&& 9223372036854775807)
abbrev fo1 (w : List UInt64) (u : UInt64) : List UInt64 := (m63 w).set 0 ((m63 w).getD 0 0 + u * 38 + 0)
abbrev fo2 (w : List UInt64) (u : UInt64) : List UInt64 := (fo1 w u).set 1 ((fo1 w u).getD 1 0 + mulhi u 38 + addc ((m63 w).getD 0 0) (u * 38) 0)
abbrev fo3 (w : List UInt64) (u : UInt64) : List UInt64 := (fo2 w u).set 2 ((fo2 w u).getD 2 0 + 0 + addc ((fo1 w u).getD 1 0) (mulhi u 38) (addc ((m63 w).getD 0 0) (u * 38) 0))
abbrev fo4 (w : List UInt64) (u : UInt64) : List UInt64 := (fo3 w u).set 3 ((fo3 w u).getD 3 0 + addc ((fo2 w u).getD 2 0) 0 (addc ((fo1 w u).getD 1 0) (mulhi u 38) (addc ((m63 w).getD 0 0) (u * 38) 0)))
abbrev ad19 (l : List UInt64) (t : UInt64) : List UInt64 := l.set 0 (l.getD 0 0 + 19 * t + 0)
abbrev ca19 (l : List UInt64) (t : UInt64) : UInt64 := addc (l.getD 0 0) (19 * t) 0
def foA (w : List UInt64) (u : UInt64) : List UInt64 := (crl (ad19 (fo4 w u) (shr64n (w.getD 3 0) 63)) (ca19 (fo4 w u) (shr64n (w.getD 3 0) 63)) 3).1
def foB (E : List UInt64) : List UInt64 := (crl (ad19 (m63 E) (shr64n (E.getD 3 0) 63)) (ca19 (m63 E) (shr64n (E.getD 3 0) 63)) 3).1
def foldL (w : List UInt64) (u : UInt64) : List UInt64 := lessL (foB (foA w u))
theorem foA_len (w : List UInt64) (u : UInt64) : (foA w u).length = w.length := by rw [foA, crl_len]; simp only [List.length_set]
theorem foB_len (w : List UInt64) : (foB w).length = w.length := by rw [foB, crl_len]; simp only [List.length_set]
theorem lessL_len (w : List UInt64) (h : w.length = 4) : (lessL w).length = 4 := by
  unfold lessL; split
  · exact lsb_len w 4
  · exact h
/-- Bytes into words. -/
def ofb (b : List UInt8) : Nat → List UInt64
  | 0 => List.replicate 4 0
  | i + 1 => (ofb b i).set (i / 8) ((ofb b i).getD (i / 8) 0 ||| shl64n (b.getD i 0).toUInt64 (8 * (i % 8)))
theorem ofb_len (b : List UInt8) : ∀ i, (ofb b i).length = 4
  | 0 => by simp [ofb]
  | i + 1 => by rw [ofb, List.length_set, ofb_len]
def ofL (b : List UInt8) : List UInt64 := lessL (m63 (ofb b 32))
/-- Words into bytes. -/
def byl (w : List UInt64) : Nat → List UInt8
  | 0 => List.replicate 32 0
  | i + 1 => (byl w i).set i (shr64n (w.getD (i / 8) 0) (8 * (i % 8))).toUInt8
theorem byl_len (w : List UInt64) : ∀ i, (byl w i).length = 32
  | 0 => by simp [byl]
  | i + 1 => by rw [byl, List.length_set, byl_len]
def adl (x y : List UInt64) : Nat → List UInt64 × UInt64
  | 0 => (List.replicate 4 0, 0)
  | i + 1 => ((adl x y i).1.set i (x.getD i 0 + y.getD i 0 + (adl x y i).2), addc (x.getD i 0) (y.getD i 0) (adl x y i).2)
theorem adl_len (x y : List UInt64) : ∀ i, (adl x y i).1.length = 4
  | 0 => by simp [adl]
  | i + 1 => by rw [adl, List.length_set, adl_len]
theorem adl_le (x y : List UInt64) : ∀ i, (adl x y i).2.toNat ≤ 1
  | 0 => by show (0 : UInt64).toNat ≤ 1; decide
  | i + 1 => by rw [adl]; exact addc_le ..
def ngl (x : List UInt64) : Nat → List UInt64 × UInt64
  | 0 => (List.replicate 4 0, 0)
  | i + 1 => ((ngl x i).1.set i (pl.getD i 0 - x.getD i 0 - (ngl x i).2), subb (pl.getD i 0) (x.getD i 0) (ngl x i).2)
theorem ngl_len (x : List UInt64) : ∀ i, (ngl x i).1.length = 4
  | 0 => by simp [ngl]
  | i + 1 => by rw [ngl, List.length_set, ngl_len]
theorem ngl_le (x : List UInt64) : ∀ i, (ngl x i).2.toNat ≤ 1
  | 0 => by show (0 : UInt64).toNat ≤ 1; decide
  | i + 1 => by rw [ngl]; exact subb_le ..
/-- One row of a product: what stands where, and what is carried on. -/
def tstep (a r : List UInt64) (i : Nat) (w : List UInt64) : Nat → List UInt64 × UInt64
  | 0 => (w, 0)
  | j + 1 =>
    ((tstep a r i w j).1.set (i + j) (a.getD i 0 * r.getD j 0 + (tstep a r i w j).1.getD (i + j) 0 + 0 + (tstep a r i w j).2 + 0),
      mulhi (a.getD i 0) (r.getD j 0) + addc (a.getD i 0 * r.getD j 0) ((tstep a r i w j).1.getD (i + j) 0) 0 + addc (a.getD i 0 * r.getD j 0 + (tstep a r i w j).1.getD (i + j) 0 + 0) (tstep a r i w j).2 0)
theorem tstep_len (a r : List UInt64) (i : Nat) (w : List UInt64) : ∀ j, (tstep a r i w j).1.length = w.length
  | 0 => rfl
  | j + 1 => by rw [tstep, List.length_set, tstep_len]
def tout (a r : List UInt64) : Nat → List UInt64
  | 0 => List.replicate 8 0
  | i + 1 => (tstep a r i (tout a r i) 4).1.set (i + 4) (tstep a r i (tout a r i) 4).2
theorem tout_len (a r : List UInt64) : ∀ i, (tout a r i).length = 8
  | 0 => by simp [tout]
  | i + 1 => by rw [tout, List.length_set, tstep_len, tout_len]
/-- The upper half, 38 times. -/
def hst (w : List UInt64) : Nat → List UInt64 × UInt64
  | 0 => (List.replicate 4 0, 0)
  | i + 1 =>
    ((hst w i).1.set i (w.getD (i + 4) 0 * 38 + w.getD i 0 + 0 + (hst w i).2 + 0),
      mulhi (w.getD (i + 4) 0) 38 + addc (w.getD (i + 4) 0 * 38) (w.getD i 0) 0 + addc (w.getD (i + 4) 0 * 38 + w.getD i 0 + 0) (hst w i).2 0)
theorem hst_len (w : List UInt64) : ∀ i, (hst w i).1.length = 4
  | 0 => by simp [hst]
  | i + 1 => by rw [hst, List.length_set, hst_len]
def mulL (a r : List UInt64) : List UInt64 := foldL (hst (tout a r 4) 4).1 (hst (tout a r 4) 4).2

theorem spl4 {α : Type} {k : IntKind} {g : α → Int} {a b : List α} (h : b.length = a.length) : splice (mapc k g a) 0 (mapc k g b) = mapc k g b := by
  simp [splice, mapc, h]
/-- field.prime -/
theorem prime_ : Good Try.prog 47 [] [] (sa (u64s pl)) [] := by
  refine good_frm 2 Try.func47 rfl rfl rfl rfl rfl rfl ?_
  refine awp_seq ?_
  refine rln ?_
  refine G2 (fun _ k_ => q_al k_) ?_
  refine gend ?_
  refine awp_seq ?_
  refine rln ?_
  refine G (q_bla (fkC (out := u64s [18446744073709551597, 18446744073709551615, 18446744073709551615, 9223372036854775807]) ?_))
  refine G20 (fun _ k_ => q_stw k_) ?_
  refine gend ?_
  refine awp_ret ?_
  exact fpc (t := 44) (a := 0)
/-- math/bits.Mul64 -/
theorem mul64 (x y : UInt64) : Good Try.prog 40 [.c (c64 x), .c (c64 y)] [] (.t [.c (c64 (mulhi x y)), .c (c64 (x * y))]) [] := by
  refine good_frm 51 Try.func40 rfl rfl rfl rfl rfl rfl ?_
  refine awp_seq ?_
  refine rln ?_
  refine G (q_as (s := sc (c64 0)) ?_)
  refine G (q_as (s := sc (c64 0)) ?_)
  refine gend ?_
  refine awp_seq ?_
  refine rln ?_
  refine Mv ?_
  refine G (q_and64 (y := 4294967295) ?_)
  refine As ?_
  refine gend ?_
  refine awp_seq ?_
  refine rln ?_
  refine Mv ?_
  refine G (q_shr64_64 (n := 32) ?_)
  refine As ?_
  refine gend ?_
  refine awp_seq ?_
  refine rln ?_
  refine Mv ?_
  refine G (q_and64 (y := 4294967295) ?_)
  refine As ?_
  refine gend ?_
  refine awp_seq ?_
  refine rln ?_
  refine Mv ?_
  refine G (q_shr64_64 (n := 32) ?_)
  refine As ?_
  refine gend ?_
  refine awp_seq ?_
  refine rln ?_
  refine Mv ?_
  refine Mv ?_
  refine G (q_mul64 ?_)
  refine As ?_
  refine gend ?_
  refine awp_seq ?_
  refine rln ?_
  refine Mv ?_
  refine Mv ?_
  refine G (q_mul64 ?_)
  refine Mv ?_
  refine G (q_shr64_64 (n := 32) ?_)
  refine G (q_add64 ?_)
  refine As ?_
  refine gend ?_
  refine awp_seq ?_
  refine rln ?_
  refine Mv ?_
  refine G (q_and64 (y := 4294967295) ?_)
  refine As ?_
  refine gend ?_
  refine awp_seq ?_
  refine rln ?_
  refine Mv ?_
  refine G (q_shr64_64 (n := 32) ?_)
  refine As ?_
  refine gend ?_
  refine awp_seq ?_
  refine rln ?_
  refine Mv ?_
  refine Mv ?_
  refine Mv ?_
  refine G (q_mul64 ?_)
  refine G (q_add64 ?_)
  refine As ?_
  refine gend ?_
  refine awp_seq ?_
  refine rln ?_
  refine Mv ?_
  refine Mv ?_
  refine G (q_mul64 ?_)
  refine Mv ?_
  refine G (q_add64 ?_)
  refine Mv ?_
  refine G (q_shr64_64 (n := 32) ?_)
  refine G (q_add64 ?_)
  refine As ?_
  refine gend ?_
  refine awp_seq ?_
  refine rln ?_
  refine Mv ?_
  refine Mv ?_
  refine G (q_mul64 ?_)
  refine As ?_
  refine gend ?_
  refine awp_ret ?_
  exact fp2
/-- field.less -/
theorem less_ (w : List UInt64) (h : w.length = 4) : Good Try.prog 35 [.a (u64s w)] [] (sa (u64s (lessL w))) [] := by
  refine good_frm 31 Try.func35 rfl rfl rfl rfl rfl rfl ?_
  refine awp_seq ?_
  refine rln ?_
  refine G2 (fun _ k_ => q_boxa k_) ?_
  refine G2 (fun _ k_ => q_al k_) ?_
  refine gend ?_
  refine awp_seq ?_
  refine rln ?_
  refine G2 (fun _ k_ => q_al k_) ?_
  refine gend ?_
  refine awp_seq ?_
  refine rln ?_
  refine G (q_as (s := sc (c64 0)) ?_)
  refine gend ?_
  refine awp_seq ?_
  refine rln ?_
  refine G2 (fun _ k_ => q_callp (prime_/- escutcheon/field.prime -/) k_) ?_
  refine G2 (fun _ k_ => q_al k_) ?_
  refine G20 (fun _ k_ => q_stw k_) ?_
  refine gend ?_
  refine awp_seq ?_
  refine awp_seq ?_
  refine rln ?_
  refine G (q_mv (s := sc (cn 0)) ?_)
  refine gend ?_
  refine awp_block ?_
  refine awp_loop (fun x : {i : Nat // i ≤ 4} => ⟨frm 31 [(1, sc (.ptr 0 0)), (2, sc (.ptr 1 0)), (3, sc (.ptr 2 0)), (4, sc (c64 (lsb w x.1).2)), (5, sc (.ptr 3 0)), (8, sc (cn x.1))], [some (u64s w), some (u64s (List.replicate 4 0)), some (u64s (lsb w x.1).1), some (u64s pl)]⟩) (fun x => 4 - x.1) ⟨0, Nat.zero_le _⟩ (sle_sub ⟨rfl, rfl, rfl, rfl, rfl, rfl, trivial⟩ rfl) fun x => ?_   -- live: [1, 3, 4, 5, 8]
  have hl := lsb_len w x.1
  have hb := lsb_le w x.1
  have hp : pl.length = 4 := rfl
  refine awp_seq ?_
  refine rln ?_
  refine G (q_lssn (y := 4) ?_)
  refine gend ?_
  refine awp_seq ?_
  refine cnd (fun hc1 => ?_) (fun hc1 => ?_); rotate_left
  · refine awp_exit ?_
    rw [show x.1 = 4 from (by have := x.2; omega)]
    have hl := lsb_len w 4
    refine awp_seq ?_
    refine awp_seq ?_
    refine rln ?_
    refine Mv ?_
    refine G (q_eql64 (y := 0) ?_)
    refine gend ?_
    refine cnd (fun hc2 => ?_) (fun hc2 => ?_)
    · refine awp_seq ?_
      refine rln ?_
      refine G (q_ldw ?_)
      refine G  (q_bls (fka rfl (et rfl) ((mapc_length ..).trans hl) (by decide) (fk0 ?_)))
      rw [spl4 (a := List.replicate 4 0) hl]
      refine G20 (fun _ k_ => q_stw k_) ?_
      refine gend ?_
      refine awp_ret ?_
      exact fpc (t := 46) (a := 2) (hn := by exact (mapc_length ..).trans hl) (hv := by rw [lessL, if_pos hc2])
    refine awp_skip ?_
    refine awp_seq ?_
    refine rln ?_
    refine G (q_ldw ?_)
    refine G  (q_bls (fka rfl (et rfl) ((mapc_length ..).trans h) (by decide) (fk0 ?_)))
    rw [spl4 (a := List.replicate 4 0) h]
    refine G20 (fun _ k_ => q_stw k_) ?_
    refine gend ?_
    refine awp_ret ?_
    exact fpc (t := 46) (a := 2) (hn := by exact (mapc_length ..).trans h) (hv := by rw [lessL, if_neg hc2])
  refine awp_skip ?_
  refine awp_seq ?_
  refine awp_block ?_
  refine awp_seq ?_
  refine rln ?_
  refine Mv ?_
  refine As ?_
  refine gend ?_
  refine rdln [13] [0, 0, 0, 0, 0, 0, 0, 0, 0, 0, 0, 0, 0, 0, 1] [0, 0, 0, 0, 0, 0, 0, 0, 0, 0, 0, 1, 0, 1, 1] ?_
  refine Dp (fun _ => q_mv (s := .v (.c _)) ⟨rfl, rfl⟩) ?_
  refine Dp (fun _ => q_mv (s := .v (.c _)) ⟨rfl, rfl⟩) ?_
  refine Dp (fun _ => q_ixp1 ⟨rfl, rfl⟩) ?_
  refine DLp ?_
  refine Dp (fun _ => q_mv (s := .v (.c _)) ⟨rfl, rfl⟩) ?_
  refine Dp (fun _ => q_ixp1 ⟨rfl, rfl⟩) ?_
  refine DLp ?_
  refine Dp (fun _ => q_mv (s := .v (.c _)) ⟨rfl, rfl⟩) ?_
  refine Dp (fun _ => q_subx ⟨rfl, rfl⟩) ?_
  refine Dp (fun _ => q_mv (s := .t _) ⟨rfl, rfl⟩) ?_
  refine Dp (fun _ => q_ext (y := .c _) ⟨rfl, rfl⟩) ?_
  refine Dp (fun _ => q_ext (y := .c _) ⟨rfl, rfl⟩) ?_
  refine Dp (fun _ => q_ixp1 ⟨rfl, rfl⟩) ?_
  refine De20 (fun _ k_ => q_stm k_) ?_
  refine Dp (fun _ => q_as (s := .v (.c _)) ⟨rfl, rfl⟩) ?_
  refine dend ?_
  refine rln ?_
  refine G (q_addn (y := 1) ?_)
  refine Mv ?_
  refine gend ?_
  exact ⟨⟨x.1 + 1, by omega⟩, by show 4 - (x.1 + 1) < 4 - x.1; omega, sle_sub ⟨rfl, rfl, rfl, rfl, rfl, rfl, trivial⟩ rfl⟩   -- endloop 1
set_option maxHeartbeats 1600000 in
/-- field.fold -/
theorem fold_ (w : List UInt64) (u : UInt64) (h : w.length = 4) : Good Try.prog 42 [.a (u64s w), .c (c64 u)] [] (sa (u64s (foldL w u))) [] := by
  have g2 := less_ (foB (foA w u)) ((foB_len _).trans ((foA_len w u).trans h))
  refine good_frm 108 Try.func42 rfl rfl rfl rfl rfl rfl ?_
  refine awp_seq ?_
  refine rln ?_
  refine G2 (fun _ k_ => q_boxa k_) ?_
  refine G2 (fun _ k_ => q_al k_) ?_
  refine gend ?_
  refine awp_seq ?_
  refine rln ?_
  refine Mv ?_
  refine G (q_callp (mul64 _ 38) ?_ (ha := (cac (et rfl) cm_int (cac rfl cm_int ca0))))
  refine G (q_mv (s := .t _) ?_)
  refine G (q_ext (y := .c _) ?_)
  refine G (q_ext (y := .c _) ?_)
  refine As ?_
  refine As ?_
  refine gend ?_
  refine awp_seq ?_
  refine rln ?_
  refine G (q_ixp1 ?_)
  refine G (q_ldp ?_)
  refine G (q_shr64_64 (n := 63) ?_)
  refine As ?_
  refine gend ?_
  refine awp_seq ?_
  refine rln ?_
  refine G (q_ixp1 ?_)
  refine G (q_ldp ?_)
  refine G (q_and64 (y := 9223372036854775807) ?_)
  refine G (q_ixp1 ?_)
  refine G20 (fun _ k_ => q_stm k_) ?_
  refine gend ?_
  refine awp_seq ?_
  refine rln ?_
  refine G (q_as (s := sc (c64 0)) ?_)
  refine gend ?_
  refine awp_seq ?_
  refine rln ?_
  refine G (q_ixp1 ?_)
  refine G (q_ldp ?_)
  refine Mv ?_
  refine G (q_addx (c := 0) ?_)
  refine G (q_mv (s := .t _) ?_)
  refine G (q_ext (y := .c _) ?_)
  refine G (q_ext (y := .c _) ?_)
  refine G (q_ixp1 ?_)
  refine G20 (fun _ k_ => q_stm k_) ?_
  refine As ?_
  refine gend ?_
  refine awp_seq ?_
  refine rln ?_
  refine G (q_ixp1 ?_)
  refine G (q_ldp ?_)
  refine Mv ?_
  refine Mv ?_
  refine G (q_addx ?_)
  refine G (q_mv (s := .t _) ?_)
  refine G (q_ext (y := .c _) ?_)
  refine G (q_ext (y := .c _) ?_)
  refine G (q_ixp1 ?_)
  refine G20 (fun _ k_ => q_stm k_) ?_
  refine As ?_
  refine gend ?_
  refine awp_seq ?_
  refine rln ?_
  refine G (q_ixp1 ?_)
  refine G (q_ldp ?_)
  refine Mv ?_
  refine G (q_addx (y := 0) ?_)
  refine G (q_mv (s := .t _) ?_)
  refine G (q_ext (y := .c _) ?_)
  refine G (q_ext (y := .c _) ?_)
  refine G (q_ixp1 ?_)
  refine G20 (fun _ k_ => q_stm k_) ?_
  refine As ?_
  refine gend ?_
  refine awp_seq ?_
  refine rln ?_
  refine G (q_ixp1 ?_)
  refine G (q_ldp ?_)
  refine Mv ?_
  refine G (q_add64 ?_)
  refine G (q_ixp1 ?_)
  refine G20 (fun _ k_ => q_stm k_) ?_
  refine gend ?_
  refine awp_seq ?_
  refine rln ?_
  refine G (q_ixp1 ?_)
  refine G (q_ldp ?_)
  refine Mv ?_
  refine G (q_mul64 (x := 19) ?_)
  refine G (q_addx (c := 0) ?_)
  refine G (q_mv (s := .t _) ?_)
  refine G (q_ext (y := .c _) ?_)
  refine G (q_ext (y := .c _) ?_)
  refine G (q_ixp1 ?_)
  refine G20 (fun _ k_ => q_stm k_) ?_
  refine As ?_
  refine gend ?_
  refine awp_seq ?_
  refine awp_seq ?_
  refine rln ?_
  refine G (q_as (s := sc (cn 1)) ?_)
  refine gend ?_
  refine awp_block ?_
  refine awp_loop (fun x : {i : Nat // i ≤ 3} => ⟨frm 108 [(2, sc (.ptr 0 0)), (4, sc (.ptr 1 0)), (8, sc (c64 (crl (ad19 (fo4 w u) (shr64n (w.getD 3 0) 63)) (ca19 (fo4 w u) (shr64n (w.getD 3 0) 63)) x.1).2)), (9, sc (cn (1 + x.1)))], [some (u64s (crl (ad19 (fo4 w u) (shr64n (w.getD 3 0) 63)) (ca19 (fo4 w u) (shr64n (w.getD 3 0) 63)) x.1).1), some (u64s (List.replicate 4 0))]⟩) (fun x => 3 - x.1) ⟨0, Nat.zero_le _⟩ (sle_sub ⟨rfl, rfl, rfl, rfl, trivial⟩ rfl) fun x => ?_   -- live: [2, 8, 9]
  have hl := (crl_len (ad19 (fo4 w u) (shr64n (w.getD 3 0) 63)) (ca19 (fo4 w u) (shr64n (w.getD 3 0) 63)) x.1).trans ((by simp only [List.length_set] : _ = w.length).trans h)
  have hb := crl_le (ad19 (fo4 w u) (shr64n (w.getD 3 0) 63)) (ca19 (fo4 w u) (shr64n (w.getD 3 0) 63)) (addc_le ..) x.1
  refine awp_seq ?_
  refine awp_seq ?_
  refine rln ?_
  refine Mv ?_
  refine G (q_lssn (y := 4) ?_)
  refine gend ?_
  refine cnd (fun hc1 => ?_) (fun hc1 => ?_); rotate_left
  · refine awp_exit ?_
    rw [show x.1 = 3 from (by have := x.2; omega)]
    have hl : (foA w u).length = 4 := (foA_len w u).trans h
    rw [show (crl (ad19 (fo4 w u) (shr64n (w.getD 3 0) 63)) (ca19 (fo4 w u) (shr64n (w.getD 3 0) 63)) 3).1 = foA w u from rfl]
    generalize hE : foA w u = E at hl g2 ⊢
    refine awp_seq ?_
    refine rln ?_
    refine G (q_ixp1 ?_)
    refine G (q_ldp ?_)
    refine G (q_shr64_64 (n := 63) ?_)
    refine As ?_
    refine gend ?_
    refine awp_seq ?_
    refine rln ?_
    refine G (q_ixp1 ?_)
    refine G (q_ldp ?_)
    refine G (q_and64 (y := 9223372036854775807) ?_)
    refine G (q_ixp1 ?_)
    refine G20 (fun _ k_ => q_stm k_) ?_
    refine gend ?_
    refine awp_seq ?_
    refine rln ?_
    refine G (q_ixp1 ?_)
    refine G (q_ldp ?_)
    refine Mv ?_
    refine G (q_mul64 (x := 19) ?_)
    refine G (q_addx (c := 0) ?_)
    refine G (q_mv (s := .t _) ?_)
    refine G (q_ext (y := .c _) ?_)
    refine G (q_ext (y := .c _) ?_)
    refine G (q_ixp1 ?_)
    refine G20 (fun _ k_ => q_stm k_) ?_
    refine As ?_
    refine gend ?_
    refine awp_seq ?_
    refine awp_seq ?_
    refine rln ?_
    refine G (q_as (s := sc (cn 1)) ?_)
    refine gend ?_
    refine awp_block ?_
    refine awp_loop (fun y : {i : Nat // i ≤ 3} => ⟨frm 108 [(2, sc (.ptr 0 0)), (4, sc (.ptr 1 0)), (8, sc (c64 (crl (ad19 (m63 E) (shr64n (E.getD 3 0) 63)) (ca19 (m63 E) (shr64n (E.getD 3 0) 63)) y.1).2)), (10, sc (cn (1 + y.1)))], [some (u64s (crl (ad19 (m63 E) (shr64n (E.getD 3 0) 63)) (ca19 (m63 E) (shr64n (E.getD 3 0) 63)) y.1).1), some (u64s (List.replicate 4 0))]⟩) (fun y => 3 - y.1) ⟨0, Nat.zero_le _⟩ (sle_sub ⟨rfl, rfl, rfl, rfl, trivial⟩ rfl) fun y => ?_   -- live: [2, 8, 10]
    have hl2 := (crl_len (ad19 (m63 E) (shr64n (E.getD 3 0) 63)) (ca19 (m63 E) (shr64n (E.getD 3 0) 63)) y.1).trans ((by simp only [List.length_set] : _ = E.length).trans hl)
    have hb := crl_le (ad19 (m63 E) (shr64n (E.getD 3 0) 63)) (ca19 (m63 E) (shr64n (E.getD 3 0) 63)) (addc_le ..) y.1
    refine awp_seq ?_
    refine awp_seq ?_
    refine rln ?_
    refine Mv ?_
    refine G (q_lssn (y := 4) ?_)
    refine gend ?_
    refine cnd (fun hc2 => ?_) (fun hc2 => ?_); rotate_left
    · refine awp_exit ?_
      rw [show y.1 = 3 from (by have := y.2; omega)]
      have hl3 : (foB E).length = 4 := (foB_len E).trans hl
      rw [show (crl (ad19 (m63 E) (shr64n (E.getD 3 0) 63)) (ca19 (m63 E) (shr64n (E.getD 3 0) 63)) 3).1 = foB E from rfl]
      have hl4 := lessL_len _ hl3
      obtain ⟨L, hL⟩ : ∃ L, lessL (foB E) = L := ⟨_, rfl⟩
      rw [hL] at hl4 g2
      generalize hG : foB E = E2 at hl3 g2 hL ⊢
      refine awp_seq ?_
      refine rln ?_
      refine G (q_ldw ?_)
      refine G2 (fun _ k_ => q_callp (g2/- escutcheon/field.less -/) k_) ?_
      refine G20 (fun _ k_ => q_stw k_) ?_
      refine gend ?_
      refine awp_ret ?_
      exact fpc (t := 46) (a := 4) (hn := by exact (mapc_length ..).trans hl4) (hv := by rw [foldL, hE, hG, hL])
    refine awp_skip ?_
    refine awp_seq ?_
    refine awp_block ?_
    refine rln ?_
    refine Mv ?_
    refine Mv ?_
    refine G (q_ixp1 ?_)
    refine G (q_ldp ?_)
    refine Mv ?_
    refine G (q_addx (y := 0) ?_)
    refine G (q_mv (s := .t _) ?_)
    refine G (q_ext (y := .c _) ?_)
    refine G (q_ext (y := .c _) ?_)
    refine G (q_ixp1 ?_)
    refine G20 (fun _ k_ => q_stm k_) ?_
    refine As ?_
    refine gend ?_
    refine rln ?_
    refine Mv ?_
    refine G (q_addn (y := 1) ?_)
    refine As ?_
    refine gend ?_
    exact ⟨⟨y.1 + 1, by omega⟩, by show 3 - (y.1 + 1) < 3 - y.1; omega, sle_sub ⟨rfl, rfl, rfl, rfl, trivial⟩ rfl⟩   -- endloop 2
  refine awp_skip ?_
  refine awp_seq ?_
  refine awp_block ?_
  refine rln ?_
  refine Mv ?_
  refine Mv ?_
  refine G (q_ixp1 ?_)
  refine G (q_ldp ?_)
  refine Mv ?_
  refine G (q_addx (y := 0) ?_)
  refine G (q_mv (s := .t _) ?_)
  refine G (q_ext (y := .c _) ?_)
  refine G (q_ext (y := .c _) ?_)
  refine G (q_ixp1 ?_)
  refine G20 (fun _ k_ => q_stm k_) ?_
  refine As ?_
  refine gend ?_
  refine rln ?_
  refine Mv ?_
  refine G (q_addn (y := 1) ?_)
  refine As ?_
  refine gend ?_
  exact ⟨⟨x.1 + 1, by omega⟩, by show 3 - (x.1 + 1) < 3 - x.1; omega, sle_sub ⟨rfl, rfl, rfl, rfl, trivial⟩ rfl⟩   -- endloop 1
/-- field.Of -/
theorem of_ (b : List UInt8) (h : b.length = 32) : Good Try.prog 23 [.a (u8s b)] [] (sa (u64s (ofL b))) [] := by
  have g2 := less_ (m63 (ofb b 32)) (List.length_set.trans (ofb_len b 32))
  refine good_frm 30 Try.func23 rfl rfl rfl rfl rfl rfl ?_
  refine awp_seq ?_
  refine rln ?_
  refine G2 (fun _ k_ => q_boxa k_) ?_
  refine G2 (fun _ k_ => q_al k_) ?_
  refine gend ?_
  refine awp_seq ?_
  refine rln ?_
  refine G2 (fun _ k_ => q_al k_) ?_
  refine gend ?_
  refine awp_seq ?_
  refine awp_seq ?_
  refine rln ?_
  refine G (q_ldw ?_)
  refine G (q_mv (s := sc (cn 0)) ?_)
  refine gend ?_
  refine awp_block ?_
  refine awp_loop (fun x : {i : Nat // i ≤ 32} => ⟨frm 30 [(2, sc (.ptr 1 0)), (3, sc (.ptr 2 0)), (6, sa (u8s b)), (7, sc (cn x.1))], [some (u8s b), some (u64s (List.replicate 4 0)), some (u64s (ofb b x.1))]⟩) (fun x => 32 - x.1) ⟨0, Nat.zero_le _⟩ (sle_sub ⟨rfl, rfl, rfl, rfl, trivial⟩ rfl) fun x => ?_   -- live: [3, 6, 7]
  have hl := ofb_len b x.1
  refine awp_seq ?_
  refine rln ?_
  refine G (q_lssn (y := 32) ?_)
  refine gend ?_
  refine awp_seq ?_
  refine cnd (fun hc1 => ?_) (fun hc1 => ?_); rotate_left
  · refine awp_exit ?_
    rw [show x.1 = 32 from (by have := x.2; omega)]
    have hl := ofb_len b 32
    have hl2 : (m63 (ofb b 32)).length = 4 := List.length_set.trans hl
    have hl4 := lessL_len _ hl2
    obtain ⟨L, hL⟩ : ∃ L, lessL (m63 (ofb b 32)) = L := ⟨_, rfl⟩
    rw [hL] at hl4 g2
    obtain ⟨W, hW⟩ : ∃ W, ofb b 32 = W := ⟨_, rfl⟩
    rw [hW] at hl hl2 g2 ⊢
    refine awp_seq ?_
    refine rln ?_
    refine G (q_ixp1 ?_)
    refine G (q_ldp ?_)
    refine G (q_and64 (y := 9223372036854775807) ?_)
    refine G (q_ixp1 ?_)
    refine G20 (fun _ k_ => q_stm k_) ?_
    refine gend ?_
    refine awp_seq ?_
    refine rln ?_
    refine G (q_ldw ?_)
    refine G2 (fun _ k_ => q_callp (g2/- escutcheon/field.less -/) k_) ?_
    refine G20 (fun _ k_ => q_stw k_) ?_
    refine gend ?_
    refine awp_ret ?_
    exact fpc (t := 46) (a := 2) (hn := by exact (mapc_length ..).trans hl4) (hv := by rw [ofL, hL])
  refine awp_skip ?_
  refine awp_seq ?_
  refine awp_block ?_
  refine awp_seq ?_
  refine rln ?_
  refine Mv ?_
  refine G (q_inc ?_)
  refine As ?_
  refine As ?_
  refine gend ?_
  refine rdln [12] [] [0, 0, 0, 0, 0, 0, 0, 0, 0, 0, 0, 0, 1] ?_
  refine Dp (fun _ => q_mv (s := .v (.c _)) ⟨rfl, rfl⟩) ?_
  refine Dp (fun _ => q_quon (y := 8) ⟨rfl, rfl⟩) ?_
  refine Dp (fun _ => q_ixp1 ⟨rfl, rfl⟩) ?_
  refine DLp ?_
  refine Dp (fun _ => q_mv (s := .v (.c _)) ⟨rfl, rfl⟩) ?_
  refine Dp (fun _ => q_cv8_64 ⟨rfl, rfl⟩) ?_
  refine Dp (fun _ => q_mv (s := .v (.c _)) ⟨rfl, rfl⟩) ?_
  refine Dp (fun _ => q_remn (y := 8) ⟨rfl, rfl⟩) ?_
  refine Dp (fun _ => q_muln (x := 8) ⟨rfl, rfl⟩) ?_
  refine Dp (fun _ => q_shl64_0 ⟨rfl, rfl⟩) ?_
  refine Dp (fun _ => q_or64 ⟨rfl, rfl⟩) ?_
  refine Dp (fun _ => q_ixp1 ⟨rfl, rfl⟩) ?_
  refine De20 (fun _ k_ => q_stm k_) ?_
  refine dend ?_
  refine rln ?_
  refine G (q_addn (y := 1) ?_)
  refine Mv ?_
  refine gend ?_
  exact ⟨⟨x.1 + 1, by omega⟩, by show 32 - (x.1 + 1) < 32 - x.1; omega, sle_sub ⟨rfl, rfl, rfl, rfl, trivial⟩ rfl⟩   -- endloop 1
/-- field.Small -/
theorem small_ (n : UInt64) : Good Try.prog 24 [.c (c64 n)] [] (sa (u64s [n, 0, 0, 0])) [] := by
  refine good_frm 6 Try.func24 rfl rfl rfl rfl rfl rfl ?_
  refine awp_seq ?_
  refine rln ?_
  refine G2 (fun _ k_ => q_al k_) ?_
  refine gend ?_
  refine awp_seq ?_
  refine rln ?_
  refine Mv ?_
  refine G (q_bla (fkc rfl (et rfl) rfl (Nat.le_of_ble_eq_true rfl) (fk0 ?_)))
  rw [show (u64s (List.replicate 4 0)).set (0 * 1) (c64 n) = u64s [n, 0, 0, 0] from rfl]
  refine G  (q_bls (fka rfl (et rfl) rfl (Nat.le_refl 4) (fk0 ?_)))
  rw [spl4 (a := List.replicate 4 0) (b := [n, 0, 0, 0]) rfl]
  refine G20 (fun _ k_ => q_stw k_) ?_
  refine gend ?_
  refine awp_ret ?_
  exact fpc (t := 46) (a := 2)
/-- (field.Elem).Bytes -/
theorem bytes_ (w : List UInt64) (h : w.length = 4) : Good Try.prog 29 [.a (u64s w)] [] (sa (u8s (byl w 32))) [] := by
  refine good_frm 21 Try.func29 rfl rfl rfl rfl rfl rfl ?_
  refine awp_seq ?_
  refine rln ?_
  refine G2 (fun _ k_ => q_boxa k_) ?_
  refine G2 (fun _ k_ => q_al k_) ?_
  refine gend ?_
  refine awp_seq ?_
  refine awp_seq ?_
  refine rln ?_
  refine G (q_mv (s := sc (cn 0)) ?_)
  refine gend ?_
  refine awp_block ?_
  refine awp_loop (fun x : {i : Nat // i ≤ 32} => ⟨frm 21 [(1, sc (.ptr 0 0)), (2, sc (.ptr 1 0)), (4, sc (cn x.1))], [some (u64s w), some (u8s (byl w x.1))]⟩) (fun x => 32 - x.1) ⟨0, Nat.zero_le _⟩ (sle_sub ⟨rfl, rfl, rfl, trivial⟩ rfl) fun x => ?_   -- live: [1, 2, 4]
  have hl := byl_len w x.1
  refine awp_seq ?_
  refine rln ?_
  refine G (q_lssn (y := 32) ?_)
  refine gend ?_
  refine awp_seq ?_
  refine cnd (fun hc1 => ?_) (fun hc1 => ?_); rotate_left
  · refine awp_exit ?_
    rw [show x.1 = 32 from (by have := x.2; omega)]
    have hl := byl_len w 32
    refine awp_seq ?_
    refine rln ?_
    refine G (q_ldw ?_)
    refine G20 (fun _ k_ => q_stw k_) ?_
    refine gend ?_
    refine awp_ret ?_
    exact fpc (t := 23) (a := 2) (hn := by exact (mapc_length ..).trans hl)
  refine awp_skip ?_
  refine awp_seq ?_
  refine awp_block ?_
  refine awp_seq ?_
  refine rln ?_
  refine Mv ?_
  refine As ?_
  refine gend ?_
  refine rln ?_
  refine Mv ?_
  refine Mv ?_
  refine G (q_quon (y := 8) ?_)
  refine G (q_fap0 ?_)
  refine G (q_ixp1 ?_)
  refine G (q_ldp ?_)
  refine Mv ?_
  refine G (q_remn (y := 8) ?_)
  refine G (q_muln (x := 8) ?_)
  refine G (q_shr64_0 ?_)
  refine G (q_cv64_8 ?_)
  refine G (q_ixp1 ?_)
  refine G20 (fun _ k_ => q_stm k_) ?_
  refine gend ?_
  refine rln ?_
  refine G (q_addn (y := 1) ?_)
  refine Mv ?_
  refine gend ?_
  exact ⟨⟨x.1 + 1, by omega⟩, by show 32 - (x.1 + 1) < 32 - x.1; omega, sle_sub ⟨rfl, rfl, rfl, trivial⟩ rfl⟩   -- endloop 1
/-- (field.Elem).Add -/
theorem add_ (x y : List UInt64) (hx : x.length = 4) (hy : y.length = 4) : Good Try.prog 37 [.a (u64s x), .a (u64s y)] [] (sa (u64s (lessL (adl x y 4).1))) [] := by
  have g2 := less_ (adl x y 4).1 (adl_len x y 4)
  refine good_frm 29 Try.func37 rfl rfl rfl rfl rfl rfl ?_
  refine awp_seq ?_
  refine rln ?_
  refine G2 (fun _ k_ => q_boxa k_) ?_
  refine G2 (fun _ k_ => q_boxa k_) ?_
  refine G2 (fun _ k_ => q_al k_) ?_
  refine gend ?_
  refine awp_seq ?_
  refine rln ?_
  refine G2 (fun _ k_ => q_al k_) ?_
  refine gend ?_
  refine awp_seq ?_
  refine rln ?_
  refine G (q_as (s := sc (c64 0)) ?_)
  refine gend ?_
  refine awp_seq ?_
  refine awp_seq ?_
  refine rln ?_
  refine G (q_mv (s := sc (cn 0)) ?_)
  refine gend ?_
  refine awp_block ?_
  refine awp_loop (fun i : {i : Nat // i ≤ 4} => ⟨frm 29 [(2, sc (.ptr 0 0)), (3, sc (.ptr 1 0)), (4, sc (.ptr 2 0)), (5, sc (.ptr 3 0)), (6, sc (c64 (adl x y i.1).2)), (8, sc (cn i.1))], [some (u64s x), some (u64s y), some (u64s (List.replicate 4 0)), some (u64s (adl x y i.1).1)]⟩) (fun i => 4 - i.1) ⟨0, Nat.zero_le _⟩ (sle_sub ⟨rfl, rfl, rfl, rfl, rfl, rfl, trivial⟩ rfl) fun i => ?_   -- live: [2, 3, 5, 6, 8]
  have hl := adl_len x y i.1
  have hb := adl_le x y i.1
  refine awp_seq ?_
  refine rln ?_
  refine G (q_lssn (y := 4) ?_)
  refine gend ?_
  refine awp_seq ?_
  refine cnd (fun hc1 => ?_) (fun hc1 => ?_); rotate_left
  · refine awp_exit ?_
    rw [show i.1 = 4 from (by have := i.2; omega)]
    have hl := adl_len x y 4
    have hl4 := lessL_len _ hl
    generalize lessL (adl x y 4).1 = L at hl4 g2 ⊢
    refine awp_seq ?_
    refine rln ?_
    refine G (q_ldw ?_)
    refine G2 (fun _ k_ => q_callp (g2/- escutcheon/field.less -/) k_) ?_
    refine G20 (fun _ k_ => q_stw k_) ?_
    refine gend ?_
    refine awp_ret ?_
    exact fpc (t := 46) (a := 4) (hn := by exact (mapc_length ..).trans hl4)
  refine awp_skip ?_
  refine awp_seq ?_
  refine awp_block ?_
  refine awp_seq ?_
  refine rln ?_
  refine Mv ?_
  refine As ?_
  refine gend ?_
  refine rdln [15] [0, 0, 0, 0, 0, 0, 0, 0, 0, 0, 0, 0, 0, 0, 0, 0, 1] [0, 0, 0, 0, 0, 0, 0, 0, 0, 0, 0, 0, 0, 1, 0, 1, 1] ?_
  refine Dp (fun _ => q_mv (s := .v (.c _)) ⟨rfl, rfl⟩) ?_
  refine Dp (fun _ => q_mv (s := .v (.c _)) ⟨rfl, rfl⟩) ?_
  refine Dp (fun _ => q_fap0 ⟨rfl, rfl⟩) ?_
  refine Dp (fun _ => q_ixp1 ⟨rfl, rfl⟩) ?_
  refine DLp ?_
  refine Dp (fun _ => q_mv (s := .v (.c _)) ⟨rfl, rfl⟩) ?_
  refine Dp (fun _ => q_fap0 ⟨rfl, rfl⟩) ?_
  refine Dp (fun _ => q_ixp1 ⟨rfl, rfl⟩) ?_
  refine DLp ?_
  refine Dp (fun _ => q_mv (s := .v (.c _)) ⟨rfl, rfl⟩) ?_
  refine Dp (fun _ => q_addx ⟨rfl, rfl⟩) ?_
  refine Dp (fun _ => q_mv (s := .t _) ⟨rfl, rfl⟩) ?_
  refine Dp (fun _ => q_ext (y := .c _) ⟨rfl, rfl⟩) ?_
  refine Dp (fun _ => q_ext (y := .c _) ⟨rfl, rfl⟩) ?_
  refine Dp (fun _ => q_ixp1 ⟨rfl, rfl⟩) ?_
  refine De20 (fun _ k_ => q_stm k_) ?_
  refine Dp (fun _ => q_as (s := .v (.c _)) ⟨rfl, rfl⟩) ?_
  refine dend ?_
  refine rln ?_
  refine G (q_addn (y := 1) ?_)
  refine Mv ?_
  refine gend ?_
  exact ⟨⟨i.1 + 1, by omega⟩, by show 4 - (i.1 + 1) < 4 - i.1; omega, sle_sub ⟨rfl, rfl, rfl, rfl, rfl, rfl, trivial⟩ rfl⟩   -- endloop 1
/-- (field.Elem).Neg -/
theorem neg_ (x : List UInt64) (hx : x.length = 4) : Good Try.prog 50 [.a (u64s x)] [] (sa (u64s (lessL (ngl x 4).1))) [] := by
  have g2 := less_ (ngl x 4).1 (ngl_len x 4)
  refine good_frm 28 Try.func50 rfl rfl rfl rfl rfl rfl ?_
  refine awp_seq ?_
  refine rln ?_
  refine G2 (fun _ k_ => q_boxa k_) ?_
  refine G2 (fun _ k_ => q_al k_) ?_
  refine gend ?_
  refine awp_seq ?_
  refine rln ?_
  refine G2 (fun _ k_ => q_al k_) ?_
  refine gend ?_
  refine awp_seq ?_
  refine rln ?_
  refine G (q_as (s := sc (c64 0)) ?_)
  refine gend ?_
  refine awp_seq ?_
  refine rln ?_
  refine G2 (fun _ k_ => q_callp (prime_/- escutcheon/field.prime -/) k_) ?_
  refine G2 (fun _ k_ => q_al k_) ?_
  refine G20 (fun _ k_ => q_stw k_) ?_
  refine gend ?_
  refine awp_seq ?_
  refine awp_seq ?_
  refine rln ?_
  refine G (q_mv (s := sc (cn 0)) ?_)
  refine gend ?_
  refine awp_block ?_
  refine awp_loop (fun i : {i : Nat // i ≤ 4} => ⟨frm 28 [(1, sc (.ptr 0 0)), (2, sc (.ptr 1 0)), (3, sc (.ptr 2 0)), (4, sc (c64 (ngl x i.1).2)), (5, sc (.ptr 3 0)), (8, sc (cn i.1))], [some (u64s x), some (u64s (List.replicate 4 0)), some (u64s (ngl x i.1).1), some (u64s pl)]⟩) (fun i => 4 - i.1) ⟨0, Nat.zero_le _⟩ (sle_sub ⟨rfl, rfl, rfl, rfl, rfl, rfl, trivial⟩ rfl) fun i => ?_   -- live: [1, 3, 4, 5, 8]
  have hl := ngl_len x i.1
  have hb := ngl_le x i.1
  have hp : pl.length = 4 := rfl
  refine awp_seq ?_
  refine rln ?_
  refine G (q_lssn (y := 4) ?_)
  refine gend ?_
  refine awp_seq ?_
  refine cnd (fun hc1 => ?_) (fun hc1 => ?_); rotate_left
  · refine awp_exit ?_
    rw [show i.1 = 4 from (by have := i.2; omega)]
    have hl := ngl_len x 4
    have hl4 := lessL_len _ hl
    generalize lessL (ngl x 4).1 = L at hl4 g2 ⊢
    refine awp_seq ?_
    refine rln ?_
    refine G (q_ldw ?_)
    refine G2 (fun _ k_ => q_callp (g2/- escutcheon/field.less -/) k_) ?_
    refine G20 (fun _ k_ => q_stw k_) ?_
    refine gend ?_
    refine awp_ret ?_
    exact fpc (t := 46) (a := 2) (hn := by exact (mapc_length ..).trans hl4)
  refine awp_skip ?_
  refine awp_seq ?_
  refine awp_block ?_
  refine awp_seq ?_
  refine rln ?_
  refine Mv ?_
  refine As ?_
  refine gend ?_
  refine rdln [14] [0, 0, 0, 0, 0, 0, 0, 0, 0, 0, 0, 0, 0, 0, 0, 1] [0, 0, 0, 0, 0, 0, 0, 0, 0, 0, 0, 0, 1, 0, 1, 1] ?_
  refine Dp (fun _ => q_mv (s := .v (.c _)) ⟨rfl, rfl⟩) ?_
  refine Dp (fun _ => q_mv (s := .v (.c _)) ⟨rfl, rfl⟩) ?_
  refine Dp (fun _ => q_ixp1 ⟨rfl, rfl⟩) ?_
  refine DLp ?_
  refine Dp (fun _ => q_mv (s := .v (.c _)) ⟨rfl, rfl⟩) ?_
  refine Dp (fun _ => q_fap0 ⟨rfl, rfl⟩) ?_
  refine Dp (fun _ => q_ixp1 ⟨rfl, rfl⟩) ?_
  refine DLp ?_
  refine Dp (fun _ => q_mv (s := .v (.c _)) ⟨rfl, rfl⟩) ?_
  refine Dp (fun _ => q_subx ⟨rfl, rfl⟩) ?_
  refine Dp (fun _ => q_mv (s := .t _) ⟨rfl, rfl⟩) ?_
  refine Dp (fun _ => q_ext (y := .c _) ⟨rfl, rfl⟩) ?_
  refine Dp (fun _ => q_ext (y := .c _) ⟨rfl, rfl⟩) ?_
  refine Dp (fun _ => q_ixp1 ⟨rfl, rfl⟩) ?_
  refine De20 (fun _ k_ => q_stm k_) ?_
  refine Dp (fun _ => q_as (s := .v (.c _)) ⟨rfl, rfl⟩) ?_
  refine dend ?_
  refine rln ?_
  refine G (q_addn (y := 1) ?_)
  refine Mv ?_
  refine gend ?_
  exact ⟨⟨i.1 + 1, by omega⟩, by show 4 - (i.1 + 1) < 4 - i.1; omega, sle_sub ⟨rfl, rfl, rfl, rfl, rfl, rfl, trivial⟩ rfl⟩   -- endloop 1
set_option maxHeartbeats 1600000 in
/-- (field.Elem).Mul -/
theorem mul_ (x y : List UInt64) (hx : x.length = 4) (hy : y.length = 4) : Good Try.prog 27 [.a (u64s x), .a (u64s y)] [] (sa (u64s (mulL x y))) [] := by
  have g2 := fold_ (hst (tout x y 4) 4).1 (hst (tout x y 4) 4).2 (hst_len _ 4)
  refine good_frm 109 Try.func27 rfl rfl rfl rfl rfl rfl ?_
  refine awp_seq ?_
  refine rln ?_
  refine G2 (fun _ k_ => q_boxa k_) ?_
  refine G2 (fun _ k_ => q_boxa k_) ?_
  refine G2 (fun _ k_ => q_al k_) ?_
  refine gend ?_
  refine awp_seq ?_
  refine rln ?_
  refine G2 (fun _ k_ => q_al k_) ?_
  refine gend ?_
  refine awp_seq ?_
  refine awp_seq ?_
  refine rln ?_
  refine G (q_mv (s := sc (cn 0)) ?_)
  refine gend ?_
  refine awp_block ?_
  refine awp_loop (fun i : {i : Nat // i ≤ 4} => ⟨frm 109 [(2, sc (.ptr 0 0)), (3, sc (.ptr 1 0)), (4, sc (.ptr 2 0)), (5, sc (.ptr 3 0)), (18, sc (cn i.1))], [some (u64s x), some (u64s y), some (u64s (List.replicate 4 0)), some (u64s (tout x y i.1))]⟩) (fun i => 4 - i.1) ⟨0, Nat.zero_le _⟩ (sle_sub ⟨rfl, rfl, rfl, rfl, rfl, trivial⟩ rfl) fun i => ?_   -- live: [2, 3, 5, 18]
  have hT := tout_len x y i.1
  refine awp_seq ?_
  refine rln ?_
  refine G (q_lssn (y := 4) ?_)
  refine gend ?_
  refine awp_seq ?_
  refine cnd (fun hc1 => ?_) (fun hc1 => ?_); rotate_left
  · refine awp_exit ?_
    rw [show i.1 = 4 from (by have := i.2; omega)]
    have hw := tout_len x y 4
    rw [show mulL x y = foldL (hst (tout x y 4) 4).1 (hst (tout x y 4) 4).2 from rfl]
    generalize hW : tout x y 4 = W at hw g2 ⊢
    refine awp_seq ?_
    refine rln ?_
    refine G2 (fun _ k_ => q_al k_) ?_
    refine gend ?_
    refine awp_seq ?_
    refine rln ?_
    refine G (q_as (s := sc (c64 0)) ?_)
    refine gend ?_
    refine awp_seq ?_
    refine awp_seq ?_
    refine rln ?_
    refine G (q_mv (s := sc (cn 0)) ?_)
    refine gend ?_
    refine awp_block ?_
    refine awp_loop (fun k : {i : Nat // i ≤ 4} => ⟨frm 109 [(4, sc (.ptr 2 0)), (5, sc (.ptr 3 0)), (12, sc (.ptr 4 0)), (13, sc (c64 (hst W k.1).2)), (70, sc (cn k.1))], [some (u64s x), some (u64s y), some (u64s (List.replicate 4 0)), some (u64s W), some (u64s (hst W k.1).1)]⟩) (fun k => 4 - k.1) ⟨0, Nat.zero_le _⟩ (sle_sub ⟨rfl, rfl, rfl, rfl, rfl, trivial⟩ rfl) fun k => ?_   -- live: [5, 12, 13, 70]
    have hh := hst_len W k.1
    refine awp_seq ?_
    refine rln ?_
    refine G (q_lssn (y := 4) ?_)
    refine gend ?_
    refine awp_seq ?_
    refine cnd (fun hc2 => ?_) (fun hc2 => ?_); rotate_left
    · refine awp_exit ?_
      rw [show k.1 = 4 from (by have := k.2; omega)]
      have hh := hst_len W 4
      have hl4 : (foldL (hst W 4).1 (hst W 4).2).length = 4 := lessL_len _ ((foB_len _).trans ((foA_len _ _).trans hh))
      generalize foldL (hst W 4).1 (hst W 4).2 = L at hl4 g2 ⊢
      refine awp_seq ?_
      refine rln ?_
      refine G (q_ldw ?_)
      refine Mv ?_
      refine G2 (fun _ k_ => q_callp (g2/- escutcheon/field.fold -/) k_) ?_
      refine G20 (fun _ k_ => q_stw k_) ?_
      refine gend ?_
      refine awp_ret ?_
      exact fpc (t := 46) (a := 4) (hn := by exact (mapc_length ..).trans hl4)
    refine awp_skip ?_
    refine awp_seq ?_
    refine awp_block ?_
    refine awp_seq ?_
    refine rln ?_
    refine Mv ?_
    refine As ?_
    refine gend ?_
    refine awp_seq ?_
    refine rln ?_
    refine Mv ?_
    refine G (q_addn (y := 4) ?_)
    refine G (q_ixp1 ?_)
    refine G (q_ldp ?_)
    refine G (q_callp (mul64 _ 38) ?_ (ha := (cac (et rfl) cm_int (cac rfl cm_int ca0))))
    refine G (q_mv (s := .t _) ?_)
    refine G (q_ext (y := .c _) ?_)
    refine G (q_ext (y := .c _) ?_)
    refine As ?_
    refine As ?_
    refine gend ?_
    refine awp_seq ?_
    refine rln ?_
    refine G (q_as (s := sc (c64 0)) ?_)
    refine gend ?_
    refine awp_seq ?_
    refine rln ?_
    refine Mv ?_
    refine Mv ?_
    refine G (q_ixp1 ?_)
    refine G (q_ldp ?_)
    refine G (q_addx (c := 0) ?_)
    refine G (q_mv (s := .t _) ?_)
    refine G (q_ext (y := .c _) ?_)
    refine G (q_ext (y := .c _) ?_)
    refine As ?_
    refine As ?_
    refine gend ?_
    refine awp_seq ?_
    refine rln ?_
    refine Mv ?_
    refine Mv ?_
    refine G (q_add64 ?_)
    refine As ?_
    refine gend ?_
    refine awp_seq ?_
    refine rln ?_
    refine Mv ?_
    refine Mv ?_
    refine G (q_addx (c := 0) ?_)
    refine G (q_mv (s := .t _) ?_)
    refine G (q_ext (y := .c _) ?_)
    refine G (q_ext (y := .c _) ?_)
    refine As ?_
    refine As ?_
    refine gend ?_
    refine awp_seq ?_
    refine rln ?_
    refine Mv ?_
    refine Mv ?_
    refine G (q_add64 ?_)
    refine As ?_
    refine gend ?_
    refine rln ?_
    refine Mv ?_
    refine Mv ?_
    refine Mv ?_
    refine G (q_ixp1 ?_)
    refine G20 (fun _ k_ => q_stm k_) ?_
    refine As ?_
    refine gend ?_
    refine rln ?_
    refine G (q_addn (y := 1) ?_)
    refine Mv ?_
    refine gend ?_
    exact ⟨⟨k.1 + 1, by omega⟩, by show 4 - (k.1 + 1) < 4 - k.1; omega, sle_sub ⟨rfl, rfl, rfl, rfl, rfl, trivial⟩ rfl⟩   -- endloop 2
  refine awp_skip ?_
  refine awp_seq ?_
  refine awp_block ?_
  refine awp_seq ?_
  refine rln ?_
  refine Mv ?_
  refine As ?_
  refine gend ?_
  refine awp_seq ?_
  refine rln ?_
  refine G (q_as (s := sc (c64 0)) ?_)
  refine gend ?_
  refine awp_seq ?_
  refine awp_seq ?_
  refine rln ?_
  refine G (q_mv (s := sc (cn 0)) ?_)
  refine gend ?_
  refine awp_block ?_
  refine awp_loop (fun j : {i : Nat // i ≤ 4} => ⟨frm 109 [(2, sc (.ptr 0 0)), (3, sc (.ptr 1 0)), (4, sc (.ptr 2 0)), (5, sc (.ptr 3 0)), (6, sc (cn i.1)), (18, sc (cn i.1)), (7, sc (c64 (tstep x y i.1 (tout x y i.1) j.1).2)), (21, sc (cn j.1))], [some (u64s x), some (u64s y), some (u64s (List.replicate 4 0)), some (u64s (tstep x y i.1 (tout x y i.1) j.1).1)]⟩) (fun j => 4 - j.1) ⟨0, Nat.zero_le _⟩ (sle_sub ⟨rfl, rfl, rfl, rfl, rfl, rfl, rfl, rfl, trivial⟩ rfl) fun j => ?_   -- live: [2, 3, 5, 6, 7, 21]
  have ht := (tstep_len x y i.1 (tout x y i.1) j.1).trans hT
  refine awp_seq ?_
  refine rln ?_
  refine G (q_lssn (y := 4) ?_)
  refine gend ?_
  refine awp_seq ?_
  refine cnd (fun hc3 => ?_) (fun hc3 => ?_); rotate_left
  · refine awp_exit ?_
    rw [show j.1 = 4 from (by have := j.2; omega)]
    have ht := (tstep_len x y i.1 (tout x y i.1) 4).trans hT
    refine rln ?_
    refine Mv ?_
    refine G (q_addn (y := 4) ?_)
    refine Mv ?_
    refine G (q_ixp1 ?_)
    refine G20 (fun _ k_ => q_stm k_) ?_
    refine gend ?_
    refine rln ?_
    refine G (q_addn (y := 1) ?_)
    refine Mv ?_
    refine gend ?_
    exact ⟨⟨i.1 + 1, by omega⟩, by show 4 - (i.1 + 1) < 4 - i.1; omega, sle_sub ⟨rfl, rfl, rfl, rfl, rfl, trivial⟩ rfl⟩   -- endloop 1
  refine awp_skip ?_
  refine awp_seq ?_
  refine awp_block ?_
  refine awp_seq ?_
  refine rln ?_
  refine Mv ?_
  refine As ?_
  refine gend ?_
  refine awp_seq ?_
  refine rdln [] [] [] ?_
  refine Dp (fun _ => q_mv (s := .v (.c _)) ⟨rfl, rfl⟩) ?_
  refine Dp (fun _ => q_fap0 ⟨rfl, rfl⟩) ?_
  refine Dp (fun _ => q_ixp1 ⟨rfl, rfl⟩) ?_
  refine DLp ?_
  refine Dp (fun _ => q_mv (s := .v (.c _)) ⟨rfl, rfl⟩) ?_
  refine Dp (fun _ => q_fap0 ⟨rfl, rfl⟩) ?_
  refine Dp (fun _ => q_ixp1 ⟨rfl, rfl⟩) ?_
  refine DLp ?_
  refine Dp (fun _ => q_callp (mul64 _ _/- math/bits.Mul64 -/) ⟨rfl, rfl⟩) ?_
  refine Dp (fun _ => q_mv (s := .t _) ⟨rfl, rfl⟩) ?_
  refine Dp (fun _ => q_ext (y := .c _) ⟨rfl, rfl⟩) ?_
  refine Dp (fun _ => q_ext (y := .c _) ⟨rfl, rfl⟩) ?_
  refine Dp (fun _ => q_as (s := .v (.c _)) ⟨rfl, rfl⟩) ?_
  refine Dp (fun _ => q_as (s := .v (.c _)) ⟨rfl, rfl⟩) ?_
  refine dend ?_
  refine awp_seq ?_
  refine rln ?_
  refine G (q_as (s := sc (c64 0)) ?_)
  refine gend ?_
  refine awp_seq ?_
  refine rln ?_
  refine Mv ?_
  refine Mv ?_
  refine Mv ?_
  refine G (q_addn ?_)
  refine G (q_ixp1 ?_)
  refine G (q_ldp ?_)
  refine G (q_addx (c := 0) ?_)
  refine G (q_mv (s := .t _) ?_)
  refine G (q_ext (y := .c _) ?_)
  refine G (q_ext (y := .c _) ?_)
  refine As ?_
  refine As ?_
  refine gend ?_
  refine awp_seq ?_
  refine rln ?_
  refine Mv ?_
  refine Mv ?_
  refine G (q_add64 ?_)
  refine As ?_
  refine gend ?_
  refine awp_seq ?_
  refine rln ?_
  refine Mv ?_
  refine Mv ?_
  refine G (q_addx (c := 0) ?_)
  refine G (q_mv (s := .t _) ?_)
  refine G (q_ext (y := .c _) ?_)
  refine G (q_ext (y := .c _) ?_)
  refine As ?_
  refine As ?_
  refine gend ?_
  refine awp_seq ?_
  refine rln ?_
  refine Mv ?_
  refine Mv ?_
  refine G (q_add64 ?_)
  refine As ?_
  refine gend ?_
  refine rln ?_
  refine Mv ?_
  refine Mv ?_
  refine G (q_addn ?_)
  refine Mv ?_
  refine Mv ?_
  refine G (q_ixp1 ?_)
  refine G20 (fun _ k_ => q_stm k_) ?_
  refine As ?_
  refine gend ?_
  refine rln ?_
  refine G (q_addn (y := 1) ?_)
  refine Mv ?_
  refine gend ?_
  exact ⟨⟨j.1 + 1, by omega⟩, by show 4 - (j.1 + 1) < 4 - j.1; omega, sle_sub ⟨rfl, rfl, rfl, rfl, rfl, rfl, rfl, rfl, trivial⟩ rfl⟩   -- endloop 3
end Go.Proofs.Ytlidpcjinillfaa.Fd

/- Numbers: primes, Fermat's little theorem, and that 2^255 - 19 is prime. -/
namespace Go.Nt

/-- A prime number. -/
def Pr (p : Nat) : Prop := 2 ≤ p ∧ ∀ a, a ∣ p → a = 1 ∨ a = p

theorem Pr.pos {p : Nat} (h : Pr p) : 0 < p := by have := h.1; omega
theorem Pr.coprime {p a : Nat} (h : Pr p) (ha : ¬ p ∣ a) : Nat.gcd p a = 1 := by
  rcases h.2 _ (Nat.gcd_dvd_left p a) with e | e
  · exact e
  · exact absurd (e ▸ Nat.gcd_dvd_right p a) ha
theorem Pr.mul {p a b : Nat} (h : Pr p) (hd : p ∣ a * b) : p ∣ a ∨ p ∣ b := by
  by_cases ha : p ∣ a
  · exact .inl ha
  · exact .inr (Nat.Coprime.dvd_of_dvd_mul_left (h.coprime ha) hd)

/-- Two numbers leave the same rest. -/
def Eqm (n a b : Nat) : Prop := a % n = b % n
theorem Eqm.refl (n a : Nat) : Eqm n a a := rfl
theorem Eqm.symm {n a b : Nat} (h : Eqm n a b) : Eqm n b a := Eq.symm h
theorem Eqm.trans {n a b c : Nat} (h : Eqm n a b) (k : Eqm n b c) : Eqm n a c := Eq.trans h k
theorem Eqm.mul {n a b c d : Nat} (h : Eqm n a b) (k : Eqm n c d) : Eqm n (a * c) (b * d) := by
  unfold Eqm at *; rw [Nat.mul_mod, h, k, ← Nat.mul_mod]
theorem Eqm.add {n a b c d : Nat} (h : Eqm n a b) (k : Eqm n c d) : Eqm n (a + c) (b + d) := by
  unfold Eqm at *; rw [Nat.add_mod, h, k, ← Nat.add_mod]
theorem Eqm.pow {n a b : Nat} (h : Eqm n a b) (e : Nat) : Eqm n (a ^ e) (b ^ e) := by
  unfold Eqm at *; rw [Nat.pow_mod, h, ← Nat.pow_mod]
theorem eqm_mod (n a : Nat) : Eqm n (a % n) a := Nat.mod_mod _ _
theorem eqm_of_dvd {n m a b : Nat} (hd : m ∣ n) (h : Eqm n a b) : Eqm m a b := by
  unfold Eqm at *
  rw [← Nat.mod_mod_of_dvd a hd, h, Nat.mod_mod_of_dvd b hd]
theorem eqm_iff {n a b : Nat} (h : a ≤ b) : Eqm n a b ↔ n ∣ b - a := by
  constructor
  · intro e
    exact ⟨b / n - a / n, by
      unfold Eqm at e
      have h1 := Nat.div_add_mod a n
      have h2 := Nat.div_add_mod b n
      rw [Nat.mul_sub]; omega⟩
  · rintro ⟨k, e⟩
    have : b = a + n * k := by omega
    unfold Eqm; rw [this, Nat.add_mul_mod_self_left]
/-- What is coprime can be left out of a product. -/
theorem Eqm.cancel {n c a b : Nat} (hc : Nat.gcd n c = 1) (h : Eqm n (c * a) (c * b)) : Eqm n a b := by
  rcases Nat.le_total a b with hab | hab
  · have h1 := (eqm_iff (Nat.mul_le_mul_left c hab)).1 h
    rw [← Nat.mul_sub] at h1
    exact (eqm_iff hab).2 (Nat.Coprime.dvd_of_dvd_mul_left hc h1)
  · have h1 := (eqm_iff (Nat.mul_le_mul_left c hab)).1 h.symm
    rw [← Nat.mul_sub] at h1
    exact ((eqm_iff hab).2 (Nat.Coprime.dvd_of_dvd_mul_left hc h1)).symm

/-! Fermat's little theorem. -/
/-- A list without doubles whose members all stand in another one that is not longer: the same members. -/
theorem perm_of_sub : ∀ {l m : List Nat}, l.Nodup → (∀ x ∈ l, x ∈ m) → m.length ≤ l.length → l.Perm m
  | [], m, _, _, hl => by
    have : m = [] := List.length_eq_zero_iff.1 (by simpa using hl)
    subst this; exact List.Perm.refl _
  | x :: l, m, hn, hs, hl => by
    have hx := hs x (by simp)
    have hp := List.perm_cons_erase hx
    have hn' := List.nodup_cons.1 hn
    refine (List.Perm.cons x (perm_of_sub hn'.2 (fun y hy => ?_) ?_)).trans hp.symm
    · have hne : y ≠ x := by rintro rfl; exact hn'.1 hy
      exact (List.mem_erase_of_ne hne).2 (hs y (by simp [hy]))
    · have := hp.length_eq
      simp at this hl; omega
def prodm (l : List Nat) : Nat := l.prod
theorem prod_map_mul (p a : Nat) : ∀ l : List Nat, Eqm p (l.map fun i => a * i % p).prod (a ^ l.length * l.prod)
  | [] => by simp [Eqm]
  | x :: l => by
    simp only [List.map_cons, List.prod_cons, List.length_cons]
    refine (Eqm.mul (eqm_mod p (a * x)) (prod_map_mul p a l)).trans ?_
    rw [Nat.pow_succ, show a ^ l.length * a * (x * l.prod) = a * x * (a ^ l.length * l.prod) by
      simp only [Nat.mul_comm, Nat.mul_left_comm, Nat.mul_assoc]]
    exact Eqm.refl _ _
theorem prod_coprime {p : Nat} (h : Pr p) : ∀ l : List Nat, (∀ x ∈ l, ¬ p ∣ x) → ¬ p ∣ l.prod
  | [], _ => by
    intro hd
    have := Nat.le_of_dvd (by simp) hd
    have := h.1
    simp at *; omega
  | x :: l, hl => by
    intro hd
    rw [List.prod_cons] at hd
    rcases h.mul hd with k | k
    · exact hl x (by simp) k
    · exact prod_coprime h l (fun y hy => hl y (by simp [hy])) k
theorem fermat {p a : Nat} (h : Pr p) (ha : ¬ p ∣ a) : a ^ (p - 1) % p = 1 := by
  have h2 := h.1
  have hL : ∀ x, x ∈ (List.range' 1 (p - 1)) ↔ 1 ≤ x ∧ x < p := by
    intro x; rw [List.mem_range'_1]; omega
  have hnd : ((List.range' 1 (p - 1)).map fun i => a * i % p).Nodup := by
    rw [List.nodup_iff_pairwise_ne, List.pairwise_map]
    refine List.Pairwise.imp_of_mem ?_ (List.nodup_iff_pairwise_ne.1 (List.nodup_range' (s := 1) (n := p - 1) (step := 1)))
    intro x y hx hy hne he
    have hx' := (hL x).1 hx
    have hy' := (hL y).1 hy
    have := Eqm.cancel (h.coprime ha) (show Eqm p (a * x) (a * y) from he)
    unfold Eqm at this
    rw [Nat.mod_eq_of_lt hx'.2, Nat.mod_eq_of_lt hy'.2] at this
    exact hne this
  have hp := perm_of_sub (m := List.range' 1 (p - 1)) hnd (fun x hx => by
    obtain ⟨i, hi, rfl⟩ := List.mem_map.1 hx
    have hi' := (hL i).1 hi
    refine (hL _).2 ⟨?_, Nat.mod_lt _ h.pos⟩
    rcases Nat.eq_zero_or_pos (a * i % p) with e | e
    · exfalso
      rcases h.mul (Nat.dvd_of_mod_eq_zero e) with k | k
      · exact ha k
      · exact absurd (Nat.le_of_dvd (by omega) k) (by omega)
    · exact e) (by simp)
  have h3 := prod_map_mul p a (List.range' 1 (p - 1))
  rw [hp.prod_nat] at h3
  have h4 := prod_coprime h (List.range' 1 (p - 1)) (fun x hx hd => by
    have := (hL x).1 hx
    exact absurd (Nat.le_of_dvd (by omega) hd) (by omega))
  have h5 := Eqm.cancel (h.coprime h4) (a := 1) (b := a ^ (p - 1)) (by
    rw [Nat.mul_one, Nat.mul_comm]; simpa using h3)
  have h6 : 1 % p = 1 := Nat.mod_eq_of_lt (by omega)
  exact (show a ^ (p - 1) % p = 1 % p from h5.symm).trans h6

/-! How a number is shown to be prime. -/
theorem pow_mod_gcd {p b : Nat} : ∀ (x y : Nat), Eqm p (b ^ x) 1 → Eqm p (b ^ y) 1 → Eqm p (b ^ Nat.gcd x y) 1 := by
  intro x y
  induction x, y using Nat.gcd.induction with
  | H0 y => intro _ h; simpa using h
  | H1 x y _ ih =>
    intro hx hy
    rw [Nat.gcd_rec]
    refine ih ?_ hx
    have e : b ^ y = b ^ (y % x) * (b ^ x) ^ (y / x) := by
      rw [← Nat.pow_mul, ← Nat.pow_add, Nat.mod_add_div]
    have h1 : Eqm p ((b ^ x) ^ (y / x)) 1 := by simpa using hx.pow (y / x)
    have h2 : Eqm p (b ^ y) (b ^ (y % x)) := by rw [e]; simpa using (Eqm.refl p (b ^ (y % x))).mul h1
    exact h2.symm.trans hy
/-- A prime factor of a number comes to a multiple of each great prime, and one. -/
theorem pk {n q m a p : Nat} (hq : Pr q) (hn : n = q * m + 1) (h1 : Eqm n (a ^ (q * m)) 1) (h2 : Nat.gcd (a ^ m % n + (n - 1)) n = 1) (hp : Pr p) (hd : p ∣ n) : q ∣ p - 1 := by
  have hn0 : 1 ≤ n := by omega
  by_cases hqp : q ∣ p - 1
  · exact hqp
  exfalso
  have hpa : ¬ p ∣ a := by
    intro ha
    have := eqm_of_dvd hd h1
    rcases Nat.eq_zero_or_pos (q * m) with e | e
    · have hle := Nat.le_of_dvd (by omega) hd
      have := hp.1
      omega
    · have e2 : p ∣ a ^ (q * m) := Nat.dvd_trans ha (by obtain ⟨k, hk⟩ : ∃ k, q * m = k + 1 := ⟨q * m - 1, by omega⟩; rw [hk, Nat.pow_succ]; exact Nat.dvd_mul_left _ _)
      unfold Eqm at this
      rw [Nat.mod_eq_zero_of_dvd e2, Nat.mod_eq_of_lt (by have := hp.1; omega)] at this
      omega
  have hb1 : Eqm p ((a ^ m) ^ q) 1 := by rw [← Nat.pow_mul, Nat.mul_comm]; exact eqm_of_dvd hd h1
  have hb2 : Eqm p ((a ^ m) ^ (p - 1)) 1 := by
    have := fermat hp (a := a) hpa
    rw [← Nat.pow_mul, Nat.mul_comm, Nat.pow_mul]
    have e : Eqm p (a ^ (p - 1)) 1 := by unfold Eqm; rw [this, Nat.mod_eq_of_lt (by have := hp.1; omega)]
    simpa using e.pow m
  have hb := pow_mod_gcd q (p - 1) hb1 hb2
  rw [hq.coprime hqp, Nat.pow_one] at hb
  have h3 : p ∣ a ^ m % n + (n - 1) := by
    refine Nat.dvd_of_mod_eq_zero ?_
    have e : Eqm p (a ^ m % n + (n - 1)) (1 + (n - 1)) := ((eqm_of_dvd hd (eqm_mod n _)).trans hb).add (Eqm.refl _ _)
    have : (a ^ m % n + (n - 1)) % p = (1 + (n - 1)) % p := e
    rw [this, show 1 + (n - 1) = n by omega, Nat.mod_eq_zero_of_dvd hd]
  have := Nat.dvd_gcd h3 hd
  rw [h2] at this
  have := Nat.le_of_dvd (by omega) this
  have := hp.1
  omega
/-- A number has a prime factor; one that is not prime has one whose square is not greater. -/
theorem has_prime : ∀ n, 2 ≤ n → ∃ p, Pr p ∧ p ∣ n := by
  intro n
  induction n using Nat.strongRecOn with
  | ind n ih =>
    intro hn
    by_cases h : Pr n
    · exact ⟨n, h, Nat.dvd_refl _⟩
    · have : ∃ a, a ∣ n ∧ ¬ (a = 1 ∨ a = n) := by
        refine Classical.byContradiction fun hc => h ⟨hn, fun a ha => Classical.byContradiction fun hb => hc ⟨a, ha, hb⟩⟩
      obtain ⟨a, ha, hb⟩ := this
      have hle := Nat.le_of_dvd (by omega) ha
      have h0 : a ≠ 0 := by rintro rfl; rw [Nat.zero_dvd] at ha; omega
      obtain ⟨p, hp, hd⟩ := ih a (by omega) (by omega)
      exact ⟨p, hp, Nat.dvd_trans hd ha⟩
theorem prime_of {n : Nat} (hn : 2 ≤ n) (h : ∀ p, Pr p → p ∣ n → n < p * p) : Pr n := by
  refine ⟨hn, fun a ha => ?_⟩
  obtain ⟨b, rfl⟩ := ha
  have ha0 : a ≠ 0 := by rintro rfl; omega
  have hb0 : b ≠ 0 := by rintro rfl; omega
  by_cases ha1 : a = 1
  · exact .inl ha1
  by_cases hb1 : b = 1
  · exact .inr (by rw [hb1, Nat.mul_one])
  exfalso
  obtain ⟨p, hp, hpa⟩ := has_prime a (by omega)
  obtain ⟨q, hq, hqb⟩ := has_prime b (by omega)
  have h1 := h p hp (Nat.dvd_trans hpa (Nat.dvd_mul_right _ _))
  have h2 := h q hq (Nat.dvd_trans hqb (Nat.dvd_mul_left _ _))
  have h3 := Nat.le_of_dvd (by omega) hpa
  have h4 := Nat.le_of_dvd (by omega) hqb
  have h5 : p * q ≤ a * b := Nat.mul_le_mul h3 h4
  rcases Nat.le_total p q with e | e
  · have := Nat.mul_le_mul_left p e; omega
  · have := Nat.mul_le_mul_right q e; omega
/-- Small primes, by trying. -/
def tr (n : Nat) : Nat → Bool
  | 0 => true
  | k + 1 => (k + 1 < 2 || n % (k + 1) != 0) && tr n k
theorem tr_spec {n : Nat} : ∀ k, tr n k = true → ∀ a, 2 ≤ a → a ≤ k → ¬ a ∣ n
  | 0, _, a, h1, h2 => by omega
  | k + 1, h, a, h1, h2 => by
    simp only [tr, Bool.and_eq_true, Bool.or_eq_true, decide_eq_true_eq, bne_iff_ne] at h
    rcases Nat.lt_or_ge a (k + 1) with h3 | h3
    · exact tr_spec k h.2 a h1 (by omega)
    · have : a = k + 1 := by omega
      subst this
      intro hd
      rcases h.1 with h4 | h4
      · omega
      · exact h4 (Nat.mod_eq_zero_of_dvd hd)
theorem small {n : Nat} (k : Nat) (hn : 2 ≤ n) (hk : n < (k + 1) * (k + 1)) (h : tr n k = true) : Pr n := by
  refine prime_of hn fun p hp hd => ?_
  rcases Nat.lt_or_ge k p with h1 | h1
  · exact Nat.lt_of_lt_of_le hk (Nat.mul_le_mul h1 h1)
  · exact absurd hd (tr_spec k h p hp.1 h1)
/-- A power's rest, quickly. -/
def pwm (n a : Nat) : Nat → Nat → Nat
  | 0, _ => 1
  | f + 1, e => if e = 0 then 1 else if e % 2 = 1 then a * pwm n (a * a % n) f (e / 2) % n else pwm n (a * a % n) f (e / 2)
theorem pwm_spec (n : Nat) : ∀ (f a e : Nat), e < 2 ^ f → Eqm n (pwm n a f e) (a ^ e)
  | 0, a, e, h => by
    have : e = 0 := by simp at h; exact h
    subst this; exact Eqm.refl _ _
  | f + 1, a, e, h => by
    unfold pwm
    split
    · rename_i h0; subst h0; exact Eqm.refl _ _
    · have ih := pwm_spec n f (a * a % n) (e / 2) (by rw [Nat.pow_succ] at h; omega)
      have h2 : Eqm n ((a * a % n) ^ (e / 2)) (a ^ (2 * (e / 2))) := by
        rw [Nat.pow_mul, Nat.pow_two]; exact (eqm_mod n _).pow _
      split
      · rename_i h1
        refine (eqm_mod n _).trans ?_
        have e1 : e = 2 * (e / 2) + 1 := by omega
        have : a ^ e = a * a ^ (2 * (e / 2)) := by
          conv => lhs; rw [e1]
          rw [Nat.pow_succ, Nat.mul_comm]
        rw [this]
        exact (Eqm.refl n a).mul (ih.trans h2)
      · rename_i h1
        have e1 : e = 2 * (e / 2) := by omega
        rw [show a ^ e = a ^ (2 * (e / 2)) by rw [← e1]]
        exact ih.trans h2
/-- What one prime's witness shows. -/
def wit (n q m a : Nat) : Bool := n == q * m + 1 && pwm n a 256 (q * m) % n == 1 && Nat.gcd (pwm n a 256 m % n + (n - 1)) n == 1 && q * m < 2 ^ 256 && 1 < n
theorem wit_spec {n q m a : Nat} (hq : Pr q) (h : wit n q m a = true) : ∀ p, Pr p → p ∣ n → q ∣ p - 1 := by
  intro p hp hd
  simp only [wit, Bool.and_eq_true, beq_iff_eq, decide_eq_true_eq] at h
  obtain ⟨⟨⟨⟨h1, h2⟩, h3⟩, h4⟩, h5⟩ := h
  have hm : m ≤ q * m := Nat.le_mul_of_pos_left _ hq.pos
  refine pk (a := a) hq h1 ?_ ?_ hp hd
  · refine (pwm_spec n 256 a (q * m) (by omega)).symm.trans ?_
    unfold Eqm; rw [h2, Nat.mod_eq_of_lt h5]
  · rw [← show pwm n a 256 m % n = a ^ m % n from pwm_spec n 256 a m (by omega)]; exact h3
theorem pk1 {n q m : Nat} (a : Nat) (hq : Pr q) (h : wit n q m a = true) (hs : decide (n < q * q) = true) (h2 : decide (2 ≤ n) = true) : Pr n := by
  refine prime_of (of_decide_eq_true h2) fun p hp hd => ?_
  have h1 := Nat.le_of_dvd (by have := hp.1; omega) (wit_spec hq h p hp hd)
  have h3 : q ≤ p := by omega
  have := Nat.mul_le_mul h3 h3
  have := of_decide_eq_true hs
  omega
theorem pk2 {n q m q' m' : Nat} (a a' : Nat) (hq : Pr q) (hq' : Pr q') (h : wit n q m a = true) (h' : wit n q' m' a' = true) (hg : (Nat.gcd q q' == 1) = true) (hs : decide (n < q * q' * (q * q')) = true) (h2 : decide (2 ≤ n) = true) : Pr n := by
  refine prime_of (of_decide_eq_true h2) fun p hp hd => ?_
  have h0 : q * q' ∣ p - 1 := Nat.Coprime.mul_dvd_of_dvd_of_dvd (by simpa using hg) (wit_spec hq h p hp hd) (wit_spec hq' h' p hp hd)
  have h1 := Nat.le_of_dvd (by have := hp.1; omega) h0
  have h3 : q * q' ≤ p := by omega
  have := Nat.mul_le_mul h3 h3
  have := of_decide_eq_true hs
  omega

theorem pr_a : Pr 569003 := small 800 (by decide) (by decide) (by decide +kernel)
theorem pr_b : Pr 2773320623 := pk1 (q := 569003) (m := 4874) 2 pr_a (by decide +kernel) (by decide +kernel) (by decide +kernel)
theorem pr_c : Pr 72106336199 := pk1 (q := 2773320623) (m := 26) 2 pr_b (by decide +kernel) (by decide +kernel) (by decide +kernel)
theorem pr_d : Pr 8574133 := small 3000 (by decide) (by decide) (by decide +kernel)
theorem pr_e : Pr 127 := small 12 (by decide) (by decide) (by decide +kernel)
theorem pr_f : Pr 1919519569386763 := pk2 (q := 8574133) (m := 223873314) (q' := 127) (m' := 15114327318006) 2 2 pr_d pr_e (by decide +kernel) (by decide +kernel) (by decide +kernel) (by decide +kernel) (by decide +kernel)
theorem pr_g : Pr 75445702479781427272750846543864801 := pk2 (q := 1919519569386763) (m := 39304471641247389600) (q' := 72106336199) (m' := 1046311689884858398375200) 2 2 pr_f pr_c (by decide +kernel) (by decide +kernel) (by decide +kernel) (by decide +kernel) (by decide +kernel)
theorem pr_h : Pr 430751 := small 700 (by decide) (by decide) (by decide +kernel)
theorem pr_i : Pr 4153 := small 70 (by decide) (by decide) (by decide +kernel)
theorem pr_j : Pr 31757755568855353 := pk2 (q := 430751) (m := 73726481352) (q' := 4153) (m' := 7646943310584) 2 2 pr_h pr_i (by decide +kernel) (by decide +kernel) (by decide +kernel) (by decide +kernel) (by decide +kernel)
theorem pr_k : Pr 74058212732561358302231226437062788676166966415465897661863160754340907 := pk2 (q := 75445702479781427272750846543864801) (m := 981609426360740691344999861639072106) (q' := 31757755568855353) (m' := 2331972502653487852620185443007392165117953542933313402) 2 2 pr_g pr_j (by decide +kernel) (by decide +kernel) (by decide +kernel) (by decide +kernel) (by decide +kernel)
/-- The field's number of elements. -/
def P : Nat := 57896044618658097711785492504343953926634992332820282019728792003956564819949
theorem pr_p : Pr P := pk1 (q := 74058212732561358302231226437062788676166966415465897661863160754340907) (m := 781764) 2 pr_k (by decide +kernel) (by decide +kernel) (by decide +kernel)
end Go.Nt

/- The field of 2^255 - 19 elements. -/
namespace Go.Nt

instance : NeZero P := ⟨by decide⟩
abbrev F := Fin P
theorem P_pos : 0 < P := by decide
/-- A power. -/
def pw (x : F) : Nat → F
  | 0 => 1
  | n + 1 => pw x n * x
theorem pw_val (x : F) : ∀ n, (pw x n).val = x.val ^ n % P
  | 0 => by show 1 % P = _; rw [Nat.pow_zero]
  | n + 1 => by rw [pw, Fin.val_mul, pw_val x n, Nat.pow_succ, Nat.mod_mul_mod]
theorem pw_add (x : F) (a : Nat) : ∀ b, pw x (a + b) = pw x a * pw x b
  | 0 => by simp only [pw, Nat.add_zero]; grind
  | b + 1 => by rw [← Nat.add_assoc, pw, pw_add x a b, pw]; grind
theorem pw_mul (x : F) (a : Nat) : ∀ b, pw x (a * b) = pw (pw x a) b
  | 0 => rfl
  | b + 1 => by rw [Nat.mul_succ, pw_add, pw_mul x a b, pw]
theorem mul_pw (x y : F) : ∀ n, pw (x * y) n = pw x n * pw y n
  | 0 => by simp only [pw]; grind
  | n + 1 => by rw [pw, pw, pw, mul_pw x y n]; grind
theorem one_pw : ∀ n, pw 1 n = 1
  | 0 => rfl
  | n + 1 => by rw [pw, one_pw n]; grind
theorem zero_pw : ∀ n, 0 < n → pw 0 n = 0
  | 0, h => by omega
  | n + 1, _ => by rw [pw]; grind
theorem pw_two (x : F) : pw x 2 = x * x := by simp only [pw]; grind
theorem ne_val {x : F} (h : x ≠ 0) : ¬ P ∣ x.val := by
  intro hd
  apply h
  have := Nat.eq_zero_of_dvd_of_lt hd x.isLt
  exact Fin.ext this
theorem fer {x : F} (h : x ≠ 0) : pw x (P - 1) = 1 := by
  apply Fin.ext
  rw [pw_val, fermat pr_p (ne_val h)]
  rfl
theorem no_zero {a b : F} (h : a * b = 0) : a = 0 ∨ b = 0 := by
  have h1 : a.val * b.val % P = 0 := by rw [← Fin.val_mul, h]; rfl
  rcases pr_p.mul (Nat.dvd_of_mod_eq_zero h1) with k | k
  · exact .inl (Fin.ext (Nat.eq_zero_of_dvd_of_lt k a.isLt))
  · exact .inr (Fin.ext (Nat.eq_zero_of_dvd_of_lt k b.isLt))
theorem mul_ne {a b : F} (ha : a ≠ 0) (hb : b ≠ 0) : a * b ≠ 0 := fun h => (no_zero h).elim ha hb
/-- The inverse, 0 of 0. -/
def inv (x : F) : F := pw x (P - 2)
theorem inv_zero : inv 0 = 0 := zero_pw _ (by decide)
theorem mul_inv {x : F} (h : x ≠ 0) : x * inv x = 1 := by
  have := fer h
  rw [show P - 1 = (P - 2) + 1 from rfl, pw] at this
  unfold inv; grind
theorem inv_mul (x y : F) : inv (x * y) = inv x * inv y := mul_pw x y _
/-- What 1 is the square of. -/
theorem sq_one {x : F} (h : x * x = 1) : x = 1 ∨ x = -1 := by
  have : (x - 1) * (x + 1) = 0 := by grind
  rcases no_zero this with e | e
  · left; grind
  · right; grind
theorem sq_eq {x y : F} (h : x * x = y * y) : x = y ∨ x = -y := by
  have : (x - y) * (x + y) = 0 := by grind
  rcases no_zero this with e | e
  · left; grind
  · right; grind
/-- Half of all: Euler's sign. -/
def eul (x : F) : F := pw x ((P - 1) / 2)
theorem eul_sq {x : F} (h : x ≠ 0) : eul x = 1 ∨ eul x = -1 := by
  apply sq_one
  have := fer h
  rw [show P - 1 = (P - 1) / 2 * 2 from rfl, pw_mul, pw_two] at this
  exact this
theorem eul_mul (x y : F) : eul (x * y) = eul x * eul y := mul_pw x y _
theorem eul_of_sq {x : F} (h : x ≠ 0) : eul (x * x) = 1 := by
  rw [eul_mul]
  rcases eul_sq h with e | e <;> rw [e] <;> grind
theorem two_ne : (2 : F) ≠ 0 := by decide
theorem one_ne : (1 : F) ≠ 0 := by decide
/-- A power by its rest. -/
theorem pw_num {x : F} {n : Nat} {r : Nat} (hn : n < 2 ^ 256) (h : (pwm P x.val 256 n % P == r % P) = true) : (pw x n).val = r % P := by
  rw [pw_val, ← show pwm P x.val 256 n % P = x.val ^ n % P from pwm_spec P 256 x.val n hn]
  simpa using h
theorem eul_two : eul 2 = -1 := by
  apply Fin.ext
  refine (pw_num (x := 2) (r := P - 1) (by decide) (by decide +kernel)).trans ?_
  decide +kernel
/-- A root of -1. -/
def im : F := pw 2 ((P - 1) / 4)
theorem im_sq : im * im = -1 := by
  have := eul_two
  unfold eul at this
  rw [show (P - 1) / 2 = (P - 1) / 4 * 2 from by decide +kernel, pw_mul, pw_two] at this
  exact this
/-- The candidate for a root. -/
def cand (q : F) : F := pw q ((P + 3) / 8)
theorem cand_sq (q : F) : cand q * cand q = q * pw q ((P - 1) / 4) := by
  unfold cand
  rw [← pw_two, ← pw_mul, show (P + 3) / 8 * 2 = (P - 1) / 4 + 1 from by decide +kernel, pw]
  grind
theorem quart (q : F) : pw q ((P - 1) / 4) * pw q ((P - 1) / 4) = eul q := by
  unfold eul
  rw [show (P - 1) / 2 = (P - 1) / 4 * 2 from by decide +kernel, pw_mul, pw_two]
/-- A number with Euler's sign 1 has a root. -/
theorem root_of {q : F} (h : eul q = 1) : cand q * cand q = q ∨ (cand q * im) * (cand q * im) = q := by
  have h1 := quart q
  rw [h] at h1
  have h2 := cand_sq q
  have h3 := im_sq
  rcases sq_one h1 with e | e
  · left; rw [h2, e]; grind
  · right; rw [e] at h2; grind
theorem one_ne_neg : (1 : F) ≠ -1 := by decide +kernel
end Go.Nt

/- What functions of the program do, walked over the abstract machine. -/
namespace Go.Proofs.Ytlidpcjinillfaa.Fd
open Go Go.Abs Go.Proofs

open Go.Nt

theorem list4 {l : List UInt64} (h : l.length = 4) : ∃ a b c d, l = [a, b, c, d] := by
  match l, h with
  | [a, b, c, d], _ => exact ⟨a, b, c, d, rfl⟩
theorem V4_lt (l : List UInt64) : V4 l < 115792089237316195423570985008687907853269984665640564039457584007913129639936 := by
  have h0 := (l.getD 0 0).toNat_lt
  have h1 := (l.getD 1 0).toNat_lt
  have h2 := (l.getD 2 0).toNat_lt
  have h3 := (l.getD 3 0).toNat_lt
  unfold V4
  omega
theorem V4_mk (a b c d : UInt64) : V4 [a, b, c, d] = a.toNat + 18446744073709551616 * b.toNat + 340282366920938463463374607431768211456 * c.toNat + 6277101735386680763835789423207666416102355444464034512896 * d.toNat := rfl
theorem V4_inj {l m : List UInt64} (hl : l.length = 4) (hm : m.length = 4) (h : V4 l = V4 m) : l = m := by
  obtain ⟨a, b, c, d, rfl⟩ := list4 hl
  obtain ⟨e, f, g, k, rfl⟩ := list4 hm
  rw [V4_mk, V4_mk] at h
  have := a.toNat_lt
  have := b.toNat_lt
  have := c.toNat_lt
  have := d.toNat_lt
  have := e.toNat_lt
  have := f.toNat_lt
  have := g.toNat_lt
  have := k.toNat_lt
  have h1 : a = e := UInt64.toNat_inj.1 (by omega)
  have h2 : b = f := UInt64.toNat_inj.1 (by omega)
  have h3 : c = g := UInt64.toNat_inj.1 (by omega)
  have h4 : d = k := UInt64.toNat_inj.1 (by omega)
  rw [h1, h2, h3, h4]
/-- Words of a number. -/
def w4 (n : Nat) : List UInt64 := [UInt64.ofNat n, UInt64.ofNat (n / 18446744073709551616), UInt64.ofNat (n / 340282366920938463463374607431768211456), UInt64.ofNat (n / 6277101735386680763835789423207666416102355444464034512896)]
theorem V4_w4 (n : Nat) (h : n < 115792089237316195423570985008687907853269984665640564039457584007913129639936) : V4 (w4 n) = n := by
  rw [w4, V4_mk]
  simp only [UInt64.toNat_ofNat']
  omega
theorem P_val : P = 57896044618658097711785492504343953926634992332820282019728792003956564819949 := rfl
/-- The words of an element. -/
abbrev el (x : F) : List UInt64 := w4 x.val
theorem el_len (x : F) : (el x).length = 4 := rfl
theorem F_lt (x : F) : x.val < 57896044618658097711785492504343953926634992332820282019728792003956564819949 := x.isLt
theorem V4_el (x : F) : V4 (el x) = x.val := V4_w4 _ (by have := F_lt x; omega)
theorem el_of {l : List UInt64} {x : F} (hl : l.length = 4) (h : V4 l = x.val) : l = el x := V4_inj hl rfl (by rw [V4_el, h])
theorem el_inj {x y : F} (h : el x = el y) : x = y := Fin.ext (by rw [← V4_el x, ← V4_el y, h])
theorem z64 : UInt64.toNat 0 = 0 := rfl
/-- p is taken away, where there is as much. -/
theorem lessL_V (w : List UInt64) (h : w.length = 4) (hb : V4 w < 2 * 57896044618658097711785492504343953926634992332820282019728792003956564819949) : V4 (lessL w) = V4 w % P := by
  obtain ⟨a, b, c, d, rfl⟩ := list4 h
  have b0 := subb_eq (x := a) (y := 18446744073709551597) (c := 0) (by decide)
  have b1 := subb_eq (x := b) (y := 18446744073709551615) (c := subb a 18446744073709551597 0) (subb_le ..)
  have b2 := subb_eq (x := c) (y := 18446744073709551615) (c := subb b 18446744073709551615 (subb a 18446744073709551597 0)) (subb_le ..)
  have b3 := subb_eq (x := d) (y := 9223372036854775807) (c := subb c 18446744073709551615 (subb b 18446744073709551615 (subb a 18446744073709551597 0))) (subb_le ..)
  have l3 := subb_le d 9223372036854775807 (subb c 18446744073709551615 (subb b 18446744073709551615 (subb a 18446744073709551597 0)))
  have e1 : (lsb [a, b, c, d] 4).1 = [a - 18446744073709551597 - 0, b - 18446744073709551615 - subb a 18446744073709551597 0, c - 18446744073709551615 - subb b 18446744073709551615 (subb a 18446744073709551597 0), d - 9223372036854775807 - subb c 18446744073709551615 (subb b 18446744073709551615 (subb a 18446744073709551597 0))] := rfl
  have e2 : (lsb [a, b, c, d] 4).2 = subb d 9223372036854775807 (subb c 18446744073709551615 (subb b 18446744073709551615 (subb a 18446744073709551597 0))) := rfl
  rw [show UInt64.toNat 18446744073709551597 = 18446744073709551597 from rfl, z64] at b0
  rw [show UInt64.toNat 18446744073709551615 = 18446744073709551615 from rfl] at b1 b2
  rw [show UInt64.toNat 9223372036854775807 = 9223372036854775807 from rfl] at b3
  have hv : V4 (lsb [a, b, c, d] 4).1 + 57896044618658097711785492504343953926634992332820282019728792003956564819949 = V4 [a, b, c, d] + 115792089237316195423570985008687907853269984665640564039457584007913129639936 * ((lsb [a, b, c, d] 4).2).toNat := by
    rw [e1, e2, V4_mk, V4_mk]; omega
  have hlt := V4_lt (lsb [a, b, c, d] 4).1
  rw [← e2] at l3
  unfold lessL
  rw [P_val]
  split
  · rename_i h0
    rw [h0, z64] at hv
    rw [Nat.mod_eq_sub_mod (by omega), Nat.mod_eq_of_lt (by omega)]
    omega
  · rename_i h0
    have : (lsb [a, b, c, d] 4).2.toNat ≠ 0 := fun e => h0 (UInt64.toNat_inj.1 e)
    rw [Nat.mod_eq_of_lt (by omega)]
theorem lessL_el (w : List UInt64) (x : F) (h : w.length = 4) (hb : V4 w < 2 * 57896044618658097711785492504343953926634992332820282019728792003956564819949) (hx : V4 w % P = x.val) : lessL w = el x := el_of (lessL_len w h) ((lessL_V w h hb).trans hx)
theorem adl_V (x y : List UInt64) (hx : x.length = 4) (hy : y.length = 4) : V4 (adl x y 4).1 + 115792089237316195423570985008687907853269984665640564039457584007913129639936 * (adl x y 4).2.toNat = V4 x + V4 y := by
  obtain ⟨a, b, c, d, rfl⟩ := list4 hx
  obtain ⟨e, f, g, k, rfl⟩ := list4 hy
  have b0 := addc_eq (x := a) (y := e) (c := 0) (by decide)
  have b1 := addc_eq (x := b) (y := f) (c := addc a e 0) (addc_le ..)
  have b2 := addc_eq (x := c) (y := g) (c := addc b f (addc a e 0)) (addc_le ..)
  have b3 := addc_eq (x := d) (y := k) (c := addc c g (addc b f (addc a e 0))) (addc_le ..)
  rw [z64] at b0
  rw [show (adl [a, b, c, d] [e, f, g, k] 4).1 = [a + e + 0, b + f + addc a e 0, c + g + addc b f (addc a e 0), d + k + addc c g (addc b f (addc a e 0))] from rfl,
    show (adl [a, b, c, d] [e, f, g, k] 4).2 = addc d k (addc c g (addc b f (addc a e 0))) from rfl, V4_mk, V4_mk, V4_mk]
  omega
theorem add_el (x y : F) : lessL (adl (el x) (el y) 4).1 = el (x + y) := by
  have h := adl_V (el x) (el y) rfl rfl
  have hx := F_lt x
  have hy := F_lt y
  rw [V4_el, V4_el] at h
  have hlt := V4_lt (adl (el x) (el y) 4).1
  have hc := adl_le (el x) (el y) 4
  have : V4 (adl (el x) (el y) 4).1 = x.val + y.val := by omega
  refine lessL_el _ _ (adl_len ..) (by omega) ?_
  rw [this, Fin.val_add]
theorem ngl_V (x : List UInt64) (hx : x.length = 4) : V4 (ngl x 4).1 + V4 x = 57896044618658097711785492504343953926634992332820282019728792003956564819949 + 115792089237316195423570985008687907853269984665640564039457584007913129639936 * (ngl x 4).2.toNat := by
  obtain ⟨a, b, c, d, rfl⟩ := list4 hx
  have b0 := subb_eq (x := 18446744073709551597) (y := a) (c := 0) (by decide)
  have b1 := subb_eq (x := 18446744073709551615) (y := b) (c := subb 18446744073709551597 a 0) (subb_le ..)
  have b2 := subb_eq (x := 18446744073709551615) (y := c) (c := subb 18446744073709551615 b (subb 18446744073709551597 a 0)) (subb_le ..)
  have b3 := subb_eq (x := 9223372036854775807) (y := d) (c := subb 18446744073709551615 c (subb 18446744073709551615 b (subb 18446744073709551597 a 0))) (subb_le ..)
  rw [show UInt64.toNat 18446744073709551597 = 18446744073709551597 from rfl, z64] at b0
  rw [show UInt64.toNat 18446744073709551615 = 18446744073709551615 from rfl] at b1 b2
  rw [show UInt64.toNat 9223372036854775807 = 9223372036854775807 from rfl] at b3
  rw [show (ngl [a, b, c, d] 4).1 = [18446744073709551597 - a - 0, 18446744073709551615 - b - subb 18446744073709551597 a 0, 18446744073709551615 - c - subb 18446744073709551615 b (subb 18446744073709551597 a 0), 9223372036854775807 - d - subb 18446744073709551615 c (subb 18446744073709551615 b (subb 18446744073709551597 a 0))] from rfl,
    show (ngl [a, b, c, d] 4).2 = subb 9223372036854775807 d (subb 18446744073709551615 c (subb 18446744073709551615 b (subb 18446744073709551597 a 0))) from rfl, V4_mk, V4_mk]
  omega
theorem neg_el (x : F) : lessL (ngl (el x) 4).1 = el (-x) := by
  have h := ngl_V (el x) rfl
  have hx := F_lt x
  rw [V4_el] at h
  have hlt := V4_lt (ngl (el x) 4).1
  have hc := ngl_le (el x) 4
  have : V4 (ngl (el x) 4).1 = 57896044618658097711785492504343953926634992332820282019728792003956564819949 - x.val := by omega
  refine lessL_el _ _ (ngl_len ..) (by omega) ?_
  rw [this]; rfl
/-- One row of a product. -/
theorem row4 (x r0 r1 r2 r3 u0 u1 u2 u3 : UInt64) : ∃ t0 t1 t2 t3 h : UInt64, (∀ A R : List UInt64, ∀ i, A.getD i 0 = x → R = [r0, r1, r2, r3] → ∀ w : List UInt64, i + 3 < w.length → w.getD i 0 = u0 → w.getD (i + 1) 0 = u1 → w.getD (i + 2) 0 = u2 → w.getD (i + 3) 0 = u3 →
      tstep A R i w 4 = ((((w.set i t0).set (i + 1) t1).set (i + 2) t2).set (i + 3) t3, h)) ∧
    t0.toNat + 18446744073709551616 * t1.toNat + 340282366920938463463374607431768211456 * t2.toNat + 6277101735386680763835789423207666416102355444464034512896 * t3.toNat + 115792089237316195423570985008687907853269984665640564039457584007913129639936 * h.toNat = x.toNat * (r0.toNat + 18446744073709551616 * r1.toNat + 340282366920938463463374607431768211456 * r2.toNat + 6277101735386680763835789423207666416102355444464034512896 * r3.toNat) + (u0.toNat + 18446744073709551616 * u1.toNat + 340282366920938463463374607431768211456 * u2.toNat + 6277101735386680763835789423207666416102355444464034512896 * u3.toNat) := by
  obtain ⟨h0, e0⟩ : ∃ h, mulhi x r0 + addc (x * r0) u0 0 + addc (x * r0 + u0 + 0) 0 0 = h := ⟨_, rfl⟩
  obtain ⟨h1, e1⟩ : ∃ h, mulhi x r1 + addc (x * r1) u1 0 + addc (x * r1 + u1 + 0) h0 0 = h := ⟨_, rfl⟩
  obtain ⟨h2, e2⟩ : ∃ h, mulhi x r2 + addc (x * r2) u2 0 + addc (x * r2 + u2 + 0) h1 0 = h := ⟨_, rfl⟩
  obtain ⟨h3, e3⟩ : ∃ h, mulhi x r3 + addc (x * r3) u3 0 + addc (x * r3 + u3 + 0) h2 0 = h := ⟨_, rfl⟩
  have q0 := row_eq x r0 u0 0
  have q1 := row_eq x r1 u1 h0
  have q2 := row_eq x r2 u2 h1
  have q3 := row_eq x r3 u3 h2
  rw [e0] at q0; rw [e1] at q1; rw [e2] at q2; rw [e3] at q3
  rw [z64] at q0
  refine ⟨x * r0 + u0 + 0 + 0 + 0, x * r1 + u1 + 0 + h0 + 0, x * r2 + u2 + 0 + h1 + 0, x * r3 + u3 + 0 + h2 + 0, h3, ?_, ?_⟩
  · rintro A R i rfl rfl w hl rfl rfl rfl rfl
    have g1 : ∀ y, (w.set i y).getD (i + 1) 0 = w.getD (i + 1) 0 := fun y => by simp [List.getD_eq_getElem?_getD]
    have g2 : ∀ y z, ((w.set i y).set (i + 1) z).getD (i + 2) 0 = w.getD (i + 2) 0 := fun y z => by simp [List.getD_eq_getElem?_getD]
    have g3 : ∀ y z v, (((w.set i y).set (i + 1) z).set (i + 2) v).getD (i + 3) 0 = w.getD (i + 3) 0 := fun y z v => by simp [List.getD_eq_getElem?_getD]
    have s1 : tstep A [r0, r1, r2, r3] i w 1 = (w.set i (A.getD i 0 * r0 + w.getD i 0 + 0 + 0 + 0), h0) := by rw [← e0]; rfl
    have s2 : tstep A [r0, r1, r2, r3] i w 2 = ((w.set i (A.getD i 0 * r0 + w.getD i 0 + 0 + 0 + 0)).set (i + 1) (A.getD i 0 * r1 + w.getD (i + 1) 0 + 0 + h0 + 0), h1) := by
      rw [tstep, s1]; simp only [g1]; rw [← e1]; rfl
    have s3 : tstep A [r0, r1, r2, r3] i w 3 = (((w.set i (A.getD i 0 * r0 + w.getD i 0 + 0 + 0 + 0)).set (i + 1) (A.getD i 0 * r1 + w.getD (i + 1) 0 + 0 + h0 + 0)).set (i + 2) (A.getD i 0 * r2 + w.getD (i + 2) 0 + 0 + h1 + 0), h2) := by
      rw [tstep, s2]; simp only [g2]; rw [← e2]; rfl
    rw [tstep, s3]; simp only [g3]; rw [← e3]; rfl
  · have e : x.toNat * (r0.toNat + 18446744073709551616 * r1.toNat + 340282366920938463463374607431768211456 * r2.toNat + 6277101735386680763835789423207666416102355444464034512896 * r3.toNat) = x.toNat * r0.toNat + 18446744073709551616 * (x.toNat * r1.toNat) + 340282366920938463463374607431768211456 * (x.toNat * r2.toNat) + 6277101735386680763835789423207666416102355444464034512896 * (x.toNat * r3.toNat) := by
      simp only [Nat.mul_add, Nat.mul_left_comm]
    rw [e]
    omega
theorem tout_V (x y : List UInt64) (hx : x.length = 4) (hy : y.length = 4) : ∃ a b c d e f g h : UInt64, tout x y 4 = [a, b, c, d, e, f, g, h] ∧
    (a.toNat + 18446744073709551616 * b.toNat + 340282366920938463463374607431768211456 * c.toNat + 6277101735386680763835789423207666416102355444464034512896 * d.toNat) + 115792089237316195423570985008687907853269984665640564039457584007913129639936 * (e.toNat + 18446744073709551616 * f.toNat + 340282366920938463463374607431768211456 * g.toNat + 6277101735386680763835789423207666416102355444464034512896 * h.toNat) = V4 x * V4 y := by
  obtain ⟨x0, x1, x2, x3, rfl⟩ := list4 hx
  obtain ⟨y0, y1, y2, y3, rfl⟩ := list4 hy
  obtain ⟨a0, a1, a2, a3, ah, pa, qa⟩ := row4 x0 y0 y1 y2 y3 0 0 0 0
  have ta : tout [x0, x1, x2, x3] [y0, y1, y2, y3] 1 = [a0, a1, a2, a3, ah, 0, 0, 0] := by
    rw [tout, pa [x0, x1, x2, x3] _ 0 rfl rfl (tout [x0, x1, x2, x3] [y0, y1, y2, y3] 0) (by show 0 + 3 < 8; decide) rfl rfl rfl rfl]; rfl
  obtain ⟨b0, b1, b2, b3, bh, pb, qb⟩ := row4 x1 y0 y1 y2 y3 a1 a2 a3 ah
  have tb : tout [x0, x1, x2, x3] [y0, y1, y2, y3] 2 = [a0, b0, b1, b2, b3, bh, 0, 0] := by
    rw [tout, ta, pb [x0, x1, x2, x3] _ 1 rfl rfl _ (by show 1 + 3 < 8; decide) rfl rfl rfl rfl]; rfl
  obtain ⟨c0, c1, c2, c3, ch, pc, qc⟩ := row4 x2 y0 y1 y2 y3 b1 b2 b3 bh
  have tc : tout [x0, x1, x2, x3] [y0, y1, y2, y3] 3 = [a0, b0, c0, c1, c2, c3, ch, 0] := by
    rw [tout, tb, pc [x0, x1, x2, x3] _ 2 rfl rfl _ (by show 2 + 3 < 8; decide) rfl rfl rfl rfl]; rfl
  obtain ⟨d0, d1, d2, d3, dh, pd, qd⟩ := row4 x3 y0 y1 y2 y3 c1 c2 c3 ch
  have td : tout [x0, x1, x2, x3] [y0, y1, y2, y3] 4 = [a0, b0, c0, d0, d1, d2, d3, dh] := by
    rw [tout, tc, pd [x0, x1, x2, x3] _ 3 rfl rfl _ (by show 3 + 3 < 8; decide) rfl rfl rfl rfl]; rfl
  refine ⟨_, _, _, _, _, _, _, _, td, ?_⟩
  rw [V4_mk, V4_mk]
  rw [z64] at qa
  generalize y0.toNat + 18446744073709551616 * y1.toNat + 340282366920938463463374607431768211456 * y2.toNat + 6277101735386680763835789423207666416102355444464034512896 * y3.toNat = Y at *
  rw [Nat.add_mul, Nat.add_mul, Nat.add_mul, Nat.mul_assoc 18446744073709551616, Nat.mul_assoc 340282366920938463463374607431768211456, Nat.mul_assoc 6277101735386680763835789423207666416102355444464034512896]
  generalize x0.toNat * Y = X0 at *
  generalize x1.toNat * Y = X1 at *
  generalize x2.toNat * Y = X2 at *
  generalize x3.toNat * Y = X3 at *
  omega
theorem hst_V (a b c d e f g h : UInt64) : V4 (hst [a, b, c, d, e, f, g, h] 4).1 + 115792089237316195423570985008687907853269984665640564039457584007913129639936 * (hst [a, b, c, d, e, f, g, h] 4).2.toNat = (a.toNat + 18446744073709551616 * b.toNat + 340282366920938463463374607431768211456 * c.toNat + 6277101735386680763835789423207666416102355444464034512896 * d.toNat) + 38 * (e.toNat + 18446744073709551616 * f.toNat + 340282366920938463463374607431768211456 * g.toNat + 6277101735386680763835789423207666416102355444464034512896 * h.toNat) := by
  obtain ⟨h0, e0⟩ : ∃ z, mulhi e 38 + addc (e * 38) a 0 + addc (e * 38 + a + 0) 0 0 = z := ⟨_, rfl⟩
  obtain ⟨h1, e1⟩ : ∃ z, mulhi f 38 + addc (f * 38) b 0 + addc (f * 38 + b + 0) h0 0 = z := ⟨_, rfl⟩
  obtain ⟨h2, e2⟩ : ∃ z, mulhi g 38 + addc (g * 38) c 0 + addc (g * 38 + c + 0) h1 0 = z := ⟨_, rfl⟩
  obtain ⟨h3, e3⟩ : ∃ z, mulhi h 38 + addc (h * 38) d 0 + addc (h * 38 + d + 0) h2 0 = z := ⟨_, rfl⟩
  have q0 := row_eq e 38 a 0
  have q1 := row_eq f 38 b h0
  have q2 := row_eq g 38 c h1
  have q3 := row_eq h 38 d h2
  rw [e0] at q0; rw [e1] at q1; rw [e2] at q2; rw [e3] at q3
  have z38 : UInt64.toNat 38 = 38 := rfl
  rw [z64, z38] at q0
  rw [z38] at q1 q2 q3
  have s1 : hst [a, b, c, d, e, f, g, h] 1 = ([e * 38 + a + 0 + 0 + 0, 0, 0, 0], h0) := by rw [← e0]; rfl
  have s2 : hst [a, b, c, d, e, f, g, h] 2 = ([e * 38 + a + 0 + 0 + 0, f * 38 + b + 0 + h0 + 0, 0, 0], h1) := by rw [hst, s1, ← e1]; rfl
  have s3 : hst [a, b, c, d, e, f, g, h] 3 = ([e * 38 + a + 0 + 0 + 0, f * 38 + b + 0 + h0 + 0, g * 38 + c + 0 + h1 + 0, 0], h2) := by rw [hst, s2, ← e2]; rfl
  have s4 : hst [a, b, c, d, e, f, g, h] 4 = ([e * 38 + a + 0 + 0 + 0, f * 38 + b + 0 + h0 + 0, g * 38 + c + 0 + h1 + 0, h * 38 + d + 0 + h2 + 0], h3) := by rw [hst, s3, ← e3]; rfl
  have s41 := congrArg Prod.fst s4
  have s42 := congrArg Prod.snd s4
  simp only at s41 s42
  rw [s41, s42, V4_mk]
  omega
theorem and63 (x : UInt64) : (x &&& 9223372036854775807).toNat = x.toNat % 9223372036854775808 := by
  rw [UInt64.toNat_and]; exact Nat.and_two_pow_sub_one_eq_mod x.toNat 63
theorem m63_V (l : List UInt64) (h : l.length = 4) : V4 (m63 l) = V4 l % 57896044618658097711785492504343953926634992332820282019728792003956564819968 ∧ V4 l = V4 (m63 l) + 57896044618658097711785492504343953926634992332820282019728792003956564819968 * (shr64n (l.getD 3 0) 63).toNat := by
  obtain ⟨a, b, c, d, rfl⟩ := list4 h
  have := a.toNat_lt
  have := b.toNat_lt
  have := c.toNat_lt
  have := d.toNat_lt
  rw [show m63 [a, b, c, d] = [a, b, c, d &&& 9223372036854775807] from rfl, V4_mk, V4_mk, and63]
  rw [show [a, b, c, d].getD 3 0 = d from rfl, shr_nat d 63 (by decide)]
  omega
theorem top_le (x : UInt64) : (shr64n x 63).toNat ≤ 1 := by
  have := x.toNat_lt
  rw [shr_nat x 63 (by decide)]; omega
theorem crl_V (l : List UInt64) (h : l.length = 4) (t : UInt64) (ht : t.toNat ≤ 1) (hb : V4 l + 19 < 115792089237316195423570985008687907853269984665640564039457584007913129639936) : V4 (crl (ad19 l t) (ca19 l t) 3).1 = V4 l + 19 * t.toNat := by
  obtain ⟨a, b, c, d, rfl⟩ := list4 h
  have e19 : (19 * t).toNat = 19 * t.toNat := by
    rw [UInt64.toNat_mul, show UInt64.toNat 19 = 19 from rfl]; omega
  have b0 := addc_eq (x := a) (y := 19 * t) (c := 0) (by decide)
  have b1 := addc_eq (x := b) (y := 0) (c := addc a (19 * t) 0) (addc_le ..)
  have b2 := addc_eq (x := c) (y := 0) (c := addc b 0 (addc a (19 * t) 0)) (addc_le ..)
  have b3 := addc_eq (x := d) (y := 0) (c := addc c 0 (addc b 0 (addc a (19 * t) 0))) (addc_le ..)
  rw [z64, e19] at b0
  rw [z64] at b1 b2 b3
  have l3 := addc_le d 0 (addc c 0 (addc b 0 (addc a (19 * t) 0)))
  rw [V4_mk] at hb
  rw [show (crl (ad19 [a, b, c, d] t) (ca19 [a, b, c, d] t) 3).1 = [a + 19 * t + 0, b + 0 + addc a (19 * t) 0, c + 0 + addc b 0 (addc a (19 * t) 0), d + 0 + addc c 0 (addc b 0 (addc a (19 * t) 0))] from rfl, V4_mk, V4_mk]
  omega
theorem mulhi_38 (u : UInt64) (h : u.toNat ≤ 38) : (mulhi u 38).toNat = 0 ∧ (u * 38).toNat = u.toNat * 38 := by
  refine ⟨?_, ?_⟩
  · rw [mulhi_nat, show UInt64.toNat 38 = 38 from rfl]; omega
  · rw [UInt64.toNat_mul, show UInt64.toNat 38 = 38 from rfl]; omega
theorem fo4_V (w : List UInt64) (u : UInt64) (h : w.length = 4) (hu : u.toNat ≤ 38) : V4 (fo4 w u) = V4 (m63 w) + 38 * u.toNat := by
  obtain ⟨hm, hl⟩ := mulhi_38 u hu
  obtain ⟨a, b, c, d, rfl⟩ := list4 h
  obtain ⟨k, hk⟩ : ∃ k, d &&& 9223372036854775807 = k := ⟨_, rfl⟩
  have hd : k.toNat < 9223372036854775808 := by rw [← hk, and63]; omega
  have b0 := addc_eq (x := a) (y := u * 38) (c := 0) (by decide)
  have b1 := addc_eq (x := b) (y := mulhi u 38) (c := addc a (u * 38) 0) (addc_le ..)
  have b2 := addc_eq (x := c) (y := 0) (c := addc b (mulhi u 38) (addc a (u * 38) 0)) (addc_le ..)
  have l2 := addc_le c 0 (addc b (mulhi u 38) (addc a (u * 38) 0))
  rw [z64, hl] at b0
  rw [hm] at b1
  rw [z64] at b2
  have e3 : (k + addc c 0 (addc b (mulhi u 38) (addc a (u * 38) 0))).toNat = k.toNat + (addc c 0 (addc b (mulhi u 38) (addc a (u * 38) 0))).toNat := by
    rw [UInt64.toNat_add]; omega
  rw [show m63 [a, b, c, d] = [a, b, c, k] by rw [← hk]; rfl, show fo4 [a, b, c, d] u = [a + u * 38 + 0, b + mulhi u 38 + addc a (u * 38) 0, c + 0 + addc b (mulhi u 38) (addc a (u * 38) 0), k + addc c 0 (addc b (mulhi u 38) (addc a (u * 38) 0))] by rw [← hk]; rfl, V4_mk, V4_mk, e3]
  omega
theorem foA_V (w : List UInt64) (u : UInt64) (h : w.length = 4) (hu : u.toNat ≤ 38) : V4 (foA w u) = V4 (m63 w) + 38 * u.toNat + 19 * (shr64n (w.getD 3 0) 63).toNat := by
  have h1 := fo4_V w u h hu
  have h2 := (m63_V w h).1
  rw [foA, crl_V _ (by simp only [List.length_set]; exact h) _ (top_le _) (by omega), h1]
theorem foB_V (E : List UInt64) (h : E.length = 4) : V4 (foB E) = V4 (m63 E) + 19 * (shr64n (E.getD 3 0) 63).toNat := by
  have h2 := (m63_V E h).1
  rw [foB, crl_V _ (by simp only [List.length_set]; exact h) _ (top_le _) (by omega)]
theorem foldL_V (w : List UInt64) (u : UInt64) (h : w.length = 4) (hu : u.toNat ≤ 38) : V4 (foldL w u) = (V4 w + 115792089237316195423570985008687907853269984665640564039457584007913129639936 * u.toNat) % P := by
  have a1 := foA_V w u h hu
  have hA : (foA w u).length = 4 := (foA_len w u).trans h
  have b1 := foB_V (foA w u) hA
  have m1 := m63_V w h
  have m2 := m63_V (foA w u) hA
  have t1 := top_le (w.getD 3 0)
  have t2 := top_le ((foA w u).getD 3 0)
  rw [foldL, lessL_V _ ((foB_len _).trans hA) (by omega), P_val]
  generalize (shr64n (w.getD 3 0) 63).toNat = s at *
  generalize (shr64n ((foA w u).getD 3 0) 63).toNat = t at *
  have : V4 w + 115792089237316195423570985008687907853269984665640564039457584007913129639936 * u.toNat = V4 (foB (foA w u)) + 57896044618658097711785492504343953926634992332820282019728792003956564819949 * (s + t + 2 * u.toNat) := by omega
  rw [this, Nat.add_mul_mod_self_left]
theorem mul_el (x y : F) : mulL (el x) (el y) = el (x * y) := by
  obtain ⟨a, b, c, d, e, f, g, h, ht, hv⟩ := tout_V (el x) (el y) rfl rfl
  have hh := hst_V a b c d e f g h
  have hx := F_lt x
  have hy := F_lt y
  have h1 := (hst [a, b, c, d, e, f, g, h] 4).2.toNat_lt
  have := a.toNat_lt
  have := b.toNat_lt
  have := c.toNat_lt
  have := d.toNat_lt
  have := e.toNat_lt
  have := f.toNat_lt
  have := g.toNat_lt
  have := h.toNat_lt
  have hle : (hst [a, b, c, d, e, f, g, h] 4).2.toNat ≤ 38 := by omega
  refine el_of (by rw [mulL]; exact lessL_len _ ((foB_len _).trans ((foA_len _ _).trans (hst_len _ 4)))) ?_
  rw [mulL, ht, foldL_V _ _ (hst_len _ 4) hle, Fin.val_mul, hh]
  rw [V4_el, V4_el] at hv
  rw [← hv, P_val]
  generalize e.toNat + 18446744073709551616 * f.toNat + 340282366920938463463374607431768211456 * g.toNat + 6277101735386680763835789423207666416102355444464034512896 * h.toNat = hi
  generalize a.toNat + 18446744073709551616 * b.toNat + 340282366920938463463374607431768211456 * c.toNat + 6277101735386680763835789423207666416102355444464034512896 * d.toNat = lo
  have : lo + 115792089237316195423570985008687907853269984665640564039457584007913129639936 * hi = lo + 38 * hi + 57896044618658097711785492504343953926634992332820282019728792003956564819949 * (2 * hi) := by omega
  rw [this, Nat.add_mul_mod_self_left]
end Go.Proofs.Ytlidpcjinillfaa.Fd

/- What functions of the program do, walked over the abstract machine. -/
namespace Go.Proofs.Ytlidpcjinillfaa.Fd
open Go Go.Abs Go.Proofs

open Go.Nt

/-- The number of the first bytes, the lowest first. -/
def Fv (f : Nat → UInt8) : Nat → Nat
  | 0 => 0
  | i + 1 => Fv f i + 256 ^ i * (f i).toNat
theorem Fv_lt (f : Nat → UInt8) : ∀ n, Fv f n < 256 ^ n
  | 0 => by simp [Fv]
  | n + 1 => by
    have h1 := Fv_lt f n
    have h2 := (f n).toNat_lt
    have h3 : 256 ^ n * (f n).toNat ≤ 256 ^ n * 255 := Nat.mul_le_mul_left _ (by omega)
    rw [Fv, Nat.pow_succ]; omega
theorem Fv_congr {f h : Nat → UInt8} : ∀ n, (∀ i, i < n → f i = h i) → Fv f n = Fv h n
  | 0, _ => rfl
  | n + 1, e => by rw [Fv, Fv, Fv_congr n fun i hi => e i (by omega), e n (by omega)]
theorem Fv_add (f : Nat → UInt8) (a : Nat) : ∀ b, Fv f (a + b) = Fv f a + 256 ^ a * Fv (fun i => f (a + i)) b
  | 0 => by simp [Fv]
  | b + 1 => by
    rw [← Nat.add_assoc, Fv, Fv_add f a b, Fv, Nat.pow_add, Nat.mul_add, Nat.mul_assoc]
    omega
theorem Fv_digit (f : Nat → UInt8) (n i : Nat) (h : i < n) : Fv f n / 256 ^ i % 256 = (f i).toNat := by
  obtain ⟨b, rfl⟩ : ∃ b, n = i + (1 + b) := ⟨n - i - 1, by omega⟩
  rw [Fv_add, Fv_add (fun j => f (i + j)) 1 b]
  have h1 := Fv_lt f i
  have hp : 0 < 256 ^ i := Nat.pow_pos (by decide)
  have h2 := (f i).toNat_lt
  have e : Fv (fun j => f (i + j)) 1 = (f i).toNat := by simp [Fv]
  rw [e, Nat.add_comm, Nat.mul_add_div hp, Nat.div_eq_of_lt h1]
  omega
/-- 32 bytes as a number. -/
def bv (b : List UInt8) : Nat := Fv (fun i => b.getD i 0) 32
theorem bv_lt (b : List UInt8) : bv b < 115792089237316195423570985008687907853269984665640564039457584007913129639936 := by
  have := Fv_lt (fun i => b.getD i 0) 32
  rwa [show (256 : Nat) ^ 32 = 115792089237316195423570985008687907853269984665640564039457584007913129639936 by decide +kernel] at this
/-- Eight bytes as a word. -/
def hfo (b : List UInt8) (q : Nat) : Nat → UInt64
  | 0 => 0
  | j + 1 => hfo b q j ||| shl64n (b.getD (q + j) 0).toUInt64 (8 * j)
theorem hfo_nat (b : List UInt8) (q : Nat) : ∀ i, i ≤ 8 → (hfo b q i).toNat = Fv (fun i => b.getD (q + i) 0) i
  | 0, _ => rfl
  | i + 1, h => by
    have ih := hfo_nat b q i (by omega)
    have hlt := Fv_lt (fun i => b.getD (q + i) 0) i
    have hb := (b.getD (q + i) 0).toNat_lt
    rw [hfo, UInt64.toNat_or, ih, Fv]
    have e : (shl64n (b.getD (q + i) 0).toUInt64 (8 * i)).toNat = (b.getD (q + i) 0).toNat <<< (8 * i) := by
      rw [shl64n_lt _ _ (by omega), UInt64.toNat_shiftLeft]
      have : (UInt64.ofNat (8 * i)).toNat % 64 = 8 * i := by
        rw [UInt64.toNat_ofNat_of_lt' (by rw [show UInt64.size = 2 ^ 64 from rfl]; omega), Nat.mod_eq_of_lt (by omega)]
      rw [this, UInt8.toNat_toUInt64, Nat.shiftLeft_eq]
      refine Nat.mod_eq_of_lt ?_
      have h1 : 2 ^ (8 * i) ≤ 2 ^ 56 := Nat.pow_le_pow_right (by decide) (by omega)
      calc (b.getD (q + i) 0).toNat * 2 ^ (8 * i) ≤ 255 * 2 ^ 56 := Nat.mul_le_mul (by omega) h1
        _ < 2 ^ 64 := by decide
    rw [e, Nat.or_comm, ← Nat.shiftLeft_add_eq_or_of_lt (by rw [Nat.pow_mul]; exact hlt), Nat.shiftLeft_eq, Nat.pow_mul, Nat.mul_comm (b.getD (q + i) 0).toNat, Nat.add_comm]
theorem ofb_seg (b : List UInt8) (k : Nat) (hk : k < 4) (h0 : (ofb b (8 * k)).getD k 0 = 0) : ∀ j, j ≤ 8 → ofb b (8 * k + j) = (ofb b (8 * k)).set k (hfo b (8 * k) j)
  | 0, _ => by
    have hl := ofb_len b (8 * k)
    rw [Nat.add_zero, hfo]
    refine List.ext_getElem (by simp) fun i h1 h2 => ?_
    rw [List.getElem_set]
    split
    · rename_i e
      subst e
      rw [List.getD_eq_getElem?_getD, List.getElem?_eq_getElem h1] at h0
      simpa using h0
    · rfl
  | j + 1, hj => by
    have hl := ofb_len b (8 * k)
    rw [← Nat.add_assoc, ofb, show (8 * k + j) / 8 = k by omega, show (8 * k + j) % 8 = j by omega, ofb_seg b k hk h0 j (by omega), List.set_set, hfo]
    have : ((ofb b (8 * k)).set k (hfo b (8 * k) j)).getD k 0 = hfo b (8 * k) j := by
      rw [List.getD_eq_getElem?_getD, List.getElem?_set, if_pos rfl, if_pos (by omega)]; rfl
    rw [this]
theorem ofb_V (b : List UInt8) : V4 (ofb b 32) = bv b := by
  have s0 := ofb_seg b 0 (by decide) rfl 8 (by decide)
  have t0 : ofb b 8 = [hfo b 0 8, 0, 0, 0] := s0
  have s1 := ofb_seg b 1 (by decide) (by rw [show 8 * 1 = 8 from rfl, t0]; rfl) 8 (by decide)
  have t1 : ofb b 16 = [hfo b 0 8, hfo b 8 8, 0, 0] := by rw [show 16 = 8 * 1 + 8 from rfl, s1, show 8 * 1 = 8 from rfl, t0]; rfl
  have s2 := ofb_seg b 2 (by decide) (by rw [show 8 * 2 = 16 from rfl, t1]; rfl) 8 (by decide)
  have t2 : ofb b 24 = [hfo b 0 8, hfo b 8 8, hfo b 16 8, 0] := by rw [show 24 = 8 * 2 + 8 from rfl, s2, show 8 * 2 = 16 from rfl, t1]; rfl
  have s3 := ofb_seg b 3 (by decide) (by rw [show 8 * 3 = 24 from rfl, t2]; rfl) 8 (by decide)
  have t3 : ofb b 32 = [hfo b 0 8, hfo b 8 8, hfo b 16 8, hfo b 24 8] := by rw [show 32 = 8 * 3 + 8 from rfl, s3, show 8 * 3 = 24 from rfl, t2]; rfl
  rw [t3, V4_mk, hfo_nat _ _ 8 (by decide), hfo_nat _ _ 8 (by decide), hfo_nat _ _ 8 (by decide), hfo_nat _ _ 8 (by decide)]
  rw [bv, show (32 : Nat) = 8 + (8 + (8 + 8)) from rfl, Fv_add, Fv_add (fun i => b.getD (8 + i) 0), Fv_add (fun i => b.getD (8 + (8 + i)) 0)]
  rw [show (256 : Nat) ^ 8 = 18446744073709551616 by decide]
  have e0 : Fv (fun i => b.getD (0 + i) 0) 8 = Fv (fun i => b.getD i 0) 8 := Fv_congr 8 fun i _ => by rw [Nat.zero_add]
  have e2 : Fv (fun i => b.getD (8 + (8 + i)) 0) 8 = Fv (fun i => b.getD (16 + i) 0) 8 := Fv_congr 8 fun i _ => by rw [← Nat.add_assoc]
  have e3 : Fv (fun i => b.getD (8 + (8 + (8 + i))) 0) 8 = Fv (fun i => b.getD (24 + i) 0) 8 := Fv_congr 8 fun i _ => by rw [← Nat.add_assoc, ← Nat.add_assoc]
  rw [e0, e2, e3]
  omega
/-- The element of bytes. -/
def fb (b : List UInt8) : F := ⟨bv b % 57896044618658097711785492504343953926634992332820282019728792003956564819968 % P, Nat.mod_lt _ P_pos⟩
theorem of_el (b : List UInt8) : ofL b = el (fb b) := by
  have h := m63_V (ofb b 32) (ofb_len b 32)
  have hl : (m63 (ofb b 32)).length = 4 := List.length_set.trans (ofb_len b 32)
  refine lessL_el _ _ hl (by omega) ?_
  rw [h.1, ofb_V]; rfl
/-- A number's 32 bytes. -/
def by32 (n : Nat) : List UInt8 := (List.range 32).map fun i => UInt8.ofNat (n / 256 ^ i)
theorem by32_len (n : Nat) : (by32 n).length = 32 := by simp [by32]
theorem by32_get (n i : Nat) (h : i < 32) : (by32 n).getD i 0 = UInt8.ofNat (n / 256 ^ i) := by
  simp [by32, List.getD_eq_getElem?_getD, List.getElem?_map, List.getElem?_range h]
theorem ext32 {l m : List UInt8} (hl : l.length = 32) (hm : m.length = 32) (h : ∀ i, i < 32 → l.getD i 0 = m.getD i 0) : l = m := by
  refine List.ext_getElem (by omega) fun i h1 h2 => ?_
  have := h i (by omega)
  simpa [List.getD_eq_getElem?_getD, h1, h2] using this
theorem bv_by32 (n : Nat) (h : n < 115792089237316195423570985008687907853269984665640564039457584007913129639936) : bv (by32 n) = n := by
  have key : ∀ k, k ≤ 32 → Fv (fun i => (by32 n).getD i 0) k = n % 256 ^ k := by
    intro k
    induction k with
    | zero => intro _; simp [Fv, Nat.mod_one]
    | succ k ih =>
      intro hk
      rw [Fv, ih (by omega), by32_get n k (by omega), UInt8.toNat_ofNat', Nat.mod_pow_succ (b := 256)]
  rw [bv, key 32 (by decide), show (256 : Nat) ^ 32 = 115792089237316195423570985008687907853269984665640564039457584007913129639936 by decide +kernel, Nat.mod_eq_of_lt h]
theorem byl_get (w : List UInt64) : ∀ n, n ≤ 32 → ∀ i, i < n → (byl w n).getD i 0 = (shr64n (w.getD (i / 8) 0) (8 * (i % 8))).toUInt8
  | 0, _, i, h => by omega
  | n + 1, hn, i, h => by
    have hl := byl_len w n
    rw [byl]
    by_cases e : i = n
    · subst e
      have hi : i < (byl w i).length := by omega
      simp [List.getD_eq_getElem?_getD, hi]
    · rw [List.getD_eq_getElem?_getD, List.getElem?_set, if_neg (by omega), ← List.getD_eq_getElem?_getD]
      exact byl_get w n (by omega) i (by omega)
theorem byl_V (w : List UInt64) (h : w.length = 4) : byl w 32 = by32 (V4 w) := by
  obtain ⟨a, b, c, d, rfl⟩ := list4 h
  refine ext32 (byl_len _ _) (by32_len _) fun i hi => ?_
  rw [byl_get _ 32 (by decide) i hi, by32_get _ _ hi]
  apply UInt8.toNat_inj.1
  rw [UInt8.toNat_ofNat', UInt64.toNat_toUInt8, shr_nat _ _ (by omega), V4_mk]
  have := a.toNat_lt
  have := b.toNat_lt
  have := c.toNat_lt
  have := d.toNat_lt
  have h8 : i / 8 < 4 := by omega
  obtain ⟨k, j, hj, hk, rfl⟩ : ∃ k j, j < 8 ∧ k < 4 ∧ i = 8 * k + j := ⟨i / 8, i % 8, by omega, h8, by omega⟩
  rw [show (8 * k + j) / 8 = k by omega, show (8 * k + j) % 8 = j by omega, Nat.pow_add, Nat.pow_mul, ← Nat.div_div_eq_div_mul, Nat.pow_mul, show (256 : Nat) ^ 8 = 18446744073709551616 by decide, show (2 : Nat) ^ 8 = 256 by decide]
  have e : (18446744073709551616 : Nat) = 256 ^ j * (256 * 256 ^ (7 - j)) := by
    rw [← Nat.pow_succ', ← Nat.pow_add, show j + (7 - j + 1) = 8 by omega]
  have key : ∀ x y : Nat, x < 18446744073709551616 → x / 256 ^ j % 256 = (x + 18446744073709551616 * y) / 256 ^ j % 256 := by
    intro x y _
    rw [e, Nat.mul_assoc, Nat.add_mul_div_left _ _ (Nat.pow_pos (by decide)), Nat.mul_assoc, Nat.add_mul_mod_self_left]
  have hc : k = 0 ∨ k = 1 ∨ k = 2 ∨ k = 3 := by omega
  rcases hc with rfl | rfl | rfl | rfl
  · show a.toNat / 256 ^ j % 256 = _
    rw [key a.toNat (b.toNat + 18446744073709551616 * c.toNat + 340282366920938463463374607431768211456 * d.toNat) (by assumption)]
    congr 2; omega
  · show b.toNat / 256 ^ j % 256 = _
    rw [key b.toNat (c.toNat + 18446744073709551616 * d.toNat) (by assumption)]
    congr 2; omega
  · show c.toNat / 256 ^ j % 256 = _
    rw [key c.toNat d.toNat (by assumption)]
    congr 2; omega
  · show d.toNat / 256 ^ j % 256 = _
    congr 2; omega
/-- The bytes of an element. -/
abbrev bye (x : F) : List UInt8 := by32 x.val
theorem bytes_el (x : F) : byl (el x) 32 = bye x := by rw [byl_V _ rfl, V4_el]
theorem bye_inj {x y : F} (h : bye x = bye y) : x = y := by
  have := congrArg bv h
  rw [bv_by32 _ (by have := F_lt x; omega), bv_by32 _ (by have := F_lt y; omega)] at this
  exact Fin.ext this
theorem fb_bye (x : F) : fb (bye x) = x := by
  have hx := F_lt x
  apply Fin.ext
  show bv (bye x) % 57896044618658097711785492504343953926634992332820282019728792003956564819968 % P = x.val
  rw [bv_by32 _ (by omega), Nat.mod_eq_of_lt (a := x.val) (b := 57896044618658097711785492504343953926634992332820282019728792003956564819968) (by omega), Nat.mod_eq_of_lt x.isLt]
/-- A bit of what is said by bytes. -/
theorem shr8_nat (x : UInt8) (k : Nat) (h : k < 8) : (shr8n x k).toNat = x.toNat / 2 ^ k := by
  unfold shr8n
  simp [UInt8.toNat_shiftRight, Nat.shiftRight_eq_div_pow, h, Nat.mod_eq_of_lt h]
theorem bit_nat (e : List UInt8) (k : Nat) (h : k < 256) : (shr8n (e.getD (k / 8) 0) (k % 8) &&& 1).toNat = bv e / 2 ^ k % 2 := by
  rw [UInt8.toNat_and, show UInt8.toNat 1 = 2 ^ 1 - 1 from rfl, Nat.and_two_pow_sub_one_eq_mod, shr8_nat _ _ (by omega), show (2 : Nat) ^ 1 = 2 from rfl]
  rw [← Fv_digit (fun i => e.getD i 0) 32 (k / 8) (by omega)]
  have e1 : (2 : Nat) ^ k = 256 ^ (k / 8) * 2 ^ (k % 8) := by
    rw [show (256 : Nat) = 2 ^ 8 from rfl, ← Nat.pow_mul, ← Nat.pow_add, Nat.div_add_mod]
  rw [e1, ← Nat.div_div_eq_div_mul]
  show bv e / 256 ^ (k / 8) % 256 / 2 ^ (k % 8) % 2 = bv e / 256 ^ (k / 8) / 2 ^ (k % 8) % 2
  generalize bv e / 256 ^ (k / 8) = y
  show y % 256 / 2 ^ (k % 8) % 2 = y / 2 ^ (k % 8) % 2
  have e2 : (256 : Nat) = 2 ^ (k % 8) * (2 * 2 ^ (7 - k % 8)) := by
    rw [← Nat.pow_succ', ← Nat.pow_add, show k % 8 + (7 - k % 8 + 1) = 8 by omega]
  rw [e2, Nat.mod_mul_right_div_self, Nat.mod_mul_right_mod]
theorem bit_one {e : List UInt8} {k : Nat} (h : k < 256) (hb : shr8n (e.getD (k / 8) 0) (k % 8) &&& 1 = 1) : bv e / 2 ^ k % 2 = 1 := by
  rw [← bit_nat e k h, hb]; rfl
theorem bit_zero {e : List UInt8} {k : Nat} (h : k < 256) (hb : ¬ shr8n (e.getD (k / 8) 0) (k % 8) &&& 1 = 1) : bv e / 2 ^ k % 2 = 0 := by
  have := bit_nat e k h
  have hne : (shr8n (e.getD (k / 8) 0) (k % 8) &&& 1).toNat ≠ 1 := fun e => hb (UInt8.toNat_inj.1 (by rw [e]; rfl))
  omega
theorem half_pow (n k : Nat) (h : k < 256) : n / 2 ^ (255 - k) = 2 * (n / 2 ^ (256 - k)) + n / 2 ^ (255 - k) % 2 := by
  rw [show 256 - k = 255 - k + 1 by omega, Nat.pow_succ, ← Nat.div_div_eq_div_mul]
  omega
theorem pw_step1 (x : F) {e : List UInt8} {i : Nat} (hi : i < 256) (hb : shr8n (e.getD (31 - i / 8) 0) (7 - i % 8) &&& 1 = 1) : pw x (bv e / 2 ^ (256 - i)) * pw x (bv e / 2 ^ (256 - i)) * x = pw x (bv e / 2 ^ (256 - (i + 1))) := by
  have h1 := bit_one (e := e) (k := 255 - i) (by omega) (by rw [show (255 - i) / 8 = 31 - i / 8 by omega, show (255 - i) % 8 = 7 - i % 8 by omega]; exact hb)
  have h2 := half_pow (bv e) i hi
  rw [show 256 - (i + 1) = 255 - i by omega, h2, h1, ← pw_add, show ∀ m, pw x (m + 1) = pw x m * x from fun _ => rfl, Nat.two_mul]
theorem pw_step0 (x : F) {e : List UInt8} {i : Nat} (hi : i < 256) (hb : ¬ shr8n (e.getD (31 - i / 8) 0) (7 - i % 8) &&& 1 = 1) : pw x (bv e / 2 ^ (256 - i)) * pw x (bv e / 2 ^ (256 - i)) = pw x (bv e / 2 ^ (256 - (i + 1))) := by
  have h1 := bit_zero (e := e) (k := 255 - i) (by omega) (by rw [show (255 - i) / 8 = 31 - i / 8 by omega, show (255 - i) % 8 = 7 - i % 8 by omega]; exact hb)
  have h2 := half_pow (bv e) i hi
  rw [show 256 - (i + 1) = 255 - i by omega, h2, h1, ← pw_add, Nat.add_zero, Nat.two_mul]
theorem small_el (n : UInt64) : [n, 0, 0, 0] = el (Fin.ofNat P n.toNat) := by
  refine el_of rfl ?_
  have := n.toNat_lt
  rw [V4_mk, z64]
  show _ = n.toNat % P
  rw [P_val, Nat.mod_eq_of_lt (by omega)]; simp
/-- One of two, word by word. -/
def sel (a b : List UInt64) (m : UInt64) : Nat → List UInt64
  | 0 => a
  | i + 1 => (sel a b m i).set i ((sel a b m i).getD i 0 ^^^ (m &&& ((sel a b m i).getD i 0 ^^^ b.getD i 0)))
theorem sel_len (a b : List UInt64) (m : UInt64) : ∀ i, (sel a b m i).length = a.length
  | 0 => rfl
  | i + 1 => by rw [sel, List.length_set, sel_len]
theorem sel_no (x y : F) : sel (el x) (el y) 0 4 = el x := by
  obtain ⟨a, b, c, d, ha⟩ := list4 (el_len x)
  rw [ha]
  have e : ∀ u v : UInt64, u ^^^ (0 &&& v) = u := fun u v => by simp
  show [a ^^^ (0 &&& _), b ^^^ (0 &&& _), c ^^^ (0 &&& _), d ^^^ (0 &&& _)] = _
  simp only [e]
theorem sel_yes (x y : F) : sel (el x) (el y) (~~~0) 4 = el y := by
  obtain ⟨a, b, c, d, ha⟩ := list4 (el_len x)
  obtain ⟨a', b', c', d', hb⟩ := list4 (el_len y)
  rw [ha, hb]
  have e : ∀ u v : UInt64, u ^^^ (~~~0 &&& (u ^^^ v)) = v := fun u v => by rw [show (~~~0 : UInt64) = -1 from rfl, UInt64.neg_one_and, ← UInt64.xor_assoc, UInt64.xor_self, UInt64.zero_xor]
  show [a ^^^ (~~~0 &&& (a ^^^ a')), b ^^^ (~~~0 &&& (b ^^^ b')), c ^^^ (~~~0 &&& (c ^^^ c')), d ^^^ (~~~0 &&& (d ^^^ d'))] = _
  simp only [e]
/-- What is added to p, shifted. -/
def xin (p : List UInt64) : Nat → List UInt64
  | 0 => p
  | i + 1 => if i < 3 then ((xin p i).set i (shr64n ((xin p i).getD i 0) 1)).set i (((xin p i).set i (shr64n ((xin p i).getD i 0) 1)).getD i 0 ||| shl64n (((xin p i).set i (shr64n ((xin p i).getD i 0) 1)).getD (i + 1) 0) 63) else (xin p i).set i (shr64n ((xin p i).getD i 0) 1)
theorem xin_len (p : List UInt64) : ∀ i, (xin p i).length = p.length
  | 0 => rfl
  | i + 1 => by rw [xin]; split <;> simp [xin_len p i]
def xsh (p : List UInt64) : Nat → List UInt64
  | 0 => p
  | k + 1 => xin (xsh p k) 4
theorem xsh_len (p : List UInt64) : ∀ i, (xsh p i).length = p.length
  | 0 => rfl
  | i + 1 => by rw [xsh, xin_len, xsh_len]
def xp (a : Int) : List UInt64 := [18446744073709551597 + UInt64.ofInt a, 18446744073709551615, 18446744073709551615, 9223372036854775807]
theorem deq (x y : F) : decide (el x = el y) = decide (x = y) := decide_eq_decide.2 ⟨el_inj, fun h => h ▸ rfl⟩
theorem xp_len (a : Int) : (xp a).length = 4 := rfl
end Go.Proofs.Ytlidpcjinillfaa.Fd

/- What functions of the program do, walked over the abstract machine. -/
namespace Go.Proofs.Ytlidpcjinillfaa.Fd
open Go Go.Abs Go.Proofs

open Go.Nt
theorem add_e (x y : F) : Good Try.prog 37 [.a (u64s (el x)), .a (u64s (el y))] [] (sa (u64s (el (x + y)))) [] := by
  have := add_ (el x) (el y) rfl rfl
  rwa [add_el] at this
theorem neg_e (x : F) : Good Try.prog 50 [.a (u64s (el x))] [] (sa (u64s (el (-x)))) [] := by
  have := neg_ (el x) rfl
  rwa [neg_el] at this
theorem mul_e (x y : F) : Good Try.prog 27 [.a (u64s (el x)), .a (u64s (el y))] [] (sa (u64s (el (x * y)))) [] := by
  have := mul_ (el x) (el y) rfl rfl
  rwa [mul_el] at this
theorem of_e (b : List UInt8) (h : b.length = 32) : Good Try.prog 23 [.a (u8s b)] [] (sa (u64s (el (fb b)))) [] := by
  have := of_ b h
  rwa [of_el] at this
theorem bytes_e (x : F) : Good Try.prog 29 [.a (u64s (el x))] [] (sa (u8s (bye x))) [] := by
  have := bytes_ (el x) rfl
  rwa [bytes_el] at this
theorem small_e (n : UInt64) : Good Try.prog 24 [.c (c64 n)] [] (sa (u64s (el (Fin.ofNat P n.toNat)))) [] := by
  have := small_ n
  rwa [small_el] at this
theorem small_1 : Good Try.prog 24 [.c (c64 1)] [] (sa (u64s (el 1))) [] := small_e 1
theorem small_2 : Good Try.prog 24 [.c (c64 2)] [] (sa (u64s (el 2))) [] := small_e 2
/-- (field.Elem).Square -/
theorem square_e (x : F) : Good Try.prog 39 [.a (u64s (el x))] [] (sa (u64s (el (x * x)))) [] := by
  refine good_frm 6 Try.func39 rfl rfl rfl rfl rfl rfl ?_
  refine awp_seq ?_
  refine rln ?_
  refine G2 (fun _ k_ => q_boxa k_) ?_
  refine G2 (fun _ k_ => q_al k_) ?_
  refine gend ?_
  refine awp_seq ?_
  refine rln ?_
  refine G (q_ldw ?_)
  refine G (q_ldw ?_)
  refine G2 (fun _ k_ => q_callp (mul_e x x) k_) ?_
  refine G20 (fun _ k_ => q_stw k_) ?_
  refine gend ?_
  refine awp_ret ?_
  exact fpc (t := 46) (a := 2)
/-- (field.Elem).Sub -/
theorem sub_e (x y : F) : Good Try.prog 38 [.a (u64s (el x)), .a (u64s (el y))] [] (sa (u64s (el (x - y)))) [] := by
  rw [show x - y = x + -y by grind]
  refine good_frm 9 Try.func38 rfl rfl rfl rfl rfl rfl ?_
  refine awp_seq ?_
  refine rln ?_
  refine G2 (fun _ k_ => q_boxa k_) ?_
  refine G2 (fun _ k_ => q_boxa k_) ?_
  refine G2 (fun _ k_ => q_al k_) ?_
  refine gend ?_
  refine awp_seq ?_
  refine rdln [2, 3, 4] [0, 0, 0, 1, 2] [1, 0, 1, 2, 3] ?_
  refine DLw ?_
  refine DLw ?_
  refine De2 (fun _ k_ => q_callp (neg_e y) k_) ?_
  refine De2 (fun _ k_ => q_callp (add_e x (-y)) k_) ?_
  refine De20 (fun _ k_ => q_stw k_) ?_
  refine dend ?_
  refine awp_ret ?_
  exact fpc (t := 46) (a := 4)
/-- field.Select -/
theorem select_y (x y : F) : Good Try.prog 49 [.a (u64s (el x)), .a (u64s (el y)), .c (.bool true)] [] (sa (u64s (el y))) [] := by
  refine good_frm 35 Try.func49 rfl rfl rfl rfl rfl rfl ?_
  refine awp_seq ?_
  refine rln ?_
  refine G2 (fun _ k_ => q_boxa k_) ?_
  refine G2 (fun _ k_ => q_boxa k_) ?_
  refine G2 (fun _ k_ => q_al k_) ?_
  refine gend ?_
  refine awp_seq ?_
  refine rln ?_
  refine G (q_as (s := sc (c64 0)) ?_)
  refine gend ?_
  refine awp_seq ?_
  refine awp_seq ?_
  refine rln ?_
  refine Mv ?_
  refine gend ?_
  refine cndbY (fun hc1 => ?_) ?_; rotate_left
  · exact rfl
  refine rln ?_
  refine Mv ?_
  refine G (q_not64 ?_)
  refine As ?_
  refine gend ?_
  refine awp_seq ?_
  refine awp_seq ?_
  refine rln ?_
  refine G (q_mv (s := sc (cn 0)) ?_)
  refine gend ?_
  refine awp_block ?_
  refine awp_loop (fun i : {i : Nat // i ≤ 4} => ⟨frm 35 [(4, sc (.ptr 1 0)), (6, sc (.ptr 2 0)), (3, sc (.ptr 0 0)), (7, sc (c64 (~~~0))), (12, sc (cn i.1))], [some (u64s (sel (el x) (el y) (~~~0) i.1)), some (u64s (el y)), some (u64s (List.replicate 4 0))]⟩) (fun i => 4 - i.1) ⟨0, Nat.zero_le _⟩ (sle_sub ⟨rfl, rfl, rfl, rfl, rfl, trivial⟩ rfl) fun i => ?_   -- live: [3, 4, 7, 12]
  have hl := (sel_len (el x) (el y) (~~~0) i.1).trans (el_len x)
  refine awp_seq ?_
  refine rln ?_
  refine G (q_lssn (y := 4) ?_)
  refine gend ?_
  refine awp_seq ?_
  refine cnd (fun hc2 => ?_) (fun hc2 => ?_); rotate_left
  · refine awp_exit ?_
    rw [show i.1 = 4 from (by have := i.2; omega)]
    rw [sel_yes]
    refine awp_seq ?_
    refine rln ?_
    refine G (q_ldw ?_)
    refine G20 (fun _ k_ => q_stw k_) ?_
    refine gend ?_
    refine awp_ret ?_
    exact fpc (t := 46) (a := 6)
  refine awp_skip ?_
  refine awp_seq ?_
  refine awp_block ?_
  refine awp_seq ?_
  refine rln ?_
  refine Mv ?_
  refine As ?_
  refine gend ?_
  refine rdln [18] [] [0, 0, 0, 0, 0, 0, 0, 0, 0, 0, 0, 0, 0, 0, 0, 0, 0, 0, 1] ?_
  refine Dp (fun _ => q_mv (s := .v (.c _)) ⟨rfl, rfl⟩) ?_
  refine Dp (fun _ => q_fap0 ⟨rfl, rfl⟩) ?_
  refine Dp (fun _ => q_ixp1 ⟨rfl, rfl⟩) ?_
  refine DLp ?_
  refine Dp (fun _ => q_mv (s := .v (.c _)) ⟨rfl, rfl⟩) ?_
  refine Dp (fun _ => q_mv (s := .v (.c _)) ⟨rfl, rfl⟩) ?_
  refine Dp (fun _ => q_fap0 ⟨rfl, rfl⟩) ?_
  refine Dp (fun _ => q_ixp1 ⟨rfl, rfl⟩) ?_
  refine DLp ?_
  refine Dp (fun _ => q_mv (s := .v (.c _)) ⟨rfl, rfl⟩) ?_
  refine Dp (fun _ => q_fap0 ⟨rfl, rfl⟩) ?_
  refine Dp (fun _ => q_ixp1 ⟨rfl, rfl⟩) ?_
  refine DLp ?_
  refine Dp (fun _ => q_xor64 ⟨rfl, rfl⟩) ?_
  refine Dp (fun _ => q_and64 ⟨rfl, rfl⟩) ?_
  refine Dp (fun _ => q_xor64 ⟨rfl, rfl⟩) ?_
  refine Dp (fun _ => q_fap0 ⟨rfl, rfl⟩) ?_
  refine Dp (fun _ => q_ixp1 ⟨rfl, rfl⟩) ?_
  refine De20 (fun _ k_ => q_stm k_) ?_
  refine dend ?_
  refine rln ?_
  refine G (q_addn (y := 1) ?_)
  refine Mv ?_
  refine gend ?_
  exact ⟨⟨i.1 + 1, by omega⟩, by show 4 - (i.1 + 1) < 4 - i.1; omega, sle_sub ⟨rfl, rfl, rfl, rfl, rfl, trivial⟩ rfl⟩   -- endloop 1
/-- field.Select -/
theorem select_x (x y : F) : Good Try.prog 49 [.a (u64s (el x)), .a (u64s (el y)), .c (.bool false)] [] (sa (u64s (el x))) [] := by
  refine good_frm 35 Try.func49 rfl rfl rfl rfl rfl rfl ?_
  refine awp_seq ?_
  refine rln ?_
  refine G2 (fun _ k_ => q_boxa k_) ?_
  refine G2 (fun _ k_ => q_boxa k_) ?_
  refine G2 (fun _ k_ => q_al k_) ?_
  refine gend ?_
  refine awp_seq ?_
  refine rln ?_
  refine G (q_as (s := sc (c64 0)) ?_)
  refine gend ?_
  refine awp_seq ?_
  refine awp_seq ?_
  refine rln ?_
  refine Mv ?_
  refine gend ?_
  refine cndbN (fun hc1 => ?_) ?_; rotate_left
  · exact rfl
  refine awp_skip ?_
  refine awp_seq ?_
  refine awp_seq ?_
  refine rln ?_
  refine G (q_mv (s := sc (cn 0)) ?_)
  refine gend ?_
  refine awp_block ?_
  refine awp_loop (fun i : {i : Nat // i ≤ 4} => ⟨frm 35 [(4, sc (.ptr 1 0)), (6, sc (.ptr 2 0)), (3, sc (.ptr 0 0)), (7, sc (c64 0)), (12, sc (cn i.1))], [some (u64s (sel (el x) (el y) 0 i.1)), some (u64s (el y)), some (u64s (List.replicate 4 0))]⟩) (fun i => 4 - i.1) ⟨0, Nat.zero_le _⟩ (sle_sub ⟨rfl, rfl, rfl, rfl, rfl, trivial⟩ rfl) fun i => ?_   -- live: [3, 4, 7, 12]
  have hl := (sel_len (el x) (el y) 0 i.1).trans (el_len x)
  refine awp_seq ?_
  refine rln ?_
  refine G (q_lssn (y := 4) ?_)
  refine gend ?_
  refine awp_seq ?_
  refine cnd (fun hc2 => ?_) (fun hc2 => ?_); rotate_left
  · refine awp_exit ?_
    rw [show i.1 = 4 from (by have := i.2; omega)]
    rw [sel_no]
    refine awp_seq ?_
    refine rln ?_
    refine G (q_ldw ?_)
    refine G20 (fun _ k_ => q_stw k_) ?_
    refine gend ?_
    refine awp_ret ?_
    exact fpc (t := 46) (a := 6)
  refine awp_skip ?_
  refine awp_seq ?_
  refine awp_block ?_
  refine awp_seq ?_
  refine rln ?_
  refine Mv ?_
  refine As ?_
  refine gend ?_
  refine rdln [18] [] [0, 0, 0, 0, 0, 0, 0, 0, 0, 0, 0, 0, 0, 0, 0, 0, 0, 0, 1] ?_
  refine Dp (fun _ => q_mv (s := .v (.c _)) ⟨rfl, rfl⟩) ?_
  refine Dp (fun _ => q_fap0 ⟨rfl, rfl⟩) ?_
  refine Dp (fun _ => q_ixp1 ⟨rfl, rfl⟩) ?_
  refine DLp ?_
  refine Dp (fun _ => q_mv (s := .v (.c _)) ⟨rfl, rfl⟩) ?_
  refine Dp (fun _ => q_mv (s := .v (.c _)) ⟨rfl, rfl⟩) ?_
  refine Dp (fun _ => q_fap0 ⟨rfl, rfl⟩) ?_
  refine Dp (fun _ => q_ixp1 ⟨rfl, rfl⟩) ?_
  refine DLp ?_
  refine Dp (fun _ => q_mv (s := .v (.c _)) ⟨rfl, rfl⟩) ?_
  refine Dp (fun _ => q_fap0 ⟨rfl, rfl⟩) ?_
  refine Dp (fun _ => q_ixp1 ⟨rfl, rfl⟩) ?_
  refine DLp ?_
  refine Dp (fun _ => q_xor64 ⟨rfl, rfl⟩) ?_
  refine Dp (fun _ => q_and64 ⟨rfl, rfl⟩) ?_
  refine Dp (fun _ => q_xor64 ⟨rfl, rfl⟩) ?_
  refine Dp (fun _ => q_fap0 ⟨rfl, rfl⟩) ?_
  refine Dp (fun _ => q_ixp1 ⟨rfl, rfl⟩) ?_
  refine De20 (fun _ k_ => q_stm k_) ?_
  refine dend ?_
  refine rln ?_
  refine G (q_addn (y := 1) ?_)
  refine Mv ?_
  refine gend ?_
  exact ⟨⟨i.1 + 1, by omega⟩, by show 4 - (i.1 + 1) < 4 - i.1; omega, sle_sub ⟨rfl, rfl, rfl, rfl, rfl, trivial⟩ rfl⟩   -- endloop 1
theorem select_e (x y : F) (b : Bool) : Good Try.prog 49 [.a (u64s (el x)), .a (u64s (el y)), .c (.bool b)] [] (sa (u64s (el (if b then y else x)))) [] := by
  cases b
  · exact select_x x y
  · exact select_y x y
/-- field.Swap -/
theorem swap_e (x y : F) (b : Bool) : Good Try.prog 36 [.a (u64s (el x)), .a (u64s (el y)), .c (.bool b)] [] (.t [.a (u64s (el (if b then y else x))), .a (u64s (el (if b then x else y)))]) [] := by
  refine good_frm 16 Try.func36 rfl rfl rfl rfl rfl rfl ?_
  refine awp_seq ?_
  refine rln ?_
  refine G2 (fun _ k_ => q_boxa k_) ?_
  refine G2 (fun _ k_ => q_boxa k_) ?_
  refine G2 (fun _ k_ => q_al k_) ?_
  refine G2 (fun _ k_ => q_al k_) ?_
  refine gend ?_
  refine awp_seq ?_
  refine rdln [3, 7, 8, 9] [0, 0, 0, 0, 0, 0, 0, 1, 2, 3] [0, 0, 0, 1, 1, 1, 1, 2, 3, 4] ?_
  refine DLw ?_
  refine DLw ?_
  refine Dp (fun _ => q_mv (s := .v (.c _)) ⟨rfl, rfl⟩) ?_
  refine De2 (fun _ k_ => q_callp (select_e x y b) k_) ?_
  refine DLw ?_
  refine DLw ?_
  refine Dp (fun _ => q_mv (s := .v (.c _)) ⟨rfl, rfl⟩) ?_
  refine De2 (fun _ k_ => q_callp (select_e y x b) k_) ?_
  refine De20 (fun _ k_ => q_stw k_) ?_
  refine De20 (fun _ k_ => q_stw k_) ?_
  refine dend ?_
  refine awp_ret ?_
  exact fpc2 (a0 := 6) (t0 := 46) (a1 := 7) (t1 := 46)
set_option maxHeartbeats 800000 in
/-- field.exponent -/
theorem exponent_ (a : Int) (k : Nat) (hk : k ≤ 100) : Good Try.prog 44 [.c (ci a), .c (cn k)] [] (sa (u8s (byl (xsh (xp a) k) 32))) [] := by
  have hxl := (xsh_len (xp a) k).trans (xp_len a)
  have gB := bytes_ (xsh (xp a) k) hxl
  have hB := byl_len (xsh (xp a) k) 32
  refine good_frm 42 Try.func44 rfl rfl rfl rfl rfl rfl ?_
  refine awp_seq ?_
  refine rln ?_
  refine G2 (fun _ k_ => q_al k_) ?_
  refine gend ?_
  refine awp_seq ?_
  refine rln ?_
  refine G2 (fun _ k_ => q_callp (prime_/- escutcheon/field.prime -/) k_) ?_
  refine G2 (fun _ k_ => q_al k_) ?_
  refine G20 (fun _ k_ => q_stw k_) ?_
  refine gend ?_
  refine awp_seq ?_
  refine rln ?_
  refine G (q_ixp1 ?_)
  refine G (q_ldp ?_)
  refine Mv ?_
  refine G (q_cvi_64 ?_)
  refine G (q_add64 ?_)
  refine G (q_ixp1 ?_)
  refine G20 (fun _ k_ => q_stm k_) ?_
  refine gend ?_
  refine awp_seq ?_
  refine awp_seq ?_
  refine rln ?_
  refine Mv ?_
  refine G (q_mv (s := sc (cn 0)) ?_)
  refine gend ?_
  refine awp_block ?_
  refine awp_loop (fun x : {i : Nat // i ≤ k} => ⟨frm 42 [(4, sc (.ptr 0 0)), (5, sc (.ptr 1 0)), (14, sc (cn k)), (15, sc (cn x.1))], [some (u8s (List.replicate 32 0)), some (u64s (xsh (xp a) x.1))]⟩) (fun x => k - x.1) ⟨0, Nat.zero_le _⟩ (sle_sub ⟨rfl, rfl, rfl, rfl, trivial⟩ rfl) fun x => ?_   -- live: [5, 14, 15]
  have hl := (xsh_len (xp a) x.1).trans (xp_len a)
  refine awp_seq ?_
  refine rln ?_
  refine G (q_lssn ?_)
  refine gend ?_
  refine awp_seq ?_
  refine cnd (fun hc1 => ?_) (fun hc1 => ?_); rotate_left
  · refine awp_exit ?_
    rw [show x.1 = k from (by have := x.2; omega)]
    have hl := hxl
    generalize byl (xsh (xp a) k) 32 = L at gB hB ⊢
    generalize xsh (xp a) k = W at hl gB ⊢
    refine awp_seq ?_
    refine rln ?_
    refine G (q_ldw ?_)
    refine G  (q_bls (fka rfl (et rfl) ((mapc_length ..).trans hl) (by decide) (fk0 ?_)))
    rw [spl4 (a := List.replicate 4 0) hl]
    refine G2 (fun _ k_ => q_callp (gB) k_) ?_
    refine G20 (fun _ k_ => q_stw k_) ?_
    refine gend ?_
    refine awp_ret ?_
    exact fpc (t := 23) (a := 4) (hn := by exact (mapc_length ..).trans hB)
  refine awp_skip ?_
  refine awp_seq ?_
  refine awp_block ?_
  refine awp_seq ?_
  refine rln ?_
  refine G (q_mv (s := sc (cn 0)) ?_)
  refine gend ?_
  refine awp_block ?_
  refine awp_loop (fun i : {i : Nat // i ≤ 4} => ⟨frm 42 [(4, sc (.ptr 0 0)), (5, sc (.ptr 1 0)), (14, sc (cn k)), (15, sc (cn x.1)), (17, sc (cn i.1))], [some (u8s (List.replicate 32 0)), some (u64s (xin (xsh (xp a) x.1) i.1))]⟩) (fun i => 4 - i.1) ⟨0, Nat.zero_le _⟩ (sle_sub ⟨rfl, rfl, rfl, rfl, rfl, trivial⟩ rfl) fun i => ?_   -- live: [5, 17]
  have hi := (xin_len (xsh (xp a) x.1) i.1).trans hl
  refine awp_seq ?_
  refine rln ?_
  refine G (q_lssn (y := 4) ?_)
  refine gend ?_
  refine awp_seq ?_
  refine cnd (fun hc2 => ?_) (fun hc2 => ?_); rotate_left
  · refine awp_exit ?_
    rw [show i.1 = 4 from (by have := i.2; omega)]
    refine rln ?_
    refine G (q_addn (y := 1) ?_)
    refine Mv ?_
    refine gend ?_
    exact ⟨⟨x.1 + 1, by omega⟩, by show k - (x.1 + 1) < k - x.1; omega, sle_sub ⟨rfl, rfl, rfl, rfl, trivial⟩ rfl⟩   -- endloop 1
  refine awp_skip ?_
  refine awp_seq ?_
  refine awp_block ?_
  refine awp_seq ?_
  refine rln ?_
  refine Mv ?_
  refine As ?_
  refine gend ?_
  refine awp_seq ?_
  refine rln ?_
  refine Mv ?_
  refine G (q_ixp1 ?_)
  refine G (q_ldp ?_)
  refine G (q_shr64_64 (n := 1) ?_)
  refine G (q_ixp1 ?_)
  refine G20 (fun _ k_ => q_stm k_) ?_
  refine gend ?_
  refine awp_seq ?_
  refine rln ?_
  refine Mv ?_
  refine G (q_lssn (y := 3) ?_)
  refine gend ?_
  refine cnd (fun hc3 => ?_) (fun hc3 => ?_)
  · refine rdln [10] [] [0, 0, 0, 0, 0, 0, 0, 0, 0, 0, 1] ?_
    refine Dp (fun _ => q_mv (s := .v (.c _)) ⟨rfl, rfl⟩) ?_
    refine Dp (fun _ => q_ixp1 ⟨rfl, rfl⟩) ?_
    refine DLp ?_
    refine Dp (fun _ => q_mv (s := .v (.c _)) ⟨rfl, rfl⟩) ?_
    refine Dp (fun _ => q_addn (y := 1) ⟨rfl, rfl⟩) ?_
    refine Dp (fun _ => q_ixp1 ⟨rfl, rfl⟩) ?_
    refine DLp ?_
    refine Dp (fun _ => q_shl64_64 (n := 63) ⟨rfl, rfl⟩) ?_
    refine Dp (fun _ => q_or64 ⟨rfl, rfl⟩) ?_
    refine Dp (fun _ => q_ixp1 ⟨rfl, rfl⟩) ?_
    refine De20 (fun _ k_ => q_stm k_) ?_
    refine dend ?_
    refine rln ?_
    refine G (q_addn (y := 1) ?_)
    refine Mv ?_
    refine gend ?_
    exact ⟨⟨i.1 + 1, by omega⟩, by show 4 - (i.1 + 1) < 4 - i.1; omega, sle_sub ⟨rfl, rfl, rfl, rfl, rfl, trivial⟩ (congrArg (fun z => [some (u8s (List.replicate 32 0)), some (u64s z)]) (by rw [xin]; first | exact (if_pos (by assumption)).symm | exact (if_neg (by assumption)).symm))⟩   -- endloop 2
  refine awp_skip ?_
  refine rln ?_
  refine G (q_addn (y := 1) ?_)
  refine Mv ?_
  refine gend ?_
  exact ⟨⟨i.1 + 1, by omega⟩, by show 4 - (i.1 + 1) < 4 - i.1; omega, sle_sub ⟨rfl, rfl, rfl, rfl, rfl, trivial⟩ (congrArg (fun z => [some (u8s (List.replicate 32 0)), some (u64s z)]) (by rw [xin]; first | exact (if_pos (by assumption)).symm | exact (if_neg (by assumption)).symm))⟩   -- endloop 2
theorem exp_inv : Good Try.prog 44 [.c (ci (-2)), .c (cn 0)] [] (sa (u8s (by32 (P - 2)))) [] := by
  have := exponent_ (-2) 0 (by decide)
  rwa [show byl (xsh (xp (-2)) 0) 32 = by32 (P - 2) by decide +kernel] at this
set_option maxHeartbeats 800000 in
/-- (field.Elem).Power -/
theorem power_e (x : F) (e : List UInt8) (he : e.length = 32) : Good Try.prog 43 [.a (u64s (el x)), .a (u8s e)] [] (sa (u64s (el (pw x (bv e))))) [] := by
  have h0 : bv e / 2 ^ 256 = 0 := Nat.div_eq_of_lt (bv_lt e)
  refine good_frm 29 Try.func43 rfl rfl rfl rfl rfl rfl ?_
  refine awp_seq ?_
  refine rln ?_
  refine G2 (fun _ k_ => q_boxa k_) ?_
  refine G2 (fun _ k_ => q_boxa k_) ?_
  refine G2 (fun _ k_ => q_al k_) ?_
  refine gend ?_
  refine awp_seq ?_
  refine rln ?_
  refine G2 (fun _ k_ => q_callp (small_1) k_ (ha := (cac rfl cm_int ca0))) ?_
  refine G2 (fun _ k_ => q_al k_) ?_
  refine G20 (fun _ k_ => q_stw k_) ?_
  refine gend ?_
  refine awp_seq ?_
  refine awp_seq ?_
  refine rln ?_
  refine G (q_mv (s := sc (cn 0)) ?_)
  refine gend ?_
  refine awp_block ?_
  refine awp_loop (fun i : {i : Nat // i ≤ 256} => ⟨frm 29 [(2, sc (.ptr 0 0)), (3, sc (.ptr 1 0)), (4, sc (.ptr 2 0)), (5, sc (.ptr 3 0)), (8, sc (cn i.1))], [some (u64s (el x)), some (u8s e), some (u64s (List.replicate 4 0)), some (u64s (el (pw x (bv e / 2 ^ (256 - i.1)))))]⟩) (fun i => 256 - i.1) ⟨0, Nat.zero_le _⟩ (sle_sub ⟨rfl, rfl, rfl, rfl, rfl, trivial⟩ (by rw [Nat.sub_zero, h0]; rfl)) fun i => ?_   -- live: [2, 3, 5, 8]
  refine awp_seq ?_
  refine rln ?_
  refine G (q_lssn (y := 256) ?_)
  refine gend ?_
  refine awp_seq ?_
  refine cnd (fun hc1 => ?_) (fun hc1 => ?_); rotate_left
  · refine awp_exit ?_
    rw [show i.1 = 256 from (by have := i.2; omega)]
    rw [Nat.sub_self, Nat.pow_zero, Nat.div_one]
    refine awp_seq ?_
    refine rln ?_
    refine G (q_ldw ?_)
    refine G20 (fun _ k_ => q_stw k_) ?_
    refine gend ?_
    refine awp_ret ?_
    exact fpc (t := 46) (a := 4)
  refine awp_skip ?_
  refine awp_seq ?_
  refine awp_block ?_
  refine awp_seq ?_
  refine rln ?_
  refine Mv ?_
  refine As ?_
  refine gend ?_
  refine awp_seq ?_
  refine rln ?_
  refine G (q_ldw ?_)
  refine G2 (fun _ k_ => q_callp (square_e _) k_) ?_
  refine G20 (fun _ k_ => q_stw k_) ?_
  refine gend ?_
  refine awp_seq ?_
  refine rln ?_
  refine Mv ?_
  refine G (q_quon (y := 8) ?_)
  refine G (q_subn (x := 31) ?_)
  refine G (q_ixp1 ?_)
  refine G (q_ldp ?_)
  refine Mv ?_
  refine G (q_remn (y := 8) ?_)
  refine G (q_subn (x := 7) ?_)
  refine G (q_shr8_0 ?_)
  refine G (q_and8 (y := 1) ?_)
  refine G (q_eql8 (y := 1) ?_)
  refine gend ?_
  refine cnd (fun hc2 => ?_) (fun hc2 => ?_)
  · refine rln ?_
    refine G (q_ldw ?_)
    refine G (q_ldw ?_)
    refine G2 (fun _ k_ => q_callp (mul_e _ x) k_) ?_
    refine G20 (fun _ k_ => q_stw k_) ?_
    refine gend ?_
    refine rln ?_
    refine G (q_addn (y := 1) ?_)
    refine Mv ?_
    refine gend ?_
    exact ⟨⟨i.1 + 1, by omega⟩, by show 256 - (i.1 + 1) < 256 - i.1; omega, sle_sub ⟨rfl, rfl, rfl, rfl, rfl, trivial⟩ (congrArg (fun z => [some (u64s (el x)), some (u8s e), some (u64s (List.replicate 4 0)), some (u64s (el z))]) (by first | exact pw_step1 x (by omega) (by assumption) | exact pw_step0 x (by omega) (by assumption)))⟩   -- endloop 1
  refine awp_skip ?_
  refine rln ?_
  refine G (q_addn (y := 1) ?_)
  refine Mv ?_
  refine gend ?_
  exact ⟨⟨i.1 + 1, by omega⟩, by show 256 - (i.1 + 1) < 256 - i.1; omega, sle_sub ⟨rfl, rfl, rfl, rfl, rfl, trivial⟩ (congrArg (fun z => [some (u64s (el x)), some (u8s e), some (u64s (List.replicate 4 0)), some (u64s (el z))]) (by first | exact pw_step1 x (by omega) (by assumption) | exact pw_step0 x (by omega) (by assumption)))⟩   -- endloop 1
/-- (field.Elem).Inv -/
theorem inv_e (x : F) : Good Try.prog 28 [.a (u64s (el x))] [] (sa (u64s (el (inv x)))) [] := by
  have hb : bv (by32 (P - 2)) = P - 2 := bv_by32 _ (by decide +kernel)
  have gE := exp_inv
  have gP := power_e x (by32 (P - 2)) (by32_len _)
  rw [hb] at gP
  have hl := by32_len (P - 2)
  rw [show pw x (P - 2) = inv x from rfl] at gP
  generalize by32 (P - 2) = E at gP gE hl
  refine good_frm 6 Try.func28 rfl rfl rfl rfl rfl rfl ?_
  refine awp_seq ?_
  refine rln ?_
  refine G2 (fun _ k_ => q_boxa k_) ?_
  refine G2 (fun _ k_ => q_al k_) ?_
  refine gend ?_
  refine awp_seq ?_
  refine rdln [1, 2, 3] [0, 0, 1, 2] [1, 1, 2, 3] ?_
  refine DLw ?_
  refine De2 (fun _ k_ => q_callp (gE) k_ (ha := (cac rfl cm_int (cac rfl cm_int ca0)))) ?_
  refine De2 (fun _ k_ => q_callp (gP) k_) ?_
  refine De20 (fun _ k_ => q_stw k_) ?_
  refine dend ?_
  refine awp_ret ?_
  exact fpc (t := 46) (a := 2)
end Go.Proofs.Ytlidpcjinillfaa.Fd

/- Edwards curves over the field of 2^255 - 19 elements, and what a ladder of x-coordinates comes to. -/
namespace Go.Nt

/-- No number but 0 is d times a square, as a square. -/
def Nsq (d : F) : Prop := ∀ a b : F, a * a = d * (b * b) → b = 0
theorem nsq_of {d : F} (hd : eul d = -1) : Nsq d := by
  intro a b h
  refine Classical.byContradiction fun hb => ?_
  have hd0 : d ≠ 0 := by
    rintro rfl
    have : eul 0 = 0 := zero_pw _ (by decide +kernel)
    rw [this] at hd
    apply one_ne
    grind
  have ha : a * a ≠ 0 := by rw [h]; exact mul_ne hd0 (mul_ne hb hb)
  have ha0 : a ≠ 0 := by rintro rfl; apply ha; grind
  have h1 := eul_of_sq ha0
  rw [h, eul_mul, eul_of_sq hb, hd] at h1
  apply one_ne_neg
  grind
/-- A point. -/
structure Pt where
  x : F
  y : F
def On (d : F) (p : Pt) : Prop := p.x * p.x + p.y * p.y = 1 + d * (p.x * p.x) * (p.y * p.y)
/-- The addition's denominators are not 0. -/
theorem den_ne {d : F} (hd : Nsq d) {p q : Pt} (hp : On d p) (hq : On d q) : 1 + d * (p.x * q.x * p.y * q.y) ≠ 0 ∧ 1 - d * (p.x * q.x * p.y * q.y) ≠ 0 := by
  obtain ⟨x1, y1⟩ := p
  obtain ⟨x2, y2⟩ := q
  simp only [On] at hp hq ⊢
  have key : ∀ e : F, e * e = 1 → d * (x1 * x2 * y1 * y2) = e → False := by
    intro e he hx
    have h1 : (x1 + e * y1) * (x1 + e * y1) = d * (x1 * y1 * (x2 + y2) * (x1 * y1 * (x2 + y2))) := by grind
    have h2 : (x1 - e * y1) * (x1 - e * y1) = d * (x1 * y1 * (x2 - y2) * (x1 * y1 * (x2 - y2))) := by grind
    have k1 := hd _ _ h1
    have k2 := hd _ _ h2
    have h3 : x1 * y1 * x2 = 0 := by
      have : 2 * (x1 * y1 * x2) = 0 := by grind
      exact (no_zero this).resolve_left two_ne
    have h4 : e = 0 := by rw [← hx]; grind
    rw [h4] at he
    apply one_ne
    grind
  refine ⟨fun h => key (-1) (by grind) (by grind), fun h => key 1 (by grind) (by grind)⟩
def padd (d : F) (p q : Pt) : Pt :=
  ⟨(p.x * q.y + q.x * p.y) * inv (1 + d * (p.x * q.x * p.y * q.y)), (p.y * q.y - p.x * q.x) * inv (1 - d * (p.x * q.x * p.y * q.y))⟩
def pid : Pt := ⟨0, 1⟩
theorem on_id (d : F) : On d pid := by unfold On pid; grind
theorem padd_comm (d : F) (p q : Pt) : padd d p q = padd d q p := by
  have e : p.x * q.x * p.y * q.y = q.x * p.x * q.y * p.y := by grind
  simp only [padd, e, Pt.mk.injEq]
  constructor <;> grind
theorem inv_one : inv 1 = 1 := one_pw _
theorem f_m0 (t : F) : t * 0 = 0 := Fin.mul_zero t
theorem f_0m (t : F) : 0 * t = 0 := Fin.zero_mul t
theorem f_m1 (t : F) : t * 1 = t := Fin.mul_one t
theorem f_a0 (t : F) : t + 0 = t := Fin.add_zero t
theorem f_0a (t : F) : 0 + t = t := Fin.zero_add t
theorem f_s0 (t : F) : t - 0 = t := by grind
theorem padd_id (d : F) (p : Pt) : padd d p pid = p := by
  obtain ⟨x, y⟩ := p
  simp only [padd, pid, f_m0, f_0m, f_m1, f_a0, f_0a, f_s0, inv_one]
theorem on_padd {d : F} (hd : Nsq d) {p q : Pt} (hp : On d p) (hq : On d q) : On d (padd d p q) := by
  obtain ⟨n1, n2⟩ := den_ne hd hp hq
  obtain ⟨x1, y1⟩ := p
  obtain ⟨x2, y2⟩ := q
  simp only [On, padd] at *
  have i1 := mul_inv n1
  have i2 := mul_inv n2
  generalize inv (1 + d * (x1 * x2 * y1 * y2)) = a at *
  generalize inv (1 - d * (x1 * x2 * y1 * y2)) = b at *
  grind
theorem frac_eq {A B x y N M : F} (hA : A ≠ 0) (hB : B ≠ 0) (hx : x * A = N) (hy : y * B = M) (h : N * B = M * A) : x = y := by
  have : A * B * (x - y) = 0 := by grind
  rcases no_zero this with e | e
  · exact absurd e (mul_ne hA hB)
  · grind
theorem assoc_x {d x1 y1 x2 y2 x3 y3 : F} (h1 : x1*x1 + y1*y1 = 1 + d*(x1*x1)*(y1*y1)) (h2 : x2*x2 + y2*y2 = 1 + d*(x2*x2)*(y2*y2)) (h3 : x3*x3 + y3*y3 = 1 + d*(x3*x3)*(y3*y3)) :
  ((x1*y2+x2*y1)*(1-d*(x1*x2*y1*y2))*y3 + x3*((y1*y2-x1*x2)*(1+d*(x1*x2*y1*y2)))) * ((1+d*(x2*x3*y2*y3))*(1-d*(x2*x3*y2*y3)) + d*(x1*(x2*y3+x3*y2)*y1*(y2*y3-x2*x3))) =
  (x1*((y2*y3-x2*x3)*(1+d*(x2*x3*y2*y3))) + (x2*y3+x3*y2)*(1-d*(x2*x3*y2*y3))*y1) * ((1+d*(x1*x2*y1*y2))*(1-d*(x1*x2*y1*y2)) + d*((x1*y2+x2*y1)*x3*(y1*y2-x1*x2)*y3)) := by grind
theorem assoc_y {d x1 y1 x2 y2 x3 y3 : F} (h1 : x1*x1 + y1*y1 = 1 + d*(x1*x1)*(y1*y1)) (h2 : x2*x2 + y2*y2 = 1 + d*(x2*x2)*(y2*y2)) (h3 : x3*x3 + y3*y3 = 1 + d*(x3*x3)*(y3*y3)) :
  ((y1*y2-x1*x2)*(1+d*(x1*x2*y1*y2))*y3 - (x1*y2+x2*y1)*(1-d*(x1*x2*y1*y2))*x3) * ((1+d*(x2*x3*y2*y3))*(1-d*(x2*x3*y2*y3)) - d*(x1*(x2*y3+x3*y2)*y1*(y2*y3-x2*x3))) =
  (y1*((y2*y3-x2*x3)*(1+d*(x2*x3*y2*y3))) - x1*((x2*y3+x3*y2)*(1-d*(x2*x3*y2*y3)))) * ((1+d*(x1*x2*y1*y2))*(1-d*(x1*x2*y1*y2)) - d*((x1*y2+x2*y1)*x3*(y1*y2-x1*x2)*y3)) := by grind
theorem clr1 {D E a b d N M x y : F} (h1 : D * a = 1) (h2 : E * b = 1) : D * E * (1 + d * (N * a * x * (M * b) * y)) = D * E + d * (N * x * M * y) := by grind
theorem clr2 {D E a b d N M x y : F} (h1 : D * a = 1) (h2 : E * b = 1) : D * E * (1 - d * (N * a * x * (M * b) * y)) = D * E - d * (N * x * M * y) := by grind
theorem clr3 {G H g h d K L x y : F} (h1 : G * g = 1) (h2 : H * h = 1) : G * H * (1 + d * (x * (K * g) * y * (L * h))) = G * H + d * (x * K * y * L) := by grind
theorem clr4 {G H g h d K L x y : F} (h1 : G * g = 1) (h2 : H * h = 1) : G * H * (1 - d * (x * (K * g) * y * (L * h))) = G * H - d * (x * K * y * L) := by grind
theorem clr5 {z u R Q : F} (h : R * u = 1) : z * u * (Q * R) = z * Q := by grind
theorem clr6 {D E a b N M x y : F} (h1 : D * a = 1) (h2 : E * b = 1) : (N * a * y + x * (M * b)) * (D * E) = N * E * y + x * (M * D) := by grind
theorem clr7 {G H g h K L x y : F} (h1 : G * g = 1) (h2 : H * h = 1) : (x * (L * h) + K * g * y) * (G * H) = x * (L * G) + K * H * y := by grind
theorem clr8 {D E a b N M x y : F} (h1 : D * a = 1) (h2 : E * b = 1) : (M * b * y - N * a * x) * (D * E) = M * D * y - N * E * x := by grind
theorem clr9 {G H g h K L x y : F} (h1 : G * g = 1) (h2 : H * h = 1) : (y * (L * h) - x * (K * g)) * (G * H) = y * (L * G) - x * (K * H) := by grind
theorem padd_assoc {d : F} (hd : Nsq d) {p q r : Pt} (hp : On d p) (hq : On d q) (hr : On d r) : padd d (padd d p q) r = padd d p (padd d q r) := by
  have o1 := on_padd hd hp hq
  have o2 := on_padd hd hq hr
  obtain ⟨m1, m2⟩ := den_ne hd o1 hr
  obtain ⟨l1, l2⟩ := den_ne hd hp o2
  obtain ⟨n1, n2⟩ := den_ne hd hp hq
  obtain ⟨k1, k2⟩ := den_ne hd hq hr
  obtain ⟨x1, y1⟩ := p
  obtain ⟨x2, y2⟩ := q
  obtain ⟨x3, y3⟩ := r
  simp only [On] at hp hq hr
  have ax := assoc_x hp hq hr
  have ay := assoc_y hp hq hr
  clear hp hq hr o1 o2
  simp only [padd] at m1 m2 l1 l2 n1 n2 k1 k2 ⊢
  have in1 := mul_inv n1
  have in2 := mul_inv n2
  have ik1 := mul_inv k1
  have ik2 := mul_inv k2
  have im1 := mul_inv m1
  have im2 := mul_inv m2
  have il1 := mul_inv l1
  have il2 := mul_inv l2
  obtain ⟨N, hN⟩ : ∃ N, x1*y2+x2*y1 = N := ⟨_, rfl⟩
  obtain ⟨M, hM⟩ : ∃ M, y1*y2-x1*x2 = M := ⟨_, rfl⟩
  obtain ⟨K, hK⟩ : ∃ K, x2*y3+x3*y2 = K := ⟨_, rfl⟩
  obtain ⟨L, hL⟩ : ∃ L, y2*y3-x2*x3 = L := ⟨_, rfl⟩
  obtain ⟨D, hD⟩ : ∃ D, 1 + d * (x1 * x2 * y1 * y2) = D := ⟨_, rfl⟩
  obtain ⟨E, hE⟩ : ∃ E, 1 - d * (x1 * x2 * y1 * y2) = E := ⟨_, rfl⟩
  obtain ⟨G, hG⟩ : ∃ G, 1 + d * (x2 * x3 * y2 * y3) = G := ⟨_, rfl⟩
  obtain ⟨H, hH⟩ : ∃ H, 1 - d * (x2 * x3 * y2 * y3) = H := ⟨_, rfl⟩
  rw [hN, hM, hK, hL, hD, hE, hG, hH] at ax ay
  rw [hN, hM, hD, hE] at m1 m2 im1 im2 ⊢
  rw [hK, hL, hG, hH] at l1 l2 il1 il2 ⊢
  rw [hD] at in1 n1
  rw [hE] at in2 n2
  rw [hG] at ik1 k1
  rw [hH] at ik2 k2
  generalize inv D = a at *
  generalize inv E = b at *
  generalize inv G = g at *
  generalize inv H = h at *
  clear hN hM hK hL hD hE hG hH
  have A1 : D * E * (1 + d * (N * a * x3 * (M * b) * y3)) = D * E + d * (N * x3 * M * y3) := clr1 in1 in2
  have A2 : D * E * (1 - d * (N * a * x3 * (M * b) * y3)) = D * E - d * (N * x3 * M * y3) := clr2 in1 in2
  have B1 : G * H * (1 + d * (x1 * (K * g) * y1 * (L * h))) = G * H + d * (x1 * K * y1 * L) := clr3 ik1 ik2
  have B2 : G * H * (1 - d * (x1 * (K * g) * y1 * (L * h))) = G * H - d * (x1 * K * y1 * L) := clr4 ik1 ik2
  have nA1 := mul_ne (mul_ne n1 n2) m1
  have nA2 := mul_ne (mul_ne n1 n2) m2
  have nB1 := mul_ne (mul_ne k1 k2) l1
  have nB2 := mul_ne (mul_ne k1 k2) l2
  rw [A1] at nA1; rw [A2] at nA2; rw [B1] at nB1; rw [B2] at nB2
  generalize inv (1 + d * (N * a * x3 * (M * b) * y3)) = u at *
  generalize inv (1 - d * (N * a * x3 * (M * b) * y3)) = v at *
  generalize inv (1 + d * (x1 * (K * g) * y1 * (L * h))) = s at *
  generalize inv (1 - d * (x1 * (K * g) * y1 * (L * h))) = t at *
  simp only [Pt.mk.injEq]
  constructor
  · refine frac_eq nA1 nB1 (N := N * E * y3 + x3 * (M * D)) (M := x1 * (L * G) + K * H * y1) ?_ ?_ ax
    · rw [← A1]; exact (clr5 im1).trans (clr6 in1 in2)
    · rw [← B1]; exact (clr5 il1).trans (clr7 ik1 ik2)
  · refine frac_eq nA2 nB2 (N := M * D * y3 - N * E * x3) (M := y1 * (L * G) - x1 * (K * H)) ?_ ?_ ay
    · rw [← A2]; exact (clr5 im2).trans (clr8 in1 in2)
    · rw [← B2]; exact (clr5 il2).trans (clr9 ik1 ik2)
end Go.Nt

/- Multiples of points, and the ladder. -/
namespace Go.Nt

def smul (d : F) (p : Pt) : Nat → Pt
  | 0 => pid
  | n + 1 => padd d (smul d p n) p
theorem on_smul {d : F} (hd : Nsq d) {p : Pt} (hp : On d p) : ∀ n, On d (smul d p n)
  | 0 => on_id d
  | n + 1 => on_padd hd (on_smul hd hp n) hp
theorem padd_id' (d : F) (p : Pt) : padd d pid p = p := by rw [padd_comm, padd_id]
theorem smul_add {d : F} (hd : Nsq d) {p : Pt} (hp : On d p) (m : Nat) : ∀ n, smul d p (m + n) = padd d (smul d p m) (smul d p n)
  | 0 => by rw [smul, padd_id]; rfl
  | n + 1 => by rw [← Nat.add_assoc, smul, smul_add hd hp m n, smul, padd_assoc hd (on_smul hd hp m) (on_smul hd hp n) hp]
theorem smul_smul {d : F} (hd : Nsq d) {p : Pt} (hp : On d p) (m : Nat) : ∀ n, smul d (smul d p m) n = smul d p (m * n)
  | 0 => rfl
  | n + 1 => by rw [smul, smul_smul hd hp m n, Nat.mul_succ, smul_add hd hp]
def pneg (p : Pt) : Pt := ⟨-p.x, p.y⟩
theorem on_neg {d : F} {p : Pt} (hp : On d p) : On d (pneg p) := by unfold On pneg at *; grind
theorem neg_inv1 {d x y a b : F} (h : x * x + y * y = 1 + d * (x * x) * (y * y)) (hb : (1 - d * (x * -x * y * y)) * b = 1) : (y * y - x * -x) * b = 1 := by grind
theorem padd_neg {d : F} (hd : Nsq d) {p : Pt} (hp : On d p) : padd d p (pneg p) = pid := by
  obtain ⟨_, n2⟩ := den_ne hd hp (on_neg hp)
  obtain ⟨x, y⟩ := p
  simp only [On, padd, pneg, pid, Pt.mk.injEq] at *
  have i2 := mul_inv n2
  refine ⟨?_, neg_inv1 (a := 0) hp i2⟩
  rw [show x * y + -x * y = 0 by grind, f_0m]
/-- The difference of two points. -/
theorem diff_eq {d : F} (hd : Nsq d) {p q : Pt} (hp : On d p) (hq : On d q) : padd d (padd d q p) (pneg q) = p := by
  rw [padd_comm d q p, padd_assoc hd hp hq (on_neg hq), padd_neg hd hq, padd_id]

/-- A curve, and how its points become x-coordinates. -/
structure Cv where
  s : F
  d : F
  ss : s * s = 1
  c1 : (1 + 243331 * s) * (1 - d) = 2
  c2 : (243331 * s - 1) * (1 - d) = 2 * d
  ns : Nsq d
/-- Two numbers stand for a point of that height. -/
def Rep (s y a b : F) : Prop := ∃ l, l ≠ 0 ∧ a = l * (s * (1 + y)) ∧ b = l * (1 - y)
theorem s_ne {s : F} (h : s * s = 1) : s ≠ 0 := by
  rintro rfl
  apply one_ne
  rw [← h, f_m0]
theorem rep_a {s y a b w : F} (hs : s * s = 1) (hw : (1 - y) * w = 1) (h : a * (1 - y) = s * b * (1 + y)) : a = b * w * (s * (1 + y)) ∧ b = b * w * (1 - y) := by
  constructor <;> grind
theorem rep_b {s a b w : F} (hs : s * s = 1) (hw : 2 * w = 1) (h : a * (1 - 1) = s * b * (1 + 1)) : b = 0 ∧ a = a * (s * w) * (s * (1 + 1)) := by
  have e : s * b * 2 = 0 := by grind
  have e2 : b = s * b * 2 * (s * w) := by grind
  refine ⟨by rw [e2, e, f_0m], ?_⟩
  grind
theorem rep_of {s y a b : F} (hs : s * s = 1) (h : a * (1 - y) = s * b * (1 + y)) (hne : ¬ (a = 0 ∧ b = 0)) : Rep s y a b := by
  by_cases hy : 1 - y = 0
  · have hy1 : y = 1 := by grind
    subst hy1
    have hw := mul_inv two_ne
    obtain ⟨e1, e2⟩ := rep_b hs hw h
    have ha : a ≠ 0 := fun e => hne ⟨e, e1⟩
    have hw0 : inv 2 ≠ 0 := by intro e; rw [e, f_m0] at hw; exact one_ne hw.symm
    refine ⟨a * (s * inv 2), mul_ne ha (mul_ne (s_ne hs) hw0), e2, ?_⟩
    rw [e1, hy, f_m0]
  · have hw := mul_inv hy
    obtain ⟨e1, e2⟩ := rep_a hs hw h
    have hw0 : inv (1 - y) ≠ 0 := by intro e; rw [e, f_m0] at hw; exact one_ne hw.symm
    have hb : b ≠ 0 := by
      intro e
      rw [e, f_0m, f_0m] at e1
      exact hne ⟨e1, e⟩
    exact ⟨b * inv (1 - y), mul_ne hb hw0, e1, e2⟩
theorem pow4_ne {l : F} (h : l ≠ 0) : l * l * (l * l) ≠ 0 := mul_ne (mul_ne h h) (mul_ne h h)
theorem dbl_a {s l y : F} (hs : s * s = 1) : (l * (s * (1 + y)) + l * (1 - y)) * (l * (s * (1 + y)) + l * (1 - y)) * ((l * (s * (1 + y)) - l * (1 - y)) * (l * (s * (1 + y)) - l * (1 - y))) = 16 * (l * l * (l * l)) * (y * y) := by grind
theorem dbl_b {s l y u v : F} (hs : s * s = 1) (hu : u = (l * (s * (1 + y)) + l * (1 - y)) * (l * (s * (1 + y)) + l * (1 - y))) (hv : v = (l * (s * (1 + y)) - l * (1 - y)) * (l * (s * (1 + y)) - l * (1 - y))) :
    (u - v) * (u + 121665 * (u - v)) = 8 * (l * l * (l * l)) * s * (1 - y * y) * (1 + y * y + 243331 * s * (1 - y * y)) := by
  have e1 : u - v = 4 * (l * l) * s * (1 - y * y) := by grind
  have e2 : u = l * l * (2 + 2 * (y * y) + 2 * s * (1 - y * y)) := by grind
  rw [e1, e2]; grind
theorem dbl_e {d s q : F} (c1 : (1 + 243331 * s) * (1 - d) = 2) (c2 : (243331 * s - 1) * (1 - d) = 2 * d) : 2 * (1 - d * q) = (1 + q + 243331 * s * (1 - q)) * (1 - d) := by
  have e : (1 + q + 243331 * s * (1 - q)) * (1 - d) = (1 + 243331 * s) * (1 - d) - q * ((243331 * s - 1) * (1 - d)) := by grind
  rw [e, c1, c2]; grind
theorem dbl_f {A B C D : F} (h : A * B = C) (h4 : 2 * B = D * C) (hB : B ≠ 0) : D * A = 2 := by
  have : B * (D * A - 2) = 0 := by grind
  rcases no_zero this with e | e
  · exact absurd e hB
  · grind
theorem dbl_g {E z q A D : F} (hE : E ≠ 0) (e1 : (1 - z) * E = 2 * (1 - q)) (e2 : (1 + z) * E = 2 * q * A) (e5 : D * A = 2) : 2 * q * (1 - z) = (1 - q) * D * (1 + z) := by
  have : E * (2 * q * (1 - z) - (1 - q) * D * (1 + z)) = 0 := by grind
  rcases no_zero this with e | e
  · exact absurd e hE
  · grind
theorem dbl_c {d s x y E z : F} (hs : s * s = 1) (c1 : (1 + 243331 * s) * (1 - d) = 2) (c2 : (243331 * s - 1) * (1 - d) = 2 * d) (h : x * x + y * y = 1 + d * (x * x) * (y * y)) (hE : 1 - d * (x * x * y * y) = E) (hz : z * E = y * y - x * x) (h0 : (1 - d * (y * y)) ≠ 0) (hE0 : E ≠ 0) :
    2 * (y * y) * (1 - z) = (1 - y * y) * (1 + y * y + 243331 * s * (1 - y * y)) * (1 + z) := by
  have e1 : (1 - z) * E = 2 * (1 - y * y) := by grind
  have e2 : (1 + z) * E = 2 * (y * y) * (1 - d * (x * x)) := by grind
  have e3 : (1 - d * (x * x)) * (1 - d * (y * y)) = 1 - d := by grind
  exact dbl_g hE0 e1 e2 (dbl_f e3 (dbl_e c1 c2) h0)
theorem one_sub_ne {d : F} (hd : Nsq d) (y : F) : 1 - d * (y * y) ≠ 0 := by
  intro h
  have h1 : (1 : F) * 1 = d * (y * y) := by grind
  have := hd _ _ h1
  rw [this, f_m0, f_m0] at h1
  exact one_ne (by rw [← h1, f_m1])

theorem dbl_h {s L q z T : F} (hs : s * s = 1) (hc : 2 * q * (1 - z) = (1 - q) * T * (1 + z)) : 16 * L * q * (1 - z) = s * (8 * L * s * (1 - q) * T) * (1 + z) := by grind
/-- The double of a point. -/
theorem rep_dbl (C : Cv) {p : Pt} (hp : On C.d p) {a b u v e : F} (h : Rep C.s p.y a b) (hu : u = (a + b) * (a + b)) (hv : v = (a - b) * (a - b)) (he : e = u - v) : Rep C.s (padd C.d p p).y (u * v) (e * (u + 121665 * e)) := by
  obtain ⟨l, hl, rfl, rfl⟩ := h
  obtain ⟨_, n2⟩ := den_ne C.ns hp hp
  obtain ⟨x, y⟩ := p
  have hs := C.ss
  have h1 := one_sub_ne C.ns y
  simp only [On, padd] at hp n2 ⊢
  have i2 := mul_inv n2
  obtain ⟨z, hz⟩ : ∃ z, (y * y - x * x) * inv (1 - C.d * (x * x * y * y)) = z := ⟨_, rfl⟩
  have hzE : z * (1 - C.d * (x * x * y * y)) = y * y - x * x := by rw [← hz]; generalize inv (1 - C.d * (x * x * y * y)) = i at *; generalize 1 - C.d * (x * x * y * y) = E at *; grind
  rw [hz]
  have hc := dbl_c hs C.c1 C.c2 hp rfl hzE h1 n2
  have ha : u * v = 16 * (l * l * (l * l)) * (y * y) := by rw [hu, hv]; exact dbl_a hs
  have hb : e * (u + 121665 * e) = 8 * (l * l * (l * l)) * C.s * (1 - y * y) * (1 + y * y + 243331 * C.s * (1 - y * y)) := by rw [he]; exact dbl_b hs hu hv
  have h4 := pow4_ne hl
  rw [ha, hb]
  generalize l * l * (l * l) = L at *
  refine rep_of hs (dbl_h hs hc) ?_
  rintro ⟨e1, e2⟩
  have h16 : (16 : F) ≠ 0 := by decide
  have h8 : (8 : F) ≠ 0 := by decide
  have hy : y * y = 0 := (no_zero e1).resolve_left (mul_ne h16 h4)
  rw [hy, f_a0, f_s0, f_m1, f_m1] at e2
  have h5 := (no_zero e2).resolve_left (mul_ne (mul_ne h8 h4) (s_ne hs))
  have := C.c1
  rw [h5, f_0m] at this
  exact two_ne this.symm
theorem add_id {x1 y1 x2 y2 d D E m m' yp ym : F} (h1 : x1 * x1 + y1 * y1 = 1 + d * (x1 * x1) * (y1 * y1)) (h2 : x2 * x2 + y2 * y2 = 1 + d * (x2 * x2) * (y2 * y2)) (hE : E = 1 - d * (x1 * x2 * y1 * y2)) (hD : D = 1 + d * (x1 * x2 * y1 * y2)) (hm : m = y1 * y2 - x1 * x2) (hm' : m' = y1 * y2 + x1 * x2) :
    (y1 + y2) * (y1 + y2) * ((E - m) * (D - m')) = (y1 - y2) * (y1 - y2) * ((E + m) * (D + m')) := by subst hE hD hm hm'; grind
theorem add_id2 {q r E D m m' yp ym : F} (hE : E ≠ 0) (hD : D ≠ 0) (hp : yp * E = m) (hm : ym * D = m') (h : q * ((E - m) * (D - m')) = r * ((E + m) * (D + m'))) : q * ((1 - yp) * (1 - ym)) = r * ((1 + yp) * (1 + ym)) := by
  have : E * D * (q * ((1 - yp) * (1 - ym)) - r * ((1 + yp) * (1 + ym))) = 0 := by subst hp hm; grind
  rcases no_zero this with e | e
  · exact absurd e (mul_ne hE hD)
  · grind
end Go.Nt

/- The ladder of x-coordinates. -/
namespace Go.Nt

/-- The sum of two points whose difference is known. -/
theorem add_c {X Z x s yp ym l q r : F} (hs : s * s = 1) (hX : X = l * q) (hZ : Z = x * (l * r)) (hx : x * (1 - ym) = s * (1 + ym)) (h : q * ((1 - yp) * (1 - ym)) = r * ((1 + yp) * (1 + ym))) (hn : 1 - ym ≠ 0) : X * (1 - yp) = s * Z * (1 + yp) := by
  have : (1 - ym) * (X * (1 - yp) - s * Z * (1 + yp)) = 0 := by subst hX hZ; grind
  rcases no_zero this with e | e
  · exact absurd e hn
  · grind
theorem add_d {x1 x2 d y1 y2 : F} (h1 : y1 = 0) (h2 : y2 = 0) (o1 : x1 * x1 + y1 * y1 = 1 + d * (x1 * x1) * (y1 * y1)) (o2 : x2 * x2 + y2 * y2 = 1 + d * (x2 * x2) * (y2 * y2)) {w ym : F} (hw : (1 + d * (x1 * x2 * y1 * y2)) * w = 1) (hm : ym = (y1 * y2 + x1 * x2) * w) : ym * ym = 1 := by
  subst h1 h2
  simp only [f_m0, f_a0, f_0a] at o1 o2 hw hm
  have e : w = 1 := by grind
  rw [hm, e]
  grind
theorem two_zero {a b : F} (h1 : a + b = 0) (h2 : a - b = 0) : a = 0 ∧ b = 0 := by
  have e1 : 2 * a = 0 := by grind
  have e2 : 2 * b = 0 := by grind
  exact ⟨(no_zero e1).resolve_left two_ne, (no_zero e2).resolve_left two_ne⟩
theorem sq_zero {a : F} (h : a * a = 0) : a = 0 := (no_zero h).elim id id
theorem mc {z E i m : F} (hi : E * i = 1) (hz : m * i = z) : z * E = m := by subst hz; grind
theorem add_a' {s l k y z : F} (hs : s * s = 1) : (k * (s * (1 + z)) + k * (1 - z)) * (l * (s * (1 + y)) - l * (1 - y)) + (k * (s * (1 + z)) - k * (1 - z)) * (l * (s * (1 + y)) + l * (1 - y)) = 4 * (l * k) * (y + z) := by grind
theorem add_b' {s l k y z : F} (hs : s * s = 1) : (k * (s * (1 + z)) + k * (1 - z)) * (l * (s * (1 + y)) - l * (1 - y)) - (k * (s * (1 + z)) - k * (1 - z)) * (l * (s * (1 + y)) + l * (1 - y)) = 4 * (l * k) * s * (y - z) := by grind
theorem two_of {y : F} (h : 1 - y = 0) (h3 : 1 + y = 0) : (2 : F) = 0 := by
  have e : (2 : F) = (1 - y) + (1 + y) := by grind
  rw [e, h, h3, f_a0]
theorem f_ss (t : F) : t - t = 0 := by grind
theorem f_an (t : F) : t + -t = 0 := by grind
theorem sq_a {l k y z w : F} (h : w = 4 * (l * k) * (y + z)) : w * w = 16 * (l * k * (l * k)) * ((z + y) * (z + y)) := by subst h; grind
theorem sq_b {l k s y z w x : F} (hs : s * s = 1) (h : w = 4 * (l * k) * s * (y - z)) : x * (w * w) = x * (16 * (l * k * (l * k)) * ((z - y) * (z - y))) := by subst h; grind
theorem den_s {d a b c e : F} : 1 - d * (a * -b * c * e) = 1 + d * (a * b * c * e) := by grind
theorem num_s {a b c e : F} : c * e - a * -b = c * e + a * b := by grind
theorem rep_add (C : Cv) {p q : Pt} (hp : On C.d p) (hq : On C.d q) {x : F} (hx0 : x ≠ 0) {a b c e m n : F} (h1 : Rep C.s q.y a b) (h2 : Rep C.s p.y c e) (hm : m = (c + e) * (a - b)) (hn : n = (c - e) * (a + b))
    (hx : x * (1 - (padd C.d p (pneg q)).y) = C.s * (1 + (padd C.d p (pneg q)).y)) : Rep C.s (padd C.d p q).y ((m + n) * (m + n)) (x * ((m - n) * (m - n))) := by
  obtain ⟨l, hl, rfl, rfl⟩ := h1
  obtain ⟨k, hk, rfl, rfl⟩ := h2
  obtain ⟨n1, n2⟩ := den_ne C.ns hp hq
  obtain ⟨x1, y1⟩ := p
  obtain ⟨x2, y2⟩ := q
  have hs := C.ss
  simp only [On, padd, pneg] at hp hq n1 n2 hx ⊢
  have i1 := mul_inv n1
  have i2 := mul_inv n2
  rw [den_s, num_s] at hx
  obtain ⟨ym, hym⟩ : ∃ ym, (y1 * y2 + x1 * x2) * inv (1 + C.d * (x1 * x2 * y1 * y2)) = ym := ⟨_, rfl⟩
  obtain ⟨yp, hyp⟩ : ∃ yp, (y1 * y2 - x1 * x2) * inv (1 - C.d * (x1 * x2 * y1 * y2)) = yp := ⟨_, rfl⟩
  rw [hym] at hx
  rw [hyp]
  have hymE : ym * (1 + C.d * (x1 * x2 * y1 * y2)) = y1 * y2 + x1 * x2 := mc i1 hym
  have hypE : yp * (1 - C.d * (x1 * x2 * y1 * y2)) = y1 * y2 - x1 * x2 := mc i2 hyp
  have hid := add_id (yp := yp) (ym := ym) hp hq rfl rfl rfl rfl
  have hid2 := add_id2 n2 n1 hypE hymE hid
  have hn1 : 1 - ym ≠ 0 := by
    intro h
    rw [h, f_m0] at hx
    have h3 : 1 + ym = 0 := (no_zero hx.symm).resolve_left (s_ne hs)
    exact two_ne (two_of h h3)
  have em : m + n = 4 * (l * k) * (y2 + y1) := by rw [hm, hn]; exact add_a' hs
  have en : m - n = 4 * (l * k) * C.s * (y2 - y1) := by rw [hm, hn]; exact add_b' hs
  have eX : (m + n) * (m + n) = 16 * (l * k * (l * k)) * ((y1 + y2) * (y1 + y2)) := sq_a em
  have eZ : x * ((m - n) * (m - n)) = x * (16 * (l * k * (l * k)) * ((y1 - y2) * (y1 - y2))) := sq_b hs en
  have hL : (16 : F) * (l * k * (l * k)) ≠ 0 := mul_ne (by decide) (mul_ne (mul_ne hl hk) (mul_ne hl hk))
  rw [eX, eZ]
  refine rep_of hs (add_c hs rfl rfl hx hid2 hn1) ?_
  rintro ⟨e1, e2⟩
  have g1 := sq_zero ((no_zero e1).resolve_left hL)
  have g2 := sq_zero ((no_zero ((no_zero e2).resolve_left hx0)).resolve_left hL)
  obtain ⟨z1, z2⟩ := two_zero g1 g2
  have hq1 := add_d z1 z2 hp hq i1 hym.symm
  rcases sq_one hq1 with e | e
  · exact hn1 (by rw [e]; exact f_ss 1)
  · rw [e, f_an, f_m0] at hx
    have : (1 - -1 : F) ≠ 0 := by decide +kernel
    exact (mul_ne hx0 this) hx

theorem neg4 {a b c e : F} : -a * -b * c * e = a * b * c * e := by grind
theorem neg5 {a b c e i : F} : -((a * e + b * c) * i) = (-a * e + -b * c) * i := by grind
theorem neg6 {a b c e i : F} : (c * e - a * b) * i = (c * e - -a * -b) * i := by grind
/-- A rung of the ladder. -/
structure Ls where
  a : F
  b : F
  c : F
  d : F
def lswap (k : Bool) (s : Ls) : Ls := if k then ⟨s.c, s.d, s.a, s.b⟩ else s
def lstep (x : F) (s : Ls) : Ls :=
  let u := (s.a + s.b) * (s.a + s.b)
  let v := (s.a - s.b) * (s.a - s.b)
  let e := u - v
  let m := (s.c + s.d) * (s.a - s.b)
  let n := (s.c - s.d) * (s.a + s.b)
  ⟨u * v, e * (u + 121665 * e), (m + n) * (m + n), x * ((m - n) * (m - n))⟩
def lad (k : Nat) (x : F) : Nat → Ls
  | 0 => ⟨1, 0, x, 1⟩
  | i + 1 => lswap (k.testBit (254 - i)) (lstep x (lswap (k.testBit (254 - i)) (lad k x i)))
def lout (s : Ls) : F := s.a * inv s.b
def ladder (k : Nat) (x : F) : F := lout (lad k x 255)
/-- An x-coordinate. -/
def ux (s y : F) : F := s * (1 + y) * inv (1 - y)
theorem rep_out {s y a b : F} (h : Rep s y a b) : a * inv b = ux s y := by
  obtain ⟨l, hl, rfl, rfl⟩ := h
  unfold ux
  rw [inv_mul]
  have := mul_inv hl
  generalize inv (1 - y) = w
  generalize inv l = t at *
  grind
theorem rep_id (s : F) (hs : s * s = 1) : Rep s 1 1 0 := by
  have hw := mul_inv two_ne
  have hw0 : inv 2 ≠ 0 := by intro e; rw [e, f_m0] at hw; exact one_ne hw.symm
  refine ⟨s * inv 2, mul_ne (s_ne hs) hw0, ?_, ?_⟩
  · generalize inv 2 = w at *; grind
  · rw [f_ss, f_m0]
theorem half_bit (k i : Nat) (h : i < 255) : k / 2 ^ (255 - (i + 1)) = 2 * (k / 2 ^ (255 - i)) + (if k.testBit (254 - i) then 1 else 0) := by
  rw [show 255 - (i + 1) = 254 - i by omega, show 255 - i = 254 - i + 1 by omega, Nat.pow_succ, ← Nat.div_div_eq_div_mul, Nat.testBit_eq_decide_div_mod_eq]
  generalize k / 2 ^ (254 - i) = q
  by_cases hq : q % 2 = 1
  · rw [decide_eq_true hq, if_pos rfl]; omega
  · rw [decide_eq_false hq, if_neg (by decide)]; omega
theorem lad_inv (C : Cv) {p : Pt} (hp : On C.d p) {x : F} (hx0 : x ≠ 0) (hx : x * (1 - p.y) = C.s * (1 + p.y)) (k : Nat) (hk : k < 2 ^ 255) : ∀ i, i ≤ 255 →
    Rep C.s (smul C.d p (k / 2 ^ (255 - i))).y (lad k x i).a (lad k x i).b ∧ Rep C.s (smul C.d p (k / 2 ^ (255 - i) + 1)).y (lad k x i).c (lad k x i).d
  | 0, _ => by
    rw [Nat.sub_zero, Nat.div_eq_of_lt hk]
    refine ⟨rep_id _ C.ss, ?_⟩
    show Rep C.s (padd C.d pid p).y x 1
    rw [padd_id']
    exact rep_of C.ss (by rw [hx]; grind) (fun h => hx0 h.1)
  | i + 1, hi => by
    obtain ⟨h1, h2⟩ := lad_inv C hp hx0 hx k hk i (by omega)
    rw [half_bit k i (by omega)]
    generalize k / 2 ^ (255 - i) = t at *
    have ot := on_smul C.ns hp t
    have ot1 := on_smul C.ns hp (t + 1)
    have hd1 : padd C.d (smul C.d p (t + 1)) (pneg (smul C.d p t)) = p := by rw [smul, diff_eq C.ns hp ot]
    have hs2 : padd C.d (smul C.d p (t + 1)) (smul C.d p t) = smul C.d p (2 * t + 1) := by rw [← smul_add C.ns hp]; congr 1; omega
    rw [lad]
    generalize lad k x i = s at *
    cases hb : k.testBit (254 - i)
    · rw [if_neg (by decide), Nat.add_zero]
      refine ⟨?_, ?_⟩
      · have := rep_dbl C ot h1 rfl rfl rfl
        rw [← smul_add C.ns hp, ← Nat.two_mul] at this
        exact this
      · have := rep_add C ot1 ot hx0 h1 h2 rfl rfl (by rw [hd1]; exact hx)
        rw [hs2] at this
        exact this
    · rw [if_pos rfl]
      have hd2 : padd C.d (smul C.d p t) (pneg (smul C.d p (t + 1))) = pneg p := by
        have e1 : ∀ a b : Pt, pneg (padd C.d a b) = padd C.d (pneg a) (pneg b) := by
          intro a b
          simp only [padd, pneg, Pt.mk.injEq]
          rw [show -a.x * -b.x * a.y * b.y = a.x * b.x * a.y * b.y from neg4]
          exact ⟨neg5, neg6⟩
        have e2 : ∀ a : Pt, pneg (pneg a) = a := by intro a; simp only [pneg]; rw [show - -a.x = a.x by grind]
        have e3 : pneg p = padd C.d (pneg (smul C.d p (t + 1))) (pneg (pneg (smul C.d p t))) := by rw [← e1, hd1]
        rw [e3, e2, padd_comm]
      refine ⟨?_, ?_⟩
      · have := rep_add C ot ot1 hx0 h2 h1 rfl rfl (by rw [hd2]; exact hx)
        rw [padd_comm, hs2] at this
        exact this
      · have := rep_dbl C ot1 h2 rfl rfl rfl
        rw [← smul_add C.ns hp, show t + 1 + (t + 1) = 2 * t + 1 + 1 by omega] at this
        exact this
/-- The ladder gives the x-coordinate of the multiple. -/
theorem ladder_eq (C : Cv) {p : Pt} (hp : On C.d p) {x : F} (hx0 : x ≠ 0) (hx : x * (1 - p.y) = C.s * (1 + p.y)) (k : Nat) (hk : k < 2 ^ 255) : ladder k x = ux C.s (smul C.d p k).y := by
  have h := (lad_inv C hp hx0 hx k hk 255 (Nat.le_refl _)).1
  rw [Nat.sub_self, Nat.pow_zero, Nat.div_one] at h
  exact rep_out h
end Go.Nt

