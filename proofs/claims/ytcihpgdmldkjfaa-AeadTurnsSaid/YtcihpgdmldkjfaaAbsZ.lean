/- The abstract machine: rules for calls, and for a body's end. -/
import Derived.Test.YtcihpgdmldkjfaaAbsY
namespace Go.Abs
open Go

section
variable {P : Program} {fr : List S} {H H' : Heap} {K : S → Heap → Prop} {o : Oper} {π : List Nat} {lend : Bool}

/-- Arguments, and what the callee sees of them. -/
def CA (fr : List S) (H : Heap) (π : List Nat) (lend : Bool) (l : List Operand) (ys : List V) : Prop := ∃ avs, argVs fr l = some avs ∧ avs.map (vm (cm (cin π lend H) 8)) = ys
theorem ca0 : CA fr H π lend [] [] := ⟨[], rfl, rfl⟩
theorem cac {x : Operand} {r : List Operand} {c c' : Cell} {ys : List V} (hx : ev fr x = sc c) (hc : cm (cin π lend H) 8 c = c') (hr : CA fr H π lend r ys) : CA fr H π lend (x :: r) (.c c' :: ys) := by
  obtain ⟨avs, h1, h2⟩ := hr
  exact ⟨.c c :: avs, by simp only [argVs, hx, h1], by simp only [List.map_cons, vm, hc, h2]⟩
theorem caa {x : Operand} {r : List Operand} {xs xs' : List Cell} {ys : List V} (hx : ev fr x = sa xs) (hc : xs.map (cm (cin π lend H) 8) = xs') (hr : CA fr H π lend r ys) : CA fr H π lend (x :: r) (.a xs' :: ys) := by
  obtain ⟨avs, h1, h2⟩ := hr
  exact ⟨.a xs :: avs, by simp only [argVs, hx, h1], by simp only [List.map_cons, vm, hc, h2]⟩

/-- What the callee sees of a cell. -/
theorem sees_ro8 {n : Nat} {l : List UInt8} : cm (cin π lend H) 8 (.ro n (u8s l)) = .ro n (u8s l) := by simp [cm, cin, mapc]
theorem sees_slc8 {p q n : Nat} {cs : List Cell} {l : List UInt8} (hi : idx p π = none) (hp : H[p]? = some (some cs)) (hc : (cs.drop q).take n = u8s l) : cm (cin π true H) 8 (.slc p q n 1) = .ro n (u8s l) := by
  simp only [cm, cin, hi, joinH, hp, if_true, Nat.mul_one, hc]
  simp [mapc]
theorem sees_ro {α : Type} {k : IntKind} {g : α → Int} {n : Nat} {l : List α} : cm (cin π lend H) 8 (.ro n (mapc k g l)) = .ro n (mapc k g l) := by simp [cm, cin, mapc]
theorem sees_slc {α : Type} {k : IntKind} {g : α → Int} {p q n sz : Nat} {cs : List Cell} {l : List α} (hi : idx p π = none) (hp : H[p]? = some (some cs)) (hc : (cs.drop q).take (n * sz) = mapc k g l) : cm (cin π true H) 8 (.slc p q n sz) = .ro n (mapc k g l) := by
  simp only [cm, cin, hi, joinH, hp, if_true, hc]
  simp [mapc]
theorem sees_m {α : Type} {k : IntKind} {g : α → Int} {l : List α} {m : CM} {d : Nat} : (mapc k g l).map (cm m d) = mapc k g l := mapc_cm m d l

theorem sees_ptr {p o : Nat} {cs cs' : List Cell} (hi : idx p π = none) (hp : H[p]? = some (some cs)) (hne : cs.isEmpty = false) (hc : (cs.drop o).map (cm (cin π true H) 7) = cs') : cm (cin π true H) 8 (.ptr p o) = .rop cs' := by
  subst hc
  simp only [cm, cin, hi, joinH, hp, if_true, hne]
  rfl
theorem sees_nil : cm (cin π true H) 8 .nils = .ro 0 [] := rfl
theorem sees_nil8 : cm (cin π true H) 8 .nils = .ro 0 (u8s []) := rfl

/-! What the caller has of a result. -/
section
variable {m : CM} {k : IntKind} {n : Int} {b : Bool} {x y z x' y' z' w w' : V} {f : Cell → Cell}
theorem rs_int : sm (cm m 8) (sc (.int k n)) = sc (.int k n) := rfl
theorem rs_bool : sm (cm m 8) (sc (.bool b)) = sc (.bool b) := rfl
theorem rs_str {s : ByteArray} : sm (cm m 8) (sc (.str s)) = sc (.str s) := rfl
theorem rs_nilp : sm (cm m 8) (sc .nilp) = sc .nilp := rfl
theorem rs_m {α : Type} {g : α → Int} {l : List α} : sm (cm m 8) (sa (mapc k g l)) = sa (mapc k g l) := by
  show S.v (.a ((mapc k g l).map (cm m 8))) = _
  rw [mapc_cm]
theorem vs_int : vm (cm m 8) (.c (.int k n)) = .c (.int k n) := rfl
theorem vs_bool : vm (cm m 8) (.c (.bool b)) = .c (.bool b) := rfl
theorem vs_str {s : ByteArray} : vm (cm m 8) (.c (.str s)) = .c (.str s) := rfl
theorem vs_nilp : vm (cm m 8) (.c .nilp) = .c .nilp := rfl
theorem vs_m {α : Type} {g : α → Int} {l : List α} : vm (cm m 8) (.a (mapc k g l)) = .a (mapc k g l) := by
  show V.a ((mapc k g l).map (cm m 8)) = _
  rw [mapc_cm]
theorem vt0 : sm f (.t []) = .t [] := rfl
theorem vt2 (h1 : vm f x = x') (h2 : vm f y = y') : sm f (.t [x, y]) = .t [x', y'] := by simp [sm, h1, h2]
theorem vt3 (h1 : vm f x = x') (h2 : vm f y = y') (h3 : vm f z = z') : sm f (.t [x, y, z]) = .t [x', y', z'] := by simp [sm, h1, h2, h3]
theorem vt4 (h1 : vm f x = x') (h2 : vm f y = y') (h3 : vm f z = z') (h4 : vm f w = w') : sm f (.t [x, y, z, w]) = .t [x', y', z', w'] := by simp [sm, h1, h2, h3, h4]
theorem rs_nils {l : List Nat} {j : Nat} : sm (cm (cout l true j) 8) (sc .nils) = sc .nils := rfl
theorem vs_nils {l : List Nat} {j : Nat} : vm (cm (cout l true j) 8) (.c .nils) = .c .nils := rfl
theorem rs_new {j q n sz : Nat} : sm (cm (cout [] true j) 8) (sc (.slc 0 q n sz)) = sc (.slc j q n sz) := rfl
theorem vs_new {j q n sz : Nat} : vm (cm (cout [] true j) 8) (.c (.slc 0 q n sz)) = .c (.slc j q n sz) := rfl
theorem rs_newp {j q : Nat} : sm (cm (cout [] true j) 8) (sc (.ptr 0 q)) = sc (.ptr j q) := rfl
theorem vs_newp {j q : Nat} : vm (cm (cout [] true j) 8) (.c (.ptr 0 q)) = .c (.ptr j q) := rfl
end

theorem r_call {f : Operand} {args : Array Operand} {ats : Array TypeId} {k : Nat} {caps : List Cell} {avs : List V} {v s : S} {Hl Hl' : Heap} {args' : List V} (π : List Nat) (lend : Bool) (ho : o.op = .call ⟨.value f, args, ats⟩) (hf : ev fr f = sc (.fn k caps)) (ha : argVs fr args.toList = some avs)
    (hnd : π.Nodup) (hπ : ∀ p ∈ π, p < H.length) (e1 : (avs ++ caps.map V.c).map (vm (cm (cin π lend H) 8)) = args') (e2 : π.map (pick H (cm (cin π lend H) 8)) = Hl) (hg : Good P k args' Hl v Hl')
    (e3 : sm (cm (cout π lend H.length) 8) v = s) (e4 : back π (cm (cout π lend H.length) 8) H Hl' = H') (h : K s H') : ostep P o fr H K := by
  subst e1; subst e2; subst e3; subst e4
  simp only [ostep, ho, callO, hf, ha]
  exact .inl ⟨π, lend, v, Hl', hnd, hπ, hg, h⟩

theorem back_nil (f : Cell → Cell) (H Hl : Heap) : back [] f H Hl = H ++ picks f Hl := by
  have : ∀ (H : Heap) (p : Nat), putB [] f Hl p H = H := by
    intro H
    induction H with
    | nil => intro p; rfl
    | cons b r ih => intro p; simp only [putB, pbk, idx, ih]
  simp [back, this]

/-- A call of a function that is handed no memory to write, and leaves none. -/
theorem r_callp {f : Nat} {args : Array Operand} {ats : Array TypeId} {v s : S} {args' : List V} (ho : o.op = .call ⟨.value (.func f), args, ats⟩) (ha : CA fr H [] true args.toList args') (hg : Good P f args' [] v [])
    (e3 : sm (cm (cout [] true H.length) 8) v = s) (h : K s H) : ostep P o fr H K := by
  obtain ⟨avs, h1, h2⟩ := ha
  exact r_call [] true ho rfl h1 List.nodup_nil (by simp) (by simpa using h2) rfl hg e3 (by rw [back_nil]; simp [picks]) h
/-- One that makes a block of numbers or the like. -/
theorem r_calln {f m : Nat} {args : Array Operand} {ats : Array TypeId} {v s : S} {cs : List Cell} {args' : List V} (ho : o.op = .call ⟨.value (.func f), args, ats⟩) (ha : CA fr H [] true args.toList args') (hg : Good P f args' [] v [some cs])
    (hm : H.length = m) (hcs : cs.map (cm (cout [] true m) 8) = cs) (e3 : sm (cm (cout [] true m) 8) v = s) (h : K s (H ++ [some cs])) : ostep P o fr H K := by
  subst hm
  obtain ⟨avs, h1, h2⟩ := ha
  exact r_call [] true ho rfl h1 List.nodup_nil (by simp) (by simpa using h2) rfl hg e3 (by rw [back_nil]; simp [picks, hcs]) h
/-- One that is handed one block to write. -/
theorem r_callw {f : Nat} {args : Array Operand} {ats : Array TypeId} {v s : S} {cs cs' ds ds' : List Cell} {args' : List V} (p : Nat) (ho : o.op = .call ⟨.value (.func f), args, ats⟩) (ha : CA fr H [p] true args.toList args') (hp : H[p]? = some (some cs)) (hcs : cs.map (cm (cin [p] true H) 8) = cs')
    (hg : Good P f args' [some cs'] v [some ds]) (hds : ds.map (cm (cout [p] true H.length) 8) = ds') (e3 : sm (cm (cout [p] true H.length) 8) v = s) (h : K s (H.set p (some ds'))) : ostep P o fr H K := by
  obtain ⟨avs, h1, h2⟩ := ha
  have hlt : p < H.length := (List.getElem?_eq_some_iff.1 hp).1
  refine r_call [p] true ho rfl h1 (by simp) (by simpa using hlt) (by simpa using h2) (by simp [pick, hp, hcs]) hg e3 ?_ h
  apply List.ext_getElem?
  intro j
  rw [back, List.drop_of_length_le (by simp)]
  simp only [picks, List.append_nil]
  rw [putB_get, List.getElem?_set, Nat.zero_add]
  by_cases hj : p = j
  · subst hj
    simp [hlt, pbk, idx, pick, hds]
  · rw [if_neg hj]
    cases H[j]? <;> simp [pbk, idx, hj]
/-! Slices, by their bounds. -/
section
variable {t : TypeId} {ti : TI} {a : Operand}
theorem r_sls_no {p q n e sz : Nat} {ei : TI}  (ho : o.op = .slice t a none none none) (ht : tiOf P t = some ti) (hk : ti.kind = .slice e) (he : tiOf P e = some ei) (hx : ev fr a = sc (.slc p q n sz)) (hsz : sz = ei.size)  (h : K (sc (.slc p (q) (n) sz)) H) : ostep P o fr H K :=
  r_sls ho ht hk he hx hsz oi_no oi_no oi_no (bn_no (by simpa using h))
theorem r_sls_lo {p q n e sz : Nat} {ei : TI} {j : Nat} {x : Operand} (ho : o.op = .slice t a (some x) none none) (ht : tiOf P t = some ti) (hk : ti.kind = .slice e) (he : tiOf P e = some ei) (hx : ev fr a = sc (.slc p q n sz)) (hsz : sz = ei.size) (hj : ev fr x = sc (cn j)) (hb : j ≤ n) (h : K (sc (.slc p (q + j * sz) (n - j) sz)) H) : ostep P o fr H K :=
  r_sls ho ht hk he hx hsz (oi_n hj) oi_no oi_no (bn_lo hb (by simpa using h))
theorem r_sls_hi {p q n e sz : Nat} {ei : TI} {k : Nat} {y : Operand} (ho : o.op = .slice t a none (some y) none) (ht : tiOf P t = some ti) (hk : ti.kind = .slice e) (he : tiOf P e = some ei) (hx : ev fr a = sc (.slc p q n sz)) (hsz : sz = ei.size) (hk' : ev fr y = sc (cn k)) (hb : k ≤ n) (h : K (sc (.slc p (q) (k) sz)) H) : ostep P o fr H K :=
  r_sls ho ht hk he hx hsz oi_no (oi_n hk') oi_no (bn_hi hb (by simpa using h))
theorem r_sls_lh {p q n e sz : Nat} {ei : TI} {j k : Nat} {x y : Operand} (ho : o.op = .slice t a (some x) (some y) none) (ht : tiOf P t = some ti) (hk : ti.kind = .slice e) (he : tiOf P e = some ei) (hx : ev fr a = sc (.slc p q n sz)) (hsz : sz = ei.size) (hj : ev fr x = sc (cn j)) (hk' : ev fr y = sc (cn k)) (hb : j ≤ k ∧ k ≤ n) (h : K (sc (.slc p (q + j * sz) (k - j) sz)) H) : ostep P o fr H K :=
  r_sls ho ht hk he hx hsz (oi_n hj) (oi_n hk') oi_no (bn hb (by simpa using h))
theorem r_sls_mx {p q n e sz : Nat} {ei : TI} {k m : Nat} {y z : Operand} (ho : o.op = .slice t a none (some y) (some z)) (ht : tiOf P t = some ti) (hk : ti.kind = .slice e) (he : tiOf P e = some ei) (hx : ev fr a = sc (.slc p q n sz)) (hsz : sz = ei.size) (hk' : ev fr y = sc (cn k)) (hm : ev fr z = sc (cn m)) (hb : k ≤ m ∧ m ≤ n) (h : K (sc (.slc p (q) (k) sz)) H) : ostep P o fr H K :=
  r_sls ho ht hk he hx hsz oi_no (oi_n hk') (oi_n hm) (bn_mx hb (by simpa using h))
theorem r_slo_no {n e : Nat} {cs xs : List Cell} {ei : TI}  (ho : o.op = .slice t a none none none) (ht : tiOf P t = some ti) (hk : ti.kind = .slice e) (he : tiOf P e = some ei) (hx : ev fr a = sc (.ro n cs))  (hc : (cs.drop (0 * ei.size)).take ((n) * ei.size) = xs) (h : K (sc (.ro (n) xs)) H) : ostep P o fr H K :=
  r_slo ho ht hk he hx oi_no oi_no oi_no (bn_no (by subst hc; simpa using h))
theorem r_slo_lo {n e : Nat} {cs xs : List Cell} {ei : TI} {j : Nat} {x : Operand} (ho : o.op = .slice t a (some x) none none) (ht : tiOf P t = some ti) (hk : ti.kind = .slice e) (he : tiOf P e = some ei) (hx : ev fr a = sc (.ro n cs)) (hj : ev fr x = sc (cn j)) (hb : j ≤ n) (hc : (cs.drop (j * ei.size)).take ((n - j) * ei.size) = xs) (h : K (sc (.ro (n - j) xs)) H) : ostep P o fr H K :=
  r_slo ho ht hk he hx (oi_n hj) oi_no oi_no (bn_lo hb (by subst hc; simpa using h))
theorem r_slo_hi {n e : Nat} {cs xs : List Cell} {ei : TI} {k : Nat} {y : Operand} (ho : o.op = .slice t a none (some y) none) (ht : tiOf P t = some ti) (hk : ti.kind = .slice e) (he : tiOf P e = some ei) (hx : ev fr a = sc (.ro n cs)) (hk' : ev fr y = sc (cn k)) (hb : k ≤ n) (hc : (cs.drop (0 * ei.size)).take ((k) * ei.size) = xs) (h : K (sc (.ro (k) xs)) H) : ostep P o fr H K :=
  r_slo ho ht hk he hx oi_no (oi_n hk') oi_no (bn_hi hb (by subst hc; simpa using h))
theorem r_slo_lh {n e : Nat} {cs xs : List Cell} {ei : TI} {j k : Nat} {x y : Operand} (ho : o.op = .slice t a (some x) (some y) none) (ht : tiOf P t = some ti) (hk : ti.kind = .slice e) (he : tiOf P e = some ei) (hx : ev fr a = sc (.ro n cs)) (hj : ev fr x = sc (cn j)) (hk' : ev fr y = sc (cn k)) (hb : j ≤ k ∧ k ≤ n) (hc : (cs.drop (j * ei.size)).take ((k - j) * ei.size) = xs) (h : K (sc (.ro (k - j) xs)) H) : ostep P o fr H K :=
  r_slo ho ht hk he hx (oi_n hj) (oi_n hk') oi_no (bn hb (by subst hc; simpa using h))
theorem r_slo_mx {n e : Nat} {cs xs : List Cell} {ei : TI} {k m : Nat} {y z : Operand} (ho : o.op = .slice t a none (some y) (some z)) (ht : tiOf P t = some ti) (hk : ti.kind = .slice e) (he : tiOf P e = some ei) (hx : ev fr a = sc (.ro n cs)) (hk' : ev fr y = sc (cn k)) (hm : ev fr z = sc (cn m)) (hb : k ≤ m ∧ m ≤ n) (hc : (cs.drop (0 * ei.size)).take ((k) * ei.size) = xs) (h : K (sc (.ro (k) xs)) H) : ostep P o fr H K :=
  r_slo ho ht hk he hx oi_no (oi_n hk') (oi_n hm) (bn_mx hb (by subst hc; simpa using h))
theorem r_slp_no {p q n e : Nat} {cs : List Cell} {ei : TI}  (ho : o.op = .slice t a none none none) (ht : tiOf P t = some ti) (hk : ti.kind = .array n e) (he : tiOf P e = some ei) (hx : ev fr a = sc (.ptr p q)) (hp : H[p]? = some (some cs)) (hs : Nat.blt 0 ei.size = true) (hl : q + n * ei.size ≤ cs.length)  (h : K (sc (.slc p (q) (n) ei.size)) H) : ostep P o fr H K :=
  r_slp ho ht hk he hx hp hs hl oi_no oi_no oi_no (bn_no (by simpa using h))
theorem r_slp_lo {p q n e : Nat} {cs : List Cell} {ei : TI} {j : Nat} {x : Operand} (ho : o.op = .slice t a (some x) none none) (ht : tiOf P t = some ti) (hk : ti.kind = .array n e) (he : tiOf P e = some ei) (hx : ev fr a = sc (.ptr p q)) (hp : H[p]? = some (some cs)) (hs : Nat.blt 0 ei.size = true) (hl : q + n * ei.size ≤ cs.length) (hj : ev fr x = sc (cn j)) (hb : j ≤ n) (h : K (sc (.slc p (q + j * ei.size) (n - j) ei.size)) H) : ostep P o fr H K :=
  r_slp ho ht hk he hx hp hs hl (oi_n hj) oi_no oi_no (bn_lo hb (by simpa using h))
theorem r_slp_hi {p q n e : Nat} {cs : List Cell} {ei : TI} {k : Nat} {y : Operand} (ho : o.op = .slice t a none (some y) none) (ht : tiOf P t = some ti) (hk : ti.kind = .array n e) (he : tiOf P e = some ei) (hx : ev fr a = sc (.ptr p q)) (hp : H[p]? = some (some cs)) (hs : Nat.blt 0 ei.size = true) (hl : q + n * ei.size ≤ cs.length) (hk' : ev fr y = sc (cn k)) (hb : k ≤ n) (h : K (sc (.slc p (q) (k) ei.size)) H) : ostep P o fr H K :=
  r_slp ho ht hk he hx hp hs hl oi_no (oi_n hk') oi_no (bn_hi hb (by simpa using h))
theorem r_slp_lh {p q n e : Nat} {cs : List Cell} {ei : TI} {j k : Nat} {x y : Operand} (ho : o.op = .slice t a (some x) (some y) none) (ht : tiOf P t = some ti) (hk : ti.kind = .array n e) (he : tiOf P e = some ei) (hx : ev fr a = sc (.ptr p q)) (hp : H[p]? = some (some cs)) (hs : Nat.blt 0 ei.size = true) (hl : q + n * ei.size ≤ cs.length) (hj : ev fr x = sc (cn j)) (hk' : ev fr y = sc (cn k)) (hb : j ≤ k ∧ k ≤ n) (h : K (sc (.slc p (q + j * ei.size) (k - j) ei.size)) H) : ostep P o fr H K :=
  r_slp ho ht hk he hx hp hs hl (oi_n hj) (oi_n hk') oi_no (bn hb (by simpa using h))
theorem r_slp_mx {p q n e : Nat} {cs : List Cell} {ei : TI} {k m : Nat} {y z : Operand} (ho : o.op = .slice t a none (some y) (some z)) (ht : tiOf P t = some ti) (hk : ti.kind = .array n e) (he : tiOf P e = some ei) (hx : ev fr a = sc (.ptr p q)) (hp : H[p]? = some (some cs)) (hs : Nat.blt 0 ei.size = true) (hl : q + n * ei.size ≤ cs.length) (hk' : ev fr y = sc (cn k)) (hm : ev fr z = sc (cn m)) (hb : k ≤ m ∧ m ≤ n) (h : K (sc (.slc p (q) (k) ei.size)) H) : ostep P o fr H K :=
  r_slp ho ht hk he hx hp hs hl oi_no (oi_n hk') (oi_n hm) (bn_mx hb (by simpa using h))
theorem r_slr_no {n e : Nat} {cs xs : List Cell} {ei : TI}  (ho : o.op = .slice t a none none none) (ht : tiOf P t = some ti) (hk : ti.kind = .array n e) (he : tiOf P e = some ei) (hx : ev fr a = sc (.rop cs))  (hc : (cs.drop (0 * ei.size)).take ((n) * ei.size) = xs) (h : K (sc (.ro (n) xs)) H) : ostep P o fr H K :=
  r_slr ho ht hk he hx oi_no oi_no oi_no (bn_no (by subst hc; simpa using h))
theorem r_slr_lo {n e : Nat} {cs xs : List Cell} {ei : TI} {j : Nat} {x : Operand} (ho : o.op = .slice t a (some x) none none) (ht : tiOf P t = some ti) (hk : ti.kind = .array n e) (he : tiOf P e = some ei) (hx : ev fr a = sc (.rop cs)) (hj : ev fr x = sc (cn j)) (hb : j ≤ n) (hc : (cs.drop (j * ei.size)).take ((n - j) * ei.size) = xs) (h : K (sc (.ro (n - j) xs)) H) : ostep P o fr H K :=
  r_slr ho ht hk he hx (oi_n hj) oi_no oi_no (bn_lo hb (by subst hc; simpa using h))
theorem r_slr_hi {n e : Nat} {cs xs : List Cell} {ei : TI} {k : Nat} {y : Operand} (ho : o.op = .slice t a none (some y) none) (ht : tiOf P t = some ti) (hk : ti.kind = .array n e) (he : tiOf P e = some ei) (hx : ev fr a = sc (.rop cs)) (hk' : ev fr y = sc (cn k)) (hb : k ≤ n) (hc : (cs.drop (0 * ei.size)).take ((k) * ei.size) = xs) (h : K (sc (.ro (k) xs)) H) : ostep P o fr H K :=
  r_slr ho ht hk he hx oi_no (oi_n hk') oi_no (bn_hi hb (by subst hc; simpa using h))
theorem r_slr_lh {n e : Nat} {cs xs : List Cell} {ei : TI} {j k : Nat} {x y : Operand} (ho : o.op = .slice t a (some x) (some y) none) (ht : tiOf P t = some ti) (hk : ti.kind = .array n e) (he : tiOf P e = some ei) (hx : ev fr a = sc (.rop cs)) (hj : ev fr x = sc (cn j)) (hk' : ev fr y = sc (cn k)) (hb : j ≤ k ∧ k ≤ n) (hc : (cs.drop (j * ei.size)).take ((k - j) * ei.size) = xs) (h : K (sc (.ro (k - j) xs)) H) : ostep P o fr H K :=
  r_slr ho ht hk he hx (oi_n hj) (oi_n hk') oi_no (bn hb (by subst hc; simpa using h))
theorem r_slr_mx {n e : Nat} {cs xs : List Cell} {ei : TI} {k m : Nat} {y z : Operand} (ho : o.op = .slice t a none (some y) (some z)) (ht : tiOf P t = some ti) (hk : ti.kind = .array n e) (he : tiOf P e = some ei) (hx : ev fr a = sc (.rop cs)) (hk' : ev fr y = sc (cn k)) (hm : ev fr z = sc (cn m)) (hb : k ≤ m ∧ m ≤ n) (hc : (cs.drop (0 * ei.size)).take ((k) * ei.size) = xs) (h : K (sc (.ro (k) xs)) H) : ostep P o fr H K :=
  r_slr ho ht hk he hx oi_no (oi_n hk') (oi_n hm) (bn_mx hb (by subst hc; simpa using h))
end
end

/-! A body's end. -/
section
variable {P : Program} {st : St} {K : List V → Prop}
theorem rk0 (h : K []) : resK P st [] K := h
theorem rkt {t : Nat} {x : V} {r : List ResultVar} (hx : ev st.fr (.tmp t) = .v x) (h : resK P st r fun xs => K (x :: xs)) : resK P st (.tmp t :: r) K := by
  simp only [resK, hx]; exact h
theorem rkc {a t p q : Nat} {ti : TI} {cs : List Cell} {c : Cell} {r : List ResultVar} (ht : tiOf P t = some ti) (hx : ev st.fr (.tmp a) = sc (.ptr p q)) (hp : st.H[p]? = some (some cs)) (hc : cs[q]? = some c) (hk : ldOk ti.kind c = true) (h : resK P st r fun xs => K (.c c :: xs)) : resK P st (.cell a t :: r) K := by
  simp only [resK]; exact loadP ht hx hp hc hk h
theorem rka {a t p : Nat} {ti : TI} {cs : List Cell} {r : List ResultVar} (ht : tiOf P t = some ti) (hk : ti.kind.agg = true) (hz : Nat.blt 0 ti.size = true) (hx : ev st.fr (.tmp a) = sc (.ptr p 0)) (hp : st.H[p]? = some (some cs)) (hl : cs.length = ti.size) (h : resK P st r fun xs => K (.a cs :: xs)) : resK P st (.cell a t :: r) K := by
  simp only [resK]; exact loadA ht hk hz hx hp (by omega) (by rw [List.drop_zero, ← hl, List.take_length]) h

variable {fn : Func} {v : S} {H' : Heap}
/-- The end, where the results are these. -/
theorem fin_of {n : Nat} (π : List Nat) (hn : ∀ p, p < n → π[p]? = some p) (hnd : π.Nodup) {l : List ResultVar} (hl : fn.results.toList = l) {xs : List V} (hr : ∀ K : List V → Prop, K xs → resK P st l K)
    (hv : v = sm (cm ⟨fun p => idx p π, fun _ => none, true, false⟩ 8) (packR xs)) (hH : H' = π.map (pick st.H (cm ⟨fun p => idx p π, fun _ => none, true, false⟩ 8))) : fin P fn n v H' st := by
  unfold fin
  rw [hl]
  exact hr _ ⟨π, hn, hnd, hv, hH⟩
/-- The end of a function that was handed no memory and leaves none. -/
theorem fin_p {l : List ResultVar} (hl : fn.results.toList = l) {xs : List V} (hr : ∀ K : List V → Prop, K xs → resK P st l K)
    (hv : v = sm (cm ⟨fun _ => none, fun _ => none, true, false⟩ 8) (packR xs)) : fin P fn 0 v [] st :=
  fin_of [] (by simp) List.nodup_nil hl hr hv rfl
/-- Of one that leaves one block. -/
theorem fin_n {l : List ResultVar} (q : Nat) (hl : fn.results.toList = l) {xs : List V} (hr : ∀ K : List V → Prop, K xs → resK P st l K) {cs cs' : List Cell} (hq : st.H[q]? = some (some cs)) (hc : cs.map (cm ⟨fun p => idx p [q], fun _ => none, true, false⟩ 8) = cs')
    (hv : v = sm (cm ⟨fun p => idx p [q], fun _ => none, true, false⟩ 8) (packR xs)) : fin P fn 0 v [some cs'] st :=
  fin_of [q] (by simp) (by simp) hl hr hv (by simp [pick, hq, hc])
theorem end_ret {n n0 : Nat} (h : fin P fn n v H' st) : AWp P n0 .ret (ended P fn n v H') st := awp_ret h
end
/-- The parts' cells, as a slice of them holds them. -/
def pcs (ps : List (List UInt8)) : List Cell := ps.map fun l => .ro l.length (u8s l)
theorem pcs_at {ps : List (List UInt8)} {i : Nat} (h : i < ps.length) : (pcs ps)[i]? = some (.ro (ps.getD i []).length (u8s (ps.getD i []))) := by
  simp [pcs, List.getD_eq_getElem?_getD, h]
theorem rs_pcs {n : Nat} {ps : List (List UInt8)} {f : Nat → Option Nat} {x : Nat → Option (List Cell)} {b : Bool} : sm (cm ⟨f, x, true, b⟩ 8) (sc (.ro n (pcs ps))) = sc (.ro n (pcs ps)) := by
  show S.v (.c (.ro n ((pcs ps).map (cm ⟨f, x, true, b⟩ 7)))) = _
  congr 3
  simp only [pcs, List.map_map]
  apply List.map_congr_left
  intro l _
  show Cell.ro l.length ((u8s l).map (cm ⟨f, x, true, b⟩ 6)) = _
  rw [mapc_cm]
def fl (ps : List (List UInt8)) (i : Nat) : List UInt8 := (ps.take i).flatten
theorem fl_succ (ps : List (List UInt8)) (i : Nat) (h : i < ps.length) : fl ps (i + 1) = fl ps i ++ ps.getD i [] := by
  unfold fl
  rw [List.take_succ_eq_append_getElem h, List.flatten_append]
  simp [List.getD_eq_getElem?_getD, h]
theorem fl_le (ps : List (List UInt8)) (i : Nat) (h : i < ps.length) : (fl ps i).length + (ps.getD i []).length ≤ ps.flatten.length := by
  have e : ps.flatten = fl ps (i + 1) ++ (ps.drop (i + 1)).flatten := by rw [fl, ← List.flatten_append, List.take_append_drop]
  rw [e, fl_succ ps i h]
  simp only [List.length_append]
  omega

theorem sees_parts {π : List Nat} {H : Heap} {p q n : Nat} {cs : List Cell} {ps : List (List UInt8)} (hi : idx p π = none) (hp : H[p]? = some (some cs)) (hc : ((cs.drop q).take (n * 1)).map (cm (cin π true H) 7) = pcs ps) : cm (cin π true H) 8 (.slc p q n 1) = .ro n (pcs ps) := by
  rw [← hc]
  simp only [cm, cin, hi, joinH, hp, if_true]
theorem pq0 {f : Cell → Cell} : ([] : List Cell).map f = pcs [] := rfl
theorem pq_ro {π : List Nat} {H : Heap} {d n : Nat} {l : List UInt8} {cs : List Cell} {ps : List (List UInt8)} (hn : l.length = n) (h : cs.map (cm (cin π true H) (d + 1)) = pcs ps) : (.ro n (u8s l) :: cs).map (cm (cin π true H) (d + 1)) = pcs (l :: ps) := by
  rw [List.map_cons, h]
  have e : cm (cin π true H) (d + 1) (.ro n (u8s l)) = .ro n ((u8s l).map (cm (cin π true H) d)) := by simp only [cm, cin, if_true]
  rw [e, mapc_cm, ← hn]; rfl
theorem pq_nil {π : List Nat} {H : Heap} {d : Nat} {cs : List Cell} {ps : List (List UInt8)} (h : cs.map (cm (cin π true H) (d + 1)) = pcs ps) : (.nils :: cs).map (cm (cin π true H) (d + 1)) = pcs ([] :: ps) := by
  rw [List.map_cons, h]; rfl
theorem pq_slc {π : List Nat} {H : Heap} {d p q n : Nat} {l : List UInt8} {c cs : List Cell} {ps : List (List UInt8)} (hi : idx p π = none) (hp : H[p]? = some (some c)) (hc : (c.drop q).take (n * 1) = u8s l) (hn : l.length = n) (h : cs.map (cm (cin π true H) (d + 1)) = pcs ps) : (.slc p q n 1 :: cs).map (cm (cin π true H) (d + 1)) = pcs (l :: ps) := by
  rw [List.map_cons, h]
  have e : cm (cin π true H) (d + 1) (.slc p q n 1) = .ro n ((u8s l).map (cm (cin π true H) d)) := by
    rw [← hc]; simp only [cm, cin, hi, joinH, hp, if_true]
  rw [e, mapc_cm, ← hn]; rfl
section
variable {m : CM}
theorem cm_int {k : IntKind} {n : Int} : cm m 8 (.int k n) = .int k n := rfl
theorem cm_bool {b : Bool} : cm m 8 (.bool b) = .bool b := rfl
theorem cm_str {s : ByteArray} : cm m 8 (.str s) = .str s := rfl
theorem cm_nilp : cm m 8 .nilp = .nilp := rfl
theorem cm_nils {l : Nat → Option Nat} {x : Nat → Option (List Cell)} {k : Bool} : cm ⟨l, x, k, false⟩ 8 .nils = .nils := rfl
theorem cm_nilf : cm m 8 .nilf = .nilf := rfl
end
end Go.Abs
