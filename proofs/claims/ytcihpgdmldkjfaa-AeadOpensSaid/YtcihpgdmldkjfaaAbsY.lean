/- The abstract machine: rules for single operations: moves, places, memory. -/
import Derived.Test.YtcihpgdmldkjfaaAbsX
namespace Go.Abs
open Go

section
variable {P : Program} {fr : List S} {H H' : Heap} {K : S → Heap → Prop} {o : Oper} {t u : TypeId} {ti : TI} {a b i : Operand}

theorem r_mv {s : S} (ho : o.op = .move a) (hx : ev fr a = s) (h : K s H) : ostep P o fr H K := by
  subst hx; simp only [ostep, ho, pstep]; exact h
theorem r_as {s : S} (ho : o.op = .assign a) (hx : ev fr a = s) (h : K s H) : ostep P o fr H K := by
  subst hx; simp only [ostep, ho, pstep]; exact h
theorem r_pkt {c : Operand} {s : S} (ho : o.op = .pick c a b) (hc : ev fr c = sc (.bool true)) (hx : ev fr a = s) (h : K s H) : ostep P o fr H K := by
  subst hx; simp only [ostep, ho, pstep, hc, if_true]; exact h
theorem r_pkf {c : Operand} {s : S} (ho : o.op = .pick c a b) (hc : ev fr c = sc (.bool false)) (hx : ev fr b = s) (h : K s H) : ostep P o fr H K := by
  subst hx; simp only [ostep, ho, pstep, hc]; exact h
theorem r_ncp {p q : Nat} (ho : o.op = .nilCheck a) (hx : ev fr a = sc (.ptr p q)) (h : K (sc (.ptr p q)) H) : ostep P o fr H K := by
  simp only [ostep, ho, pstep, hx]; exact h
theorem r_ncr {cs : List Cell} (ho : o.op = .nilCheck a) (hx : ev fr a = sc (.rop cs)) (h : K (sc (.rop cs)) H) : ostep P o fr H K := by
  simp only [ostep, ho, pstep, hx]; exact h
theorem r_ncf {f : Nat} {cs : List Cell} (ho : o.op = .nilCheck a) (hx : ev fr a = sc (.fn f cs)) (h : K (sc (.fn f cs)) H) : ostep P o fr H K := by
  simp only [ostep, ho, pstep, hx]; exact h
theorem r_notb {x : Bool} (ho : o.op = .unOp .not t a) (hx : ev fr a = sc (.bool x)) (h : K (sc (.bool (!x))) H) : ostep P o fr H K := by
  simp only [ostep, ho, pstep, hx]; exact h

theorem binG {op : BinOp} {x y : Cell} (ho : o.op = .binOp op t a b u) (ht : tiOf P t = some ti) (hx : ev fr a = sc x) (hy : ev fr b = sc y)
    (h : binC op ti.kind x y fun r => K (sc r) H) : ostep P o fr H K := by
  simp only [ostep, ho, hx, hy, pstep, ht]
  exact h
theorem r_eqlb {x y : Bool} (ho : o.op = .binOp .eql t a b u) (ht : tiOf P t = some ti) (hk : ti.kind = .bool) (hx : ev fr a = sc (.bool x)) (hy : ev fr b = sc (.bool y)) (h : K (sc (.bool (x == y))) H) : ostep P o fr H K :=
  binG ho ht hx hy (by simp only [binC, hk, eqv]; exact h)
theorem r_neqb {x y : Bool} (ho : o.op = .binOp .neq t a b u) (ht : tiOf P t = some ti) (hk : ti.kind = .bool) (hx : ev fr a = sc (.bool x)) (hy : ev fr b = sc (.bool y)) (h : K (sc (.bool (!(x == y)))) H) : ostep P o fr H K :=
  binG ho ht hx hy (by simp only [binC, hk, eqv]; exact h)
theorem r_eqlp {x : Cell} {e : Nat} {r : Bool} (ho : o.op = .binOp .eql t a b u) (ht : tiOf P t = some ti) (hk : ti.kind = .ptr e) (hx : ev fr a = sc x) (hn : isNilP x = some r) (hy : ev fr b = sc .nilp) (h : K (sc (.bool r)) H) : ostep P o fr H K :=
  binG ho ht hx hy (by cases x <;> simp only [isNilP, reduceCtorEq, Option.some.injEq] at hn <;> (subst hn; simp only [binC, hk, isNilP, eqv]; exact h))
theorem r_neqp {x : Cell} {e : Nat} {r : Bool} (ho : o.op = .binOp .neq t a b u) (ht : tiOf P t = some ti) (hk : ti.kind = .ptr e) (hx : ev fr a = sc x) (hn : isNilP x = some r) (hy : ev fr b = sc .nilp) (h : K (sc (.bool (!r))) H) : ostep P o fr H K :=
  binG ho ht hx hy (by cases x <;> simp only [isNilP, reduceCtorEq, Option.some.injEq] at hn <;> (subst hn; simp only [binC, hk, isNilP, eqv]; exact h))

theorem ba_toList (x : ByteArray) : x.toList = x.data.toList := by
  have : ∀ (n i : Nat) (r : List UInt8), x.size - i = n → i ≤ x.size → ByteArray.toList.loop x i r = r.reverse ++ x.data.toList.drop i := by
    intro n
    induction n with
    | zero =>
      intro i r hn hi
      unfold ByteArray.toList.loop
      rw [if_neg (by omega)]
      have e : x.size = x.data.toList.length := by rw [Array.length_toList]; rfl
      have : i = x.data.toList.length := by omega
      rw [this, List.drop_length, List.append_nil]
    | succ n ih =>
      intro i r hn hi
      unfold ByteArray.toList.loop
      rw [if_pos (by omega), ih (i + 1) _ (by omega) (by omega)]
      have e : x.size = x.data.toList.length := by rw [Array.length_toList]; rfl
      have hlt : i < x.data.toList.length := by omega
      rw [List.drop_eq_getElem_cons hlt]
      have hg : x.get! i = x.data.toList[i] := by
        have hd : i < x.data.size := by simpa using hlt
        simp [ByteArray.get!, getElem!_pos x.data i hd]
      rw [hg]; simp
  have h := this x.size 0 [] (by simp) (Nat.zero_le _)
  simpa [ByteArray.toList] using h
theorem ba_ext {x y : ByteArray} (h : x.data.toList = y.data.toList) : x = y := by
  cases x; cases y; simp at h; rw [ByteArray.mk.injEq]; exact h
theorem ba_eq (x y : ByteArray) : (x.toList == y.toList) = decide (x = y) := by
  rw [ba_toList, ba_toList, Bool.eq_iff_iff]
  simp only [beq_iff_eq, decide_eq_true_eq]
  exact ⟨ba_ext, fun h => by rw [h]⟩
theorem r_eqls {x y : ByteArray} (ho : o.op = .binOp .eql t a b u) (ht : tiOf P t = some ti) (hx : ev fr a = sc (.str x)) (hy : ev fr b = sc (.str y)) (h : K (sc (.bool (decide (x = y)))) H) : ostep P o fr H K :=
  binG ho ht hx hy (by simp only [binC, strv]; rw [ba_eq]; exact h)
theorem r_neqs {x y : ByteArray} (ho : o.op = .binOp .neq t a b u) (ht : tiOf P t = some ti) (hx : ev fr a = sc (.str x)) (hy : ev fr b = sc (.str y)) (h : K (sc (.bool (!decide (x = y)))) H) : ostep P o fr H K :=
  binG ho ht hx hy (by simp only [binC, strv]; rw [ba_eq]; exact h)

/-! Places. -/
theorem r_fap {p q f off ft : Nat} {fs : List (Nat × Nat)} {fti : TI} (ho : o.op = .fieldAddr t a f) (ht : tiOf P t = some ti) (hk : ti.kind = .struct fs) (hf : fs[f]? = some (off, ft)) (hft : tiOf P ft = some fti) (hz : Nat.blt 0 fti.size = true)
    (hx : ev fr a = sc (.ptr p q)) (h : K (sc (.ptr p (q + off))) H) : ostep P o fr H K := by
  simp only [ostep, ho, pstep, ht, hk, hf, hft, hx]; exact ⟨by rw [Nat.blt_eq] at hz; omega, h⟩
theorem r_fap0 {p f off ft : Nat} {fs : List (Nat × Nat)} {fti : TI} (ho : o.op = .fieldAddr t a f) (ht : tiOf P t = some ti) (hk : ti.kind = .struct fs) (hf : fs[f]? = some (off, ft)) (hft : tiOf P ft = some fti) (hz : Nat.blt 0 fti.size = true)
    (hx : ev fr a = sc (.ptr p 0)) (h : K (sc (.ptr p off)) H) : ostep P o fr H K :=
  r_fap ho ht hk hf hft hz hx (by rw [Nat.zero_add]; exact h)
theorem r_far {cs : List Cell} {f off ft : Nat} {fs : List (Nat × Nat)} {fti : TI} (ho : o.op = .fieldAddr t a f) (ht : tiOf P t = some ti) (hk : ti.kind = .struct fs) (hf : fs[f]? = some (off, ft)) (hft : tiOf P ft = some fti) (hz : Nat.blt 0 fti.size = true)
    (hx : ev fr a = sc (.rop cs)) (h : K (sc (.rop (cs.drop off))) H) : ostep P o fr H K := by
  simp only [ostep, ho, pstep, ht, hk, hf, hft, hx]; exact ⟨by rw [Nat.blt_eq] at hz; omega, h⟩
/-- A number that is a place. -/
def Ix (s : S) (j : Nat) : Prop := ∃ k, s = sc (.int k (j : Int))
theorem ixn {j : Nat} (h : ev fr i = sc (cn j)) : Ix (ev fr i) j := ⟨_, h⟩
theorem ix64 {j : UInt64} (h : ev fr i = sc (c64 j)) : Ix (ev fr i) j.toNat := ⟨_, h⟩
theorem ix32 {j : UInt32} (h : ev fr i = sc (c32 j)) : Ix (ev fr i) j.toNat := ⟨_, h⟩
theorem ix8 {j : UInt8} (h : ev fr i = sc (c8 j)) : Ix (ev fr i) j.toNat := ⟨_, h⟩
theorem r_ixp {p q n e j : Nat} {ei : TI} (ho : o.op = .indexAddr t a i) (ht : tiOf P t = some ti) (hk : ti.kind = .array n e) (he : tiOf P e = some ei) (hi : Ix (ev fr i) j) (hx : ev fr a = sc (.ptr p q)) (hlt : j < n)
    (h : K (sc (.ptr p (q + j * ei.size))) H) : ostep P o fr H K := by
  obtain ⟨k, hi⟩ := hi
  simp only [ostep, ho, pstep, ht, hk, he, hi, hx, Int.toNat_natCast]; exact ⟨by omega, by omega, h⟩
theorem r_ixp1 {p n e j : Nat} {ei : TI} (ho : o.op = .indexAddr t a i) (ht : tiOf P t = some ti) (hk : ti.kind = .array n e) (he : tiOf P e = some ei) (hs : ei.size = 1) (hi : Ix (ev fr i) j) (hx : ev fr a = sc (.ptr p 0)) (hlt : j < n)
    (h : K (sc (.ptr p j)) H) : ostep P o fr H K :=
  r_ixp ho ht hk he hi hx hlt (by rw [hs, Nat.mul_one, Nat.zero_add]; exact h)
theorem r_ixr {cs : List Cell} {n e j : Nat} {ei : TI} (ho : o.op = .indexAddr t a i) (ht : tiOf P t = some ti) (hk : ti.kind = .array n e) (he : tiOf P e = some ei) (hi : Ix (ev fr i) j) (hx : ev fr a = sc (.rop cs)) (hlt : j < n)
    (h : K (sc (.rop (cs.drop (j * ei.size)))) H) : ostep P o fr H K := by
  obtain ⟨k, hi⟩ := hi
  simp only [ostep, ho, pstep, ht, hk, he, hi, hx, Int.toNat_natCast]; exact ⟨by omega, by omega, h⟩
theorem r_ixs {p q m sz e j : Nat} {ei : TI} (ho : o.op = .indexAddr t a i) (ht : tiOf P t = some ti) (hk : ti.kind = .slice e) (he : tiOf P e = some ei) (hi : Ix (ev fr i) j) (hx : ev fr a = sc (.slc p q m sz)) (hlt : j < m)
    (h : K (sc (.ptr p (q + j * ei.size))) H) : ostep P o fr H K := by
  obtain ⟨k, hi⟩ := hi
  simp only [ostep, ho, pstep, ht, hk, he, hi, hx, Int.toNat_natCast]; exact ⟨by omega, by omega, h⟩
theorem r_ixs1 {p m sz e j : Nat} {ei : TI} (ho : o.op = .indexAddr t a i) (ht : tiOf P t = some ti) (hk : ti.kind = .slice e) (he : tiOf P e = some ei) (hs : ei.size = 1) (hi : Ix (ev fr i) j) (hx : ev fr a = sc (.slc p 0 m sz)) (hlt : j < m)
    (h : K (sc (.ptr p j)) H) : ostep P o fr H K :=
  r_ixs ho ht hk he hi hx hlt (by rw [hs, Nat.mul_one, Nat.zero_add]; exact h)
theorem r_ixo {m e j : Nat} {cs : List Cell} {ei : TI} (ho : o.op = .indexAddr t a i) (ht : tiOf P t = some ti) (hk : ti.kind = .slice e) (he : tiOf P e = some ei) (hi : Ix (ev fr i) j) (hx : ev fr a = sc (.ro m cs)) (hlt : j < m) (hc : j * ei.size < cs.length)
    (h : K (sc (.rop (cs.drop (j * ei.size)))) H) : ostep P o fr H K := by
  obtain ⟨k, hi⟩ := hi
  simp only [ostep, ho, pstep, ht, hk, he, hi, hx, Int.toNat_natCast]; exact ⟨by omega, by omega, hc, h⟩
theorem r_ixo1 {m e j : Nat} {cs : List Cell} {ei : TI} (ho : o.op = .indexAddr t a i) (ht : tiOf P t = some ti) (hk : ti.kind = .slice e) (he : tiOf P e = some ei) (hs : ei.size = 1) (hi : Ix (ev fr i) j) (hx : ev fr a = sc (.ro m cs)) (hlt : j < m) (hc : j < cs.length)
    (h : K (sc (.rop (cs.drop j))) H) : ostep P o fr H K :=
  r_ixo ho ht hk he hi hx hlt (by rw [hs, Nat.mul_one]; exact hc) (by rw [hs, Nat.mul_one]; exact h)

/-! Loads and stores. -/
def ldOk : TK → Cell → Bool
  | .int k, .int k' _ => k == k'
  | .int _, _ => false
  | .struct _, _ => false
  | .array _ _, _ => false
  | _, _ => true
theorem ldOk_agg {k : TK} {c : Cell} (h : ldOk k c = true) : k.agg = false := by cases k <;> first | rfl | (cases c <;> simp [ldOk] at h)
theorem int_at {k : IntKind} {cs : List Cell} {q : Nat} {c : Cell} (hc : cs[q]? = some c) (hk : ldOk (.int k) c = true) : isInt k cs q ∧ Cell.int k (intAt cs q) = c := by
  cases c <;> simp only [ldOk, Bool.false_eq_true] at hk
  rename_i k' n
  have : k = k' := by simpa using hk
  subst this
  have : intAt cs q = n := by simp [intAt, hc]
  exact ⟨by simp [isInt, this, hc], by rw [this]⟩
theorem loadP {p q : Nat} {cs : List Cell} {c : Cell} {K : S → Prop} (ht : tiOf P t = some ti) (hx : ev fr a = sc (.ptr p q)) (hp : H[p]? = some (some cs)) (hc : cs[q]? = some c) (hk : ldOk ti.kind c = true) (h : K (sc c)) : loadR P fr H t a K := by
  simp only [loadR, ht, ldOk_agg hk, hx, hp]
  cases hkk : ti.kind with
  | int k =>
    rw [hkk] at hk
    obtain ⟨h1, h2⟩ := int_at hc hk
    exact ⟨h1, by rw [h2]; exact h⟩
  | _ => simp only [hc]; exact h
theorem loadRo {cs : List Cell} {c : Cell} {K : S → Prop} (ht : tiOf P t = some ti) (hx : ev fr a = sc (.rop cs)) (hc : cs[0]? = some c) (hk : ldOk ti.kind c = true) (h : K (sc c)) : loadR P fr H t a K := by
  simp only [loadR, ht, ldOk_agg hk, hx]
  cases hkk : ti.kind with
  | int k =>
    rw [hkk] at hk
    obtain ⟨h1, h2⟩ := int_at hc hk
    exact ⟨h1, by rw [h2]; exact h⟩
  | _ => simp only [hc]; exact h
theorem loadA {p q : Nat} {cs xs : List Cell} {K : S → Prop} (ht : tiOf P t = some ti) (hk : ti.kind.agg = true) (hz : Nat.blt 0 ti.size = true) (hx : ev fr a = sc (.ptr p q)) (hp : H[p]? = some (some cs)) (hl : q + ti.size ≤ cs.length) (hc : (cs.drop q).take ti.size = xs) (h : K (sa xs)) : loadR P fr H t a K := by
  simp only [loadR, ht, hk, hx, hp, hc]; exact ⟨by rw [Nat.blt_eq] at hz; omega, hl, h⟩
theorem loadARo {cs xs : List Cell} {K : S → Prop} (ht : tiOf P t = some ti) (hk : ti.kind.agg = true) (hz : Nat.blt 0 ti.size = true) (hx : ev fr a = sc (.rop cs)) (hl : ti.size ≤ cs.length) (hc : cs.take ti.size = xs) (h : K (sa xs)) : loadR P fr H t a K := by
  simp only [loadR, ht, hk, hx, hc]; exact ⟨by rw [Nat.blt_eq] at hz; omega, hl, h⟩

theorem r_ldp {p q : Nat} {cs : List Cell} {c : Cell} (ho : o.op = .load t a) (ht : tiOf P t = some ti) (hx : ev fr a = sc (.ptr p q)) (hp : H[p]? = some (some cs)) (hc : cs[q]? = some c) (hk : ldOk ti.kind c = true) (h : K (sc c) H) : ostep P o fr H K := by
  simp only [ostep, ho]; exact loadP ht hx hp hc hk h
theorem r_ldr {cs : List Cell} {c : Cell} (ho : o.op = .load t a) (ht : tiOf P t = some ti) (hx : ev fr a = sc (.rop cs)) (hc : cs[0]? = some c) (hk : ldOk ti.kind c = true) (h : K (sc c) H) : ostep P o fr H K := by
  simp only [ostep, ho]; exact loadRo ht hx hc hk h
theorem r_ldrd {cs : List Cell} {j : Nat} {c : Cell} (ho : o.op = .load t a) (ht : tiOf P t = some ti) (hx : ev fr a = sc (.rop (cs.drop j))) (hc : cs[j]? = some c) (hk : ldOk ti.kind c = true) (h : K (sc c) H) : ostep P o fr H K :=
  r_ldr ho ht hx (by simpa using hc) hk h
theorem r_lda {p q : Nat} {cs xs : List Cell} (ho : o.op = .load t a) (ht : tiOf P t = some ti) (hk : ti.kind.agg = true) (hz : Nat.blt 0 ti.size = true) (hx : ev fr a = sc (.ptr p q)) (hp : H[p]? = some (some cs)) (hl : q + ti.size ≤ cs.length) (hc : (cs.drop q).take ti.size = xs) (h : K (sa xs) H) : ostep P o fr H K := by
  simp only [ostep, ho]; exact loadA ht hk hz hx hp hl hc h
/-- The whole block. -/
theorem r_ldw {p : Nat} {cs : List Cell} (ho : o.op = .load t a) (ht : tiOf P t = some ti) (hk : ti.kind.agg = true) (hz : Nat.blt 0 ti.size = true) (hx : ev fr a = sc (.ptr p 0)) (hp : H[p]? = some (some cs)) (hl : cs.length = ti.size) (h : K (sa cs) H) : ostep P o fr H K :=
  r_lda ho ht hk hz hx hp (by omega) (by rw [List.drop_zero, ← hl, List.take_length]) h
theorem r_ldar {cs xs : List Cell} (ho : o.op = .load t a) (ht : tiOf P t = some ti) (hk : ti.kind.agg = true) (hz : Nat.blt 0 ti.size = true) (hx : ev fr a = sc (.rop cs)) (hl : ti.size ≤ cs.length) (hc : cs.take ti.size = xs) (h : K (sa xs) H) : ostep P o fr H K := by
  simp only [ostep, ho]; exact loadARo ht hk hz hx hl hc h

theorem r_st {p q : Nat} {cs : List Cell} {c : Cell} (ho : o.op = .store t a b) (ht : tiOf P t = some ti) (hs : ti.size = 1) (hx : ev fr a = sc (.ptr p q)) (hp : H[p]? = some (some cs)) (hy : ev fr b = sc c) (hcv : cellsV (sc c) = some [c]) (hq : q < cs.length)
    (h : K ud (H.set p (some (cs.set q c)))) : ostep P o fr H K := by
  simp only [ostep, ho, ht, hx, hp, hy, hcv, hs]; exact ⟨rfl, by omega, by omega, h⟩
theorem r_stm {α : Type} {k : IntKind} {g : α → Int} {x : α} {p q : Nat} {l : List α} (ho : o.op = .store t a b) (ht : tiOf P t = some ti) (hs : ti.size = 1) (hx : ev fr a = sc (.ptr p q)) (hp : H[p]? = some (some (mapc k g l))) (hy : ev fr b = sc (.int k (g x))) (hq : q < l.length)
    (h : K ud (H.set p (some (mapc k g (l.set q x))))) : ostep P o fr H K :=
  r_st ho ht hs hx hp hy rfl (by rw [mapc_length]; exact hq) (by rw [mapc_set]; exact h)
theorem r_sta {p q : Nat} {cs xs : List Cell} (ho : o.op = .store t a b) (ht : tiOf P t = some ti) (hx : ev fr a = sc (.ptr p q)) (hp : H[p]? = some (some cs)) (hy : ev fr b = sa xs) (hl : xs.length = ti.size) (hz : Nat.blt 0 ti.size = true) (hq : q + ti.size ≤ cs.length)
    (h : K ud (H.set p (some (splice cs q xs)))) : ostep P o fr H K := by
  simp only [ostep, ho, ht, hx, hp, hy, cellsV]; exact ⟨hl, by rw [Nat.blt_eq] at hz; omega, hq, h⟩
theorem splice_whole {cs xs : List Cell} (h : cs.length = xs.length) : splice cs 0 xs = xs := by
  simp [splice, List.drop_eq_nil_of_le, h]
theorem r_stw {p : Nat} {cs xs : List Cell} (ho : o.op = .store t a b) (ht : tiOf P t = some ti) (hx : ev fr a = sc (.ptr p 0)) (hp : H[p]? = some (some cs)) (hy : ev fr b = sa xs) (hl : xs.length = ti.size) (hz : Nat.blt 0 ti.size = true) (hc : cs.length = ti.size)
    (h : K ud (H.set p (some xs))) : ostep P o fr H K :=
  r_sta ho ht hx hp hy hl hz (by omega) (by rw [splice_whole (by omega)]; exact h)

theorem r_al {z : List Cell} {m : Nat} (ho : o.op = .alloc t) (ht : tiOf P t = some ti) (hz : ti.zero = some z) (hm : H.length = m) (h : K (sc (.ptr m 0)) (H ++ [some z])) : ostep P o fr H K := by
  subst hm; simp only [ostep, ho, ht, hz]; exact h
theorem r_boxc {c : Cell} {m : Nat} (ho : o.op = .box t a) (hx : ev fr a = sc c) (hcv : cellsV (sc c) = some [c]) (hm : H.length = m) (h : K (sc (.ptr m 0)) (H ++ [some [c]])) : ostep P o fr H K := by
  subst hm; simp only [ostep, ho, hx, hcv]; exact h
theorem r_boxa {xs : List Cell} {m : Nat} (ho : o.op = .box t a) (hx : ev fr a = sa xs) (hm : H.length = m) (h : K (sc (.ptr m 0)) (H ++ [some xs])) : ostep P o fr H K := by
  subst hm; simp only [ostep, ho, hx, cellsV]; exact h

/-! Parts put together. -/
section
variable {place : Nat → Option (Nat × Nat)} {KK : List Cell → Prop} {cells : List Cell} {j off size : Nat} {x : Operand} {r : List (Nat × Operand)}
theorem fk0 (h : KK cells) : fillK fr place KK cells [] := h
theorem fkc {c : Cell} (hp : place j = some (off, 1)) (hx : ev fr x = sc c) (hcv : cellsV (sc c) = some [c]) (hl : off < cells.length) (h : fillK fr place KK (cells.set off c) r) : fillK fr place KK cells ((j, x) :: r) := by
  simp only [fillK, hp, hx, hcv]; exact ⟨rfl, by omega, h⟩
theorem fka {xs : List Cell} (hp : place j = some (off, size)) (hx : ev fr x = sa xs) (hs : xs.length = size) (hl : off + size ≤ cells.length) (h : fillK fr place KK (splice cells off xs) r) : fillK fr place KK cells ((j, x) :: r) := by
  simp only [fillK, hp, hx, cellsV]; exact ⟨hs, hl, h⟩
end
theorem r_bla {n e : Nat} {z : List Cell} {ei : TI} {parts : Array (Nat × Operand)} (ho : o.op = .build t parts) (ht : tiOf P t = some ti) (hz : ti.zero = some z) (hk : ti.kind = .array n e) (he : tiOf P e = some ei)
    (h : fillK fr (fun i => some (i * ei.size, ei.size)) (fun cs => K (sa cs) H) z parts.toList) : ostep P o fr H K := by
  simp only [ostep, ho, ht, hz, hk, he]; exact h
theorem r_bls {fs : List (Nat × Nat)} {z : List Cell} {parts : Array (Nat × Operand)} (ho : o.op = .build t parts) (ht : tiOf P t = some ti) (hz : ti.zero = some z) (hk : ti.kind = .struct fs) (hfs : (fs.all fun f => (tiOf P f.2).isSome) = true)
    (h : fillK fr (placeS P fs) (fun cs => K (sa cs) H) z parts.toList) : ostep P o fr H K := by
  simp only [ostep, ho, ht, hz, hk]; exact ⟨hfs, h⟩
theorem r_bsl {e len m : Nat} {z : List Cell} {ei : TI} {parts : Array (Nat × Operand)} (ho : o.op = .buildSlice t len parts) (ht : tiOf P t = some ti) (hk : ti.kind = .slice e) (he : tiOf P e = some ei) (hz : ei.zero = some z) (hzl : z.length = ei.size) (hb : Nat.ble (len * ei.size) 16777216 = true) (hm : H.length = m)
    (h : fillK fr (fun i => some (i * ei.size, ei.size)) (fun cs => K (sc (.slc m 0 len ei.size)) (H ++ [some cs])) (rep len z) parts.toList) : ostep P o fr H K := by
  subst hm; simp only [ostep, ho, ht, hz, hk, he]; exact ⟨hzl, Nat.le_of_ble_eq_true hb, h⟩
theorem r_mks {e n m : Nat} {z : List Cell} {ei : TI} {l c : Operand} (ho : o.op = .makeSlice t l c) (ht : tiOf P t = some ti) (hk : ti.kind = .slice e) (he : tiOf P e = some ei) (hz : ei.zero = some z) (hzl : z.length = ei.size) (hs : Nat.blt 0 ei.size = true)
    (hl : ev fr l = sc (cn n)) (hc : ev fr c = sc (cn n)) (hn : n ≤ 281474976710656) (hb : ei.bytes * n ≤ 281474976710656) (hm : H.length = m) (h : K (sc (.slc m 0 n ei.size)) (H ++ [some (rep n z)])) : ostep P o fr H K := by
  subst hm
  simp only [ostep, ho, ht, hk, he, hz, hl, hc, Int.toNat_natCast]
  exact ⟨hzl, by rw [Nat.blt_eq] at hs; exact hs, trivial, by omega, by omega, by rw [← Int.natCast_mul]; omega, h⟩

/-! Elements. -/
structure Elems (H : Heap) (esz : Nat) (s : S) (n : Nat) (cs : List Cell) : Prop where
  h : elems H esz s fun n' cs' => n' = n ∧ cs' = cs
theorem el_nil {e : Nat} : Elems H e (sc .nils) 0 [] := ⟨⟨rfl, rfl⟩⟩
theorem el_str {s : ByteArray} : Elems H 1 (sc (.str s)) s.size (u8s s.data.toList) := ⟨⟨rfl, rfl, rfl⟩⟩
theorem el_ro {e n : Nat} {cs : List Cell} (h : cs.length = n * e) : Elems H e (sc (.ro n cs)) n cs := ⟨⟨h, rfl, rfl⟩⟩
theorem el_slc {p q n e : Nat} {cs xs : List Cell} (hp : H[p]? = some (some cs)) (hl : q + n * e ≤ cs.length) (hx : (cs.drop q).take (n * e) = xs) : Elems H e (sc (.slc p q n e)) n xs := by
  subst hx; refine ⟨?_⟩; simp only [elems, hp]; exact ⟨trivial, hl, trivial, trivial⟩
theorem elems_of {e n : Nat} {s : S} {cs : List Cell} {KK : Nat → List Cell → Prop} (h : Elems H e s n cs) (hk : KK n cs) : elems H e s KK := by
  replace h := h.h
  cases s with
  | t xs => exact h.elim
  | v x => cases x with
    | a xs => exact h.elim
    | c c => cases c with
      | nils => obtain ⟨h1, h2⟩ := h; subst h1; subst h2; exact hk
      | str s => obtain ⟨h0, h1, h2⟩ := h; subst h1; subst h2; exact ⟨h0, hk⟩
      | ro m ds => obtain ⟨h0, h1, h2⟩ := h; subst h1; subst h2; exact ⟨h0, hk⟩
      | slc p q m sz =>
        simp only [elems] at h ⊢
        cases hp : H[p]? with
        | none => rw [hp] at h; exact h.elim
        | some x => cases x with
          | none => rw [hp] at h; exact h.elim
          | some ds =>
            rw [hp] at h
            obtain ⟨h0, h3, h1, h2⟩ := h
            subst h1; subst h2
            exact ⟨h0, h3, hk⟩
      | _ => exact h.elim
theorem r_app {e n m w : Nat} {z cs ds : List Cell} {ei ti' : TI} {u : TypeId} {sA sB : S} (ho : o.op = .call ⟨.builtin .append, #[a, b], #[t, u]⟩) (ht : tiOf P t = some ti) (hu : tiOf P u = some ti') (hni : ∀ k, ti'.kind ≠ .int k) (hk : ti.kind = .slice e) (he : tiOf P e = some ei) (hz : ei.zero = some z) (hzl : z.length = ei.size)
    (hby : Nat.blt 0 ei.bytes = true) (hs : Nat.blt 0 ei.size = true) (ha : ev fr a = sA) (hb : ev fr b = sB) (eA : Elems H ei.size sA n cs) (eB : Elems H ei.size sB m ds) (hsl : (∃ p q l s, sA = sc (.slc p q l s)) ∨ sA = sc .nils)
    (h1 : (2 * (n + m) + 192) * ei.bytes ≤ 281474976710656) (h2 : n + m ≤ 281474976710656) (hw : H.length = w) (h : K (sc (.slc w 0 (n + m) ei.size)) (kill H sA ++ [some (cs ++ ds)])) : ostep P o fr H K := by
  subst hw; subst ha; subst hb
  simp only [ostep, ho, ht, hu, hk, he, hz]
  have hh : 0 < ei.bytes ∧ 0 < ei.size ∧ z.length = ei.size ∧ elems H ei.size (ev fr a) fun n cs => elems H ei.size (ev fr b) fun m ds =>
      (2 * (n + m) + 192) * ei.bytes ≤ 281474976710656 ∧ n + m ≤ 281474976710656 ∧
      match ev fr a with
      | .v (.c (.slc _ _ _ _)) | .v (.c .nils) => K (sc (.slc H.length 0 (n + m) ei.size)) (kill H (ev fr a) ++ [some (cs ++ ds)])
      | _ => False := by
    refine ⟨by rw [Nat.blt_eq] at hby; exact hby, by rw [Nat.blt_eq] at hs; exact hs, hzl, elems_of eA (elems_of eB ⟨h1, h2, ?_⟩)⟩
    rcases hsl with ⟨p, q, l, s, hsl⟩ | hsl
    · rw [hsl] at h ⊢; exact h
    · rw [hsl] at h ⊢; exact h
  cases hkk : ti'.kind with
  | int k => exact absurd hkk (hni k)
  | _ => exact hh
theorem r_cpy {e n m p q sz : Nat} {cs ds : List Cell} {ei : TI} {u : TypeId} {sB : S} (ho : o.op = .call ⟨.builtin .copy, #[a, b], #[t, u]⟩) (ht : tiOf P t = some ti) (hk : ti.kind = .slice e) (he : tiOf P e = some ei) (ha : ev fr a = sc (.slc p q n sz)) (hp : H[p]? = some (some cs)) (hsz : sz = ei.size) (hl : q + n * sz ≤ cs.length)
    (hb : ev fr b = sB) (eB : Elems H ei.size sB m ds) (h : K (sc (cn (min m n))) (H.set p (some (splice cs q (ds.take (min m n * sz)))))) : ostep P o fr H K := by
  subst hb
  simp only [ostep, ho, ht, hk, he, ha, hp]
  exact ⟨hsz, hl, elems_of eB h⟩

/-! Slices, lengths. -/
section
variable {KK : Nat → Nat → Prop} {len l h m : Nat}
theorem bn (h1 : l ≤ h ∧ h ≤ len) (k : KK l h) : bnds len (some (l : Int)) (some (h : Int)) none KK := ⟨by simp, by simp; omega, by simp; omega, by simpa using k⟩
theorem bn_lo (h1 : l ≤ len) (k : KK l len) : bnds len (some (l : Int)) none none KK := ⟨by simp, by simp; omega, by simp, by simpa using k⟩
theorem bn_hi (h1 : h ≤ len) (k : KK 0 h) : bnds len none (some (h : Int)) none KK := ⟨by simp, by simp, by simp; omega, by simpa using k⟩
theorem bn_no (k : KK 0 len) : bnds len none none none KK := ⟨by simp, by simp, by simp, by simpa using k⟩
theorem bn_mx (h1 : h ≤ m ∧ m ≤ len) (k : KK 0 h) : bnds len none (some (h : Int)) (some (m : Int)) KK := ⟨by simp, by simp, by simp; omega, by omega, by simpa using k⟩
end
theorem oi_no : optI fr none = some none := rfl
theorem oi_n {x : Operand} {j : Nat} (h : ev fr x = sc (cn j)) : optI fr (some x) = some (some (j : Int)) := by simp only [optI, h]
section
variable {lo hi mx : Option Operand} {l h m : Option Int}
theorem r_sls {p q n e sz : Nat} {ei : TI} (ho : o.op = .slice t a lo hi mx) (ht : tiOf P t = some ti) (hk : ti.kind = .slice e) (he : tiOf P e = some ei) (hx : ev fr a = sc (.slc p q n sz)) (hsz : sz = ei.size) (h1 : optI fr lo = some l) (h2 : optI fr hi = some h) (h3 : optI fr mx = some m)
    (hb : bnds n l h m fun l h => K (sc (.slc p (q + l * sz) (h - l) sz)) H) : ostep P o fr H K := by
  simp only [ostep, ho, hx, pstep, ht, hk, he, h1, h2, h3]; exact ⟨hsz, hb⟩
theorem r_slo {n e : Nat} {cs : List Cell} {ei : TI} (ho : o.op = .slice t a lo hi mx) (ht : tiOf P t = some ti) (hk : ti.kind = .slice e) (he : tiOf P e = some ei) (hx : ev fr a = sc (.ro n cs)) (h1 : optI fr lo = some l) (h2 : optI fr hi = some h) (h3 : optI fr mx = some m)
    (hb : bnds n l h m fun l h => K (sc (.ro (h - l) ((cs.drop (l * ei.size)).take ((h - l) * ei.size)))) H) : ostep P o fr H K := by
  simp only [ostep, ho, hx, pstep, ht, hk, he, h1, h2, h3]; exact hb
theorem r_sln {e : Nat} {ei : TI} (ho : o.op = .slice t a lo hi mx) (ht : tiOf P t = some ti) (hk : ti.kind = .slice e) (he : tiOf P e = some ei) (hx : ev fr a = sc .nils) (h1 : optI fr lo = some l) (h2 : optI fr hi = some h) (h3 : optI fr mx = some m)
    (hb : bnds 0 l h m fun _ _ => K (sc .nils) H) : ostep P o fr H K := by
  simp only [ostep, ho, hx, pstep, ht, hk, he, h1, h2, h3]; exact hb
theorem r_slp {p q n e : Nat} {cs : List Cell} {ei : TI} (ho : o.op = .slice t a lo hi mx) (ht : tiOf P t = some ti) (hk : ti.kind = .array n e) (he : tiOf P e = some ei) (hx : ev fr a = sc (.ptr p q)) (hp : H[p]? = some (some cs)) (hs : Nat.blt 0 ei.size = true) (hl : q + n * ei.size ≤ cs.length) (h1 : optI fr lo = some l) (h2 : optI fr hi = some h) (h3 : optI fr mx = some m)
    (hb : bnds n l h m fun l h => K (sc (.slc p (q + l * ei.size) (h - l) ei.size)) H) : ostep P o fr H K := by
  simp only [ostep, ho, hx, ht, hk, he, h1, h2, h3, hp]; exact ⟨by rw [Nat.blt_eq] at hs; exact hs, hl, hb⟩
theorem r_slr {n e : Nat} {cs : List Cell} {ei : TI} (ho : o.op = .slice t a lo hi mx) (ht : tiOf P t = some ti) (hk : ti.kind = .array n e) (he : tiOf P e = some ei) (hx : ev fr a = sc (.rop cs)) (h1 : optI fr lo = some l) (h2 : optI fr hi = some h) (h3 : optI fr mx = some m)
    (hb : bnds n l h m fun l h => K (sc (.ro (h - l) ((cs.drop (l * ei.size)).take ((h - l) * ei.size)))) H) : ostep P o fr H K := by
  simp only [ostep, ho, hx, pstep, ht, hk, he, h1, h2, h3]; exact hb
theorem r_slt {s : ByteArray} (ho : o.op = .slice t a lo hi none) (ht : tiOf P t = some ti) (hk : ti.kind = .str) (hx : ev fr a = sc (.str s)) (h1 : optI fr lo = some l) (h2 : optI fr hi = some h)
    (hb : bnds s.size l h none fun l h => K (sc (.str (s.extract l h))) H) : ostep P o fr H K := by
  simp only [ostep, ho, hx, pstep, ht, hk, h1, h2, oi_no]; exact ⟨trivial, hb⟩
end
theorem r_lens {s : ByteArray} (ho : o.op = .call ⟨.builtin .len, #[a], #[t]⟩) (ht : tiOf P t = some ti) (hk : ti.kind = .str) (hx : ev fr a = sc (.str s)) (h : K (sc (cn s.size)) H) : ostep P o fr H K := by
  simp only [ostep, ho, pstep, ht, hk, hx]; exact h
theorem r_lenc {p q n sz e : Nat} (ho : o.op = .call ⟨.builtin .len, #[a], #[t]⟩) (ht : tiOf P t = some ti) (hk : ti.kind = .slice e) (hx : ev fr a = sc (.slc p q n sz)) (h : K (sc (cn n)) H) : ostep P o fr H K := by
  simp only [ostep, ho, pstep, ht, hk, hx]; exact h
theorem r_leno {n e : Nat} {cs : List Cell} (ho : o.op = .call ⟨.builtin .len, #[a], #[t]⟩) (ht : tiOf P t = some ti) (hk : ti.kind = .slice e) (hx : ev fr a = sc (.ro n cs)) (h : K (sc (cn n)) H) : ostep P o fr H K := by
  simp only [ostep, ho, pstep, ht, hk, hx]; exact h
theorem r_lenn {e : Nat} (ho : o.op = .call ⟨.builtin .len, #[a], #[t]⟩) (ht : tiOf P t = some ti) (hk : ti.kind = .slice e) (hx : ev fr a = sc .nils) (h : K (sc (cn 0)) H) : ostep P o fr H K := by
  simp only [ostep, ho, pstep, ht, hk, hx]; exact h
theorem r_lena {n e : Nat} (ho : o.op = .call ⟨.builtin .len, #[a], #[t]⟩) (ht : tiOf P t = some ti) (hk : ti.kind = .array n e) (h : K (sc (cn n)) H) : ostep P o fr H K := by
  simp only [ostep, ho, pstep, ht, hk]; exact h
theorem r_minn {x y : Nat} {ats : Array TypeId} (ho : o.op = .call ⟨.builtin .min, #[a, b], ats⟩) (hx : ev fr a = sc (cn x)) (hy : ev fr b = sc (cn y)) (h : K (sc (cn (min x y))) H) : ostep P o fr H K := by
  simp only [ostep, ho, pstep, hx, hy]
  rw [show (if (y : Int) < x then (y : Int) else x) = ((min x y : Nat) : Int) by split <;> omega]; exact h
theorem r_maxn {x y : Nat} {ats : Array TypeId} (ho : o.op = .call ⟨.builtin .max, #[a, b], ats⟩) (hx : ev fr a = sc (cn x)) (hy : ev fr b = sc (cn y)) (h : K (sc (cn (max x y))) H) : ostep P o fr H K := by
  simp only [ostep, ho, pstep, hx, hy]
  rw [show (if (y : Int) > x then (y : Int) else x) = ((max x y : Nat) : Int) by split <;> omega]; exact h
theorem r_max64 {x y : UInt64} {ats : Array TypeId} (ho : o.op = .call ⟨.builtin .max, #[a, b], ats⟩) (hx : ev fr a = sc (c64 x)) (hy : ev fr b = sc (c64 y)) (h : K (sc (c64 (if x < y then y else x))) H) : ostep P o fr H K := by
  simp only [ostep, ho, pstep, hx, hy]
  rw [show (if (y.toNat : Int) > x.toNat then (y.toNat : Int) else x.toNat) = (((if x < y then y else x) : UInt64).toNat : Int) by
    simp only [UInt64.lt_iff_toNat_lt]; split <;> split <;> first | rfl | omega]
  exact h

/-! Parts of values. -/
theorem r_ext {xs : List V} {j : Nat} {y : V} (ho : o.op = .extract a j) (hx : ev fr a = .t xs) (hj : xs[j]? = some y) (h : K (.v y) H) : ostep P o fr H K := by
  simp only [ostep, ho, pstep, hx, hj]; exact h
theorem partC {xs : List Cell} {off : Nat} {c : Cell} {K : S → Prop} (hc : xs[off]? = some c) (hk : ldOk ti.kind c = true) (h : K (sc c)) : partA ti xs off K := by
  unfold partA
  rw [if_neg (by rw [ldOk_agg hk]; simp)]
  cases hkk : ti.kind with
  | int k =>
    rw [hkk] at hk
    obtain ⟨h1, h2⟩ := int_at hc hk
    exact ⟨h1, by rw [h2]; exact h⟩
  | _ => simp only [hc]; exact h
theorem partAg {xs ys : List Cell} {off : Nat} {K : S → Prop} (hk : ti.kind.agg = true) (hy : (xs.drop off).take ti.size = ys) (h : K (sa ys)) : partA ti xs off K := by
  unfold partA; rw [if_pos hk, hy]; exact h
theorem r_fdc {xs : List Cell} {f off ft : Nat} {c : Cell} {fs : List (Nat × Nat)} {fti : TI} (ho : o.op = .field t a f) (ht : tiOf P t = some ti) (hk : ti.kind = .struct fs) (hf : fs[f]? = some (off, ft)) (hft : tiOf P ft = some fti) (hx : ev fr a = sa xs) (hc : xs[off]? = some c) (hl : ldOk fti.kind c = true) (h : K (sc c) H) : ostep P o fr H K := by
  simp only [ostep, ho, pstep, ht, hk, hf, hft, hx]; exact partC hc hl h
theorem r_fda {xs ys : List Cell} {f off ft : Nat} {fs : List (Nat × Nat)} {fti : TI} (ho : o.op = .field t a f) (ht : tiOf P t = some ti) (hk : ti.kind = .struct fs) (hf : fs[f]? = some (off, ft)) (hft : tiOf P ft = some fti) (hx : ev fr a = sa xs) (hl : fti.kind.agg = true) (hy : (xs.drop off).take fti.size = ys) (h : K (sa ys) H) : ostep P o fr H K := by
  simp only [ostep, ho, pstep, ht, hk, hf, hft, hx]; exact partAg hl hy h
theorem r_inc {xs : List Cell} {n e j : Nat} {c : Cell} {ei : TI} (ho : o.op = .index t a i) (ht : tiOf P t = some ti) (hk : ti.kind = .array n e) (he : tiOf P e = some ei) (hi : Ix (ev fr i) j) (hx : ev fr a = sa xs) (hlt : j < n) (hs : ei.size = 1) (hc : xs[j]? = some c) (hl : ldOk ei.kind c = true) (h : K (sc c) H) : ostep P o fr H K := by
  obtain ⟨k, hi⟩ := hi
  simp only [ostep, ho, pstep, ht, hk, he, hi, hx, Int.toNat_natCast, hs, Nat.mul_one]; exact ⟨by omega, by omega, partC hc hl h⟩
theorem r_ina {xs ys : List Cell} {n e j : Nat} {ei : TI} (ho : o.op = .index t a i) (ht : tiOf P t = some ti) (hk : ti.kind = .array n e) (he : tiOf P e = some ei) (hi : Ix (ev fr i) j) (hx : ev fr a = sa xs) (hlt : j < n) (hl : ei.kind.agg = true) (hy : (xs.drop (j * ei.size)).take ei.size = ys) (h : K (sa ys) H) : ostep P o fr H K := by
  obtain ⟨k, hi⟩ := hi
  simp only [ostep, ho, pstep, ht, hk, he, hi, hx, Int.toNat_natCast]; exact ⟨by omega, by omega, partAg hl hy h⟩
theorem r_ins {s : ByteArray} {j : Nat} (ho : o.op = .index t a i) (ht : tiOf P t = some ti) (hk : ti.kind = .str) (hi : Ix (ev fr i) j) (hx : ev fr a = sc (.str s)) (hlt : j < s.size) (h : K (sc (c8 (s.data.getD j 0))) H) : ostep P o fr H K := by
  obtain ⟨k, hi⟩ := hi
  simp only [ostep, ho, pstep, ht, hk, hi, hx, Int.toNat_natCast]; exact ⟨by omega, by omega, h⟩
theorem r_mkf {f : Nat} {cap : Array Operand} {cs : List Cell} (ho : o.op = .makeFunc (.func f) #[] cap) (hc : caps fr cap.toList = some cs) (h : K (sc (.fn f cs)) H) : ostep P o fr H K := by
  simp only [ostep, ho, pstep, hc]; exact h
theorem caps0 : caps fr [] = some [] := rfl
theorem caps1 {x : Operand} {r : List Operand} {c : Cell} {cs : List Cell} (hx : ev fr x = sc c) (hc : cellsV (sc c) = some [c]) (hr : caps fr r = some cs) : caps fr (x :: r) = some (c :: cs) := by
  simp only [caps, hx, hr]
  cases c <;> first | rfl | (simp [cellsV] at hc)
theorem r_s2p {p q l sz n e : Nat} (ho : o.op = .sliceToArrayPointer t a) (ht : tiOf P t = some ti) (hk : ti.kind = .array n e) (hx : ev fr a = sc (.slc p q l sz)) (hl : n ≤ l) (hn : 0 < n) (h : K (sc (.ptr p q)) H) : ostep P o fr H K := by
  simp only [ostep, ho, pstep, ht, hk, hx]; exact ⟨hl, hn, h⟩
theorem r_s2r {l n e : Nat} {cs : List Cell} (ho : o.op = .sliceToArrayPointer t a) (ht : tiOf P t = some ti) (hk : ti.kind = .array n e) (hx : ev fr a = sc (.ro l cs)) (hl : n ≤ l) (hn : 0 < n) (hc : cs ≠ []) (h : K (sc (.rop cs)) H) : ostep P o fr H K := by
  simp only [ostep, ho, pstep, ht, hk, hx]; exact ⟨hl, hn, hc, h⟩

/-! Bytes and texts. -/
theorem r_csl {s d e p q n : Nat} {si di ei : TI} {cs : List Cell} {l : List UInt8} (ho : o.op = .convert s d a) (hs : tiOf P s = some si) (hd : tiOf P d = some di) (hk : si.kind = .slice e) (hk' : di.kind = .str) (he : tiOf P e = some ei) (hek : ei.kind = .int .u8) (hx : ev fr a = sc (.slc p q n 1)) (hp : H[p]? = some (some cs)) (hl : q + n ≤ cs.length) (hc : (cs.drop q).take n = u8s l)
    (h : K (sc (.str ⟨l.toArray⟩)) H) : ostep P o fr H K := by
  simp only [ostep, ho, hs, hd, hk, hk', hx, he, hp, hek, hc, bytesOf_u8s]
  exact ⟨trivial, hl, mapc_allInt _, h⟩
theorem r_cso {s d e n : Nat} {si di ei : TI} {l : List UInt8} (ho : o.op = .convert s d a) (hs : tiOf P s = some si) (hd : tiOf P d = some di) (hk : si.kind = .slice e) (hk' : di.kind = .str) (he : tiOf P e = some ei) (hek : ei.kind = .int .u8) (hx : ev fr a = sc (.ro n (u8s l))) (hl : l.length = n)
    (h : K (sc (.str ⟨l.toArray⟩)) H) : ostep P o fr H K := by
  simp only [ostep, ho, hs, hd, hk, hk', hx, he, hek, bytesOf_u8s, mapc_length]
  exact ⟨hl, mapc_allInt _, h⟩
theorem r_csn {s d e : Nat} {si di ei : TI} (ho : o.op = .convert s d a) (hs : tiOf P s = some si) (hd : tiOf P d = some di) (hk : si.kind = .slice e) (hk' : di.kind = .str) (he : tiOf P e = some ei) (hek : ei.kind = .int .u8) (hx : ev fr a = sc .nils)
    (h : K (sc (.str ⟨[].toArray⟩)) H) : ostep P o fr H K := by
  simp only [ostep, ho, hs, hd, hk, hk', hx, he, hek]
  exact h
theorem r_ctb {s d e m : Nat} {si di ei : TI} {x : ByteArray} (ho : o.op = .convert s d a) (hs : tiOf P s = some si) (hd : tiOf P d = some di) (hk : si.kind = .str) (hk' : di.kind = .slice e) (he : tiOf P e = some ei) (hek : ei.kind = .int .u8) (hes : ei.size = 1) (hx : ev fr a = sc (.str x)) (hm : H.length = m)
    (h : K (sc (.slc m 0 x.size 1)) (H ++ [some (u8s x.data.toList)])) : ostep P o fr H K := by
  subst hm
  simp only [ostep, ho, hs, hd, hk, hk', hx, he, hek]
  exact ⟨hes, h⟩
theorem eqArr {op : BinOp} {n e : Nat} {k : IntKind} {ei : TI} {xs ys : List Cell} {r : Bool} (ho : o.op = .binOp op t a b u) (ht : tiOf P t = some ti) (hk : ti.kind = .array n e) (he : tiOf P e = some ei) (hek : ei.kind = .int k) (hpl : ti.plain = true) (hes : ei.size = 1) (hx : ev fr a = sa xs) (hy : ev fr b = sa ys)
    (hax : allInt k xs = true) (hay : allInt k ys = true) (hlx : xs.length = n) (hly : ys.length = n) (hr : eqv op (decide (intsOf xs = intsOf ys)) = some r) (h : K (sc (.bool r)) H) : ostep P o fr H K := by
  simp only [ostep, ho, hx, hy, ht, hk, he, hek, hr]
  exact ⟨hpl, hes, hax, hay, hlx, hly, h⟩
theorem r_eqa8 {n e : Nat} {ei : TI} {x y : List UInt8} (ho : o.op = .binOp .eql t a b u) (ht : tiOf P t = some ti) (hk : ti.kind = .array n e) (he : tiOf P e = some ei) (hek : ei.kind = .int .u8) (hpl : ti.plain = true) (hes : ei.size = 1) (hx : ev fr a = sa (u8s x)) (hy : ev fr b = sa (u8s y))
    (hlx : x.length = n) (hly : y.length = n) (h : K (sc (.bool (decide (x = y)))) H) : ostep P o fr H K :=
  eqArr ho ht hk he hek hpl hes hx hy (mapc_allInt _) (mapc_allInt _) (by rw [mapc_length]; exact hlx) (by rw [mapc_length]; exact hly) (by rw [mapc_ints, mapc_ints, eq_u8s]; rfl) h
theorem r_nea8 {n e : Nat} {ei : TI} {x y : List UInt8} (ho : o.op = .binOp .neq t a b u) (ht : tiOf P t = some ti) (hk : ti.kind = .array n e) (he : tiOf P e = some ei) (hek : ei.kind = .int .u8) (hpl : ti.plain = true) (hes : ei.size = 1) (hx : ev fr a = sa (u8s x)) (hy : ev fr b = sa (u8s y))
    (hlx : x.length = n) (hly : y.length = n) (h : K (sc (.bool (!decide (x = y)))) H) : ostep P o fr H K :=
  eqArr ho ht hk he hek hpl hes hx hy (mapc_allInt _) (mapc_allInt _) (by rw [mapc_length]; exact hlx) (by rw [mapc_length]; exact hly) (by rw [mapc_ints, mapc_ints, eq_u8s]; rfl) h
theorem r_eqa64 {n e : Nat} {ei : TI} {x y : List UInt64} (ho : o.op = .binOp .eql t a b u) (ht : tiOf P t = some ti) (hk : ti.kind = .array n e) (he : tiOf P e = some ei) (hek : ei.kind = .int .u64) (hpl : ti.plain = true) (hes : ei.size = 1) (hx : ev fr a = sa (u64s x)) (hy : ev fr b = sa (u64s y))
    (hlx : x.length = n) (hly : y.length = n) (h : K (sc (.bool (decide (x = y)))) H) : ostep P o fr H K :=
  eqArr ho ht hk he hek hpl hes hx hy (mapc_allInt _) (mapc_allInt _) (by rw [mapc_length]; exact hlx) (by rw [mapc_length]; exact hly) (by rw [mapc_ints, mapc_ints, eq_u64s]; rfl) h

/-! Cells of lists. -/
theorem u8_at {l : List UInt8} {j : Nat} (h : j < l.length) : (u8s l)[j]? = some (c8 (l.getD j 0)) := by
  simp [mapc, h, List.getD_eq_getElem?_getD]
theorem u32_at {l : List UInt32} {j : Nat} (h : j < l.length) : (u32s l)[j]? = some (c32 (l.getD j 0)) := by
  simp [mapc, h, List.getD_eq_getElem?_getD]
theorem u64_at {l : List UInt64} {j : Nat} (h : j < l.length) : (u64s l)[j]? = some (c64 (l.getD j 0)) := by
  simp [mapc, h, List.getD_eq_getElem?_getD]
theorem i64_at {l : List Int} {j : Nat} (h : j < l.length) : (i64s l)[j]? = some (ci (l.getD j 0)) := by
  simp [mapc, h, List.getD_eq_getElem?_getD]
end
end Go.Abs
