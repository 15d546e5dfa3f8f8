/- Words: sums with a carry, differences with a borrow, products of two words, as numbers. -/
import Derived.Test.YtcihpgdmldkjfaaAbsZd
namespace Go.Abs
open Go

theorem addc_nat (x y c : UInt64) : (x + y + c).toNat + 18446744073709551616 * (addc x y c).toNat = x.toNat + y.toNat + c.toNat ∨ 1 < c.toNat := by
  have hx := x.toNat_lt
  have hy := y.toNat_lt
  have hc := c.toNat_lt
  rcases Nat.lt_or_ge 1 c.toNat with h | h
  · exact .inr h
  refine .inl ?_
  simp only [UInt64.toNat_add]
  unfold addc
  split
  · have : UInt64.toNat 1 = 1 := rfl
    rw [this]; omega
  · have : UInt64.toNat 0 = 0 := rfl
    rw [this]; omega
theorem addc_eq {x y c : UInt64} (h : c.toNat ≤ 1) : (x + y + c).toNat + 18446744073709551616 * (addc x y c).toNat = x.toNat + y.toNat + c.toNat :=
  (addc_nat x y c).resolve_right (by omega)
theorem subb_eq {x y c : UInt64} (h : c.toNat ≤ 1) : (x - y - c).toNat + y.toNat + c.toNat = x.toNat + 18446744073709551616 * (subb x y c).toNat := by
  have hx := x.toNat_lt
  have hy := y.toNat_lt
  rw [UInt64.toNat_sub, UInt64.toNat_sub]
  unfold subb
  split
  · have : UInt64.toNat 1 = 1 := rfl
    rw [this]; omega
  · have : UInt64.toNat 0 = 0 := rfl
    rw [this]; omega
/-- The upper word of a product. -/
def mulhi (x y : UInt64) : UInt64 :=
  shr64n x 32 * shr64n y 32 + shr64n (shr64n x 32 * (y &&& 4294967295) + shr64n ((x &&& 4294967295) * (y &&& 4294967295)) 32) 32 +
    shr64n ((shr64n x 32 * (y &&& 4294967295) + shr64n ((x &&& 4294967295) * (y &&& 4294967295)) 32 &&& 4294967295) + (x &&& 4294967295) * shr64n y 32) 32
theorem shr_nat (n : UInt64) (k : Nat) (h : k < 64) : (shr64n n k).toNat = n.toNat / 2 ^ k := by
  unfold shr64n
  simp [UInt64.toNat_shiftRight, Nat.shiftRight_eq_div_pow, h, Nat.mod_eq_of_lt h]
theorem low_nat (n : UInt64) : (n &&& 4294967295).toNat = n.toNat % 4294967296 := by
  rw [UInt64.toNat_and]
  exact Nat.and_two_pow_sub_one_eq_mod n.toNat 32
theorem mulhi_nat (x y : UInt64) : (mulhi x y).toNat = x.toNat * y.toNat / 18446744073709551616 := by
  have hx := x.toNat_lt
  have hy := y.toNat_lt
  have s32 : ∀ n : UInt64, (shr64n n 32).toNat = n.toNat / 4294967296 := fun n => shr_nat n 32 (by decide)
  have hx1 : x.toNat / 4294967296 < 4294967296 := by omega
  have hy1 : y.toNat / 4294967296 < 4294967296 := by omega
  have hx0 : x.toNat % 4294967296 < 4294967296 := Nat.mod_lt _ (by decide)
  have hy0 : y.toNat % 4294967296 < 4294967296 := Nat.mod_lt _ (by decide)
  have ex : x.toNat = 4294967296 * (x.toNat / 4294967296) + x.toNat % 4294967296 := (Nat.div_add_mod _ _).symm
  have ey : y.toNat = 4294967296 * (y.toNat / 4294967296) + y.toNat % 4294967296 := (Nat.div_add_mod _ _).symm
  unfold mulhi
  simp only [UInt64.toNat_add, UInt64.toNat_mul, s32, low_nat]
  rw [show x.toNat * y.toNat = (4294967296 * (x.toNat / 4294967296) + x.toNat % 4294967296) * (4294967296 * (y.toNat / 4294967296) + y.toNat % 4294967296) by rw [← ex, ← ey]]
  generalize x.toNat / 4294967296 = a at *
  generalize x.toNat % 4294967296 = b at *
  generalize y.toNat / 4294967296 = c at *
  generalize y.toNat % 4294967296 = d at *
  have m : ∀ u v : Nat, u < 4294967296 → v < 4294967296 → u * v ≤ 4294967295 * 4294967295 := fun u v hu hv => Nat.mul_le_mul (by omega) (by omega)
  have h1 := m a c hx1 hy1
  have h2 := m a d hx1 hy0
  have h3 := m b c hx0 hy1
  have h4 := m b d hx0 hy0
  have e : (4294967296 * a + b) * (4294967296 * c + d) = 18446744073709551616 * (a * c) + 4294967296 * (a * d + b * c) + b * d := by
    simp only [Nat.mul_add, Nat.add_mul]
    have e1 : 4294967296 * a * (4294967296 * c) = 18446744073709551616 * (a * c) := by rw [Nat.mul_mul_mul_comm]
    have e2 : 4294967296 * a * d = 4294967296 * (a * d) := Nat.mul_assoc ..
    have e3 : b * (4294967296 * c) = 4294967296 * (b * c) := by rw [Nat.mul_left_comm]
    omega
  rw [e]
  generalize a * c = p at *
  generalize a * d = q at *
  generalize b * c = r at *
  generalize b * d = s at *
  omega
/-- One place of a product's row: what stands there, what is carried on. -/
theorem row_eq (x y w v : UInt64) : (x * y + w + 0 + v + 0).toNat + 18446744073709551616 * (mulhi x y + addc (x * y) w 0 + addc (x * y + w + 0) v 0).toNat = x.toNat * y.toNat + w.toNat + v.toNat := by
  have hx := x.toNat_lt
  have hy := y.toNat_lt
  have hw := w.toNat_lt
  have hv := v.toNat_lt
  have h1 := addc_eq (x := x * y) (y := w) (c := 0) (by decide)
  have h2 := addc_eq (x := x * y + w + 0) (y := v) (c := 0) (by decide)
  have hm := mulhi_nat x y
  have hxy : (x * y).toNat = x.toNat * y.toNat % 18446744073709551616 := UInt64.toNat_mul ..
  have hb : x.toNat * y.toNat ≤ 18446744073709551615 * 18446744073709551615 := Nat.mul_le_mul (by omega) (by omega)
  have z : UInt64.toNat 0 = 0 := rfl
  rw [z] at h1 h2
  have c1 := addc_le (x * y) w 0
  have c2 := addc_le (x * y + w + 0) v 0
  rw [UInt64.toNat_add (mulhi x y + addc (x * y) w 0), UInt64.toNat_add (mulhi x y)]
  generalize (addc (x * y) w 0).toNat = k1 at *
  generalize (addc (x * y + w + 0) v 0).toNat = k2 at *
  generalize (x * y + w + 0 + v + 0).toNat = t at *
  generalize (x * y + w + 0).toNat = u at *
  rw [hm]
  rw [hxy] at h1
  generalize x.toNat * y.toNat = P at *
  omega
theorem q_eqa0 {P : Program} {fr : List S} {H : Heap} {K : S → Heap → Prop} {od : Option Nat} {oty : TypeId} {ops_ : String} {oaf : Array Edge} {ogu : Option (Nat × Bool)} {t u : TypeId} {a b : Operand} {ti : TI} {n e : Nat} {ei : TI} {x y : List Int} [it_ : ArT P t ti n e ei 1] (h : K (sc (.bool (decide (x = y)))) H) (hek : ei.kind = .int .i64 := by exact rfl) (hpl : ti.plain = true := by exact rfl)
    (hx : ev fr a = sa (i64s x) := by first | exact et rfl | exact rfl) (hy : ev fr b = sa (i64s y) := by first | exact et rfl | exact rfl) (hlx : x.length = n := by first | omega | with_reducible assumption | exact (mapc_length ..).trans (by with_reducible assumption) | exact rfl | (simp; done)) (hly : y.length = n := by first | omega | with_reducible assumption | exact (mapc_length ..).trans (by with_reducible assumption) | exact rfl | (simp; done)) : ostep P ⟨od, .binOp .eql t a b u, oty, ops_, oaf, ogu⟩ fr H K :=
  eqArr rfl it_.ht it_.hk it_.he hek hpl it_.hs hx hy (mapc_allInt _) (mapc_allInt _) (by rw [mapc_length]; exact hlx) (by rw [mapc_length]; exact hly) (by rw [mapc_ints, mapc_ints, List.map_id', List.map_id']; rfl) h
/-! Regions, with the memory told plainly first. -/
section
variable {P : Program} {n N id : Nat} {Q : Exit → St → Prop} {ops : Array Oper} {al : List (Nat × S)} {H H' : Heap}
theorem rln (h : aops P ops.toList (Q .normal) ops.toList ⟨frm N al, H'⟩) (hH : H = H' := by first | (simp only [List.set_cons_zero, List.set_cons_succ, List.cons_append, List.nil_append, List.append_nil]; done) | (simp only [List.set_cons_zero, List.set_cons_succ, List.cons_append, List.nil_append, List.append_nil]; exact rfl) | exact rfl) (hn : Nat.ble n H'.length = true := by exact rfl) : AWp P n (.region id ops false) Q ⟨frm N al, H⟩ := by
  subst hH; exact awp_region (Nat.le_of_ble_eq_true hn) h
theorem rdln (es lo hi : List Nat) (h : Dw P ops.toList lo hi (Q .normal) ops.toList 0 es [H'] [] (frm N al)) (hH : H = H' := by first | (simp only [List.set_cons_zero, List.set_cons_succ, List.cons_append, List.nil_append, List.append_nil]; done) | (simp only [List.set_cons_zero, List.set_cons_succ, List.cons_append, List.nil_append, List.append_nil]; exact rfl) | exact rfl) (hn : Nat.ble n H'.length = true := by exact rfl) (hm : P.follows .mixedOrders = true := by exact rfl) (hB : drawE ops.toList es lo hi = true := by decide +kernel) : AWp P n (.region id ops true) Q ⟨frm N al, H⟩ := by
  subst hH; exact awp_drawE es lo hi hm hB (Nat.le_of_ble_eq_true hn) h
end
/-! In a region that draws its order: a struct or an array inside a block. -/
section
variable {P : Program} {N : Nat} {al : List (Nat × S)} {H : Heap} {ops r : List Oper} {q : St → Prop} {oty : TypeId} {ops_ : String} {oaf : Array Edge} {d j w : Nat} {want : Bool} {oj : Oper}
variable {lo hi : List Nat} {i : Nat} {rem : List Nat} {hist : List Heap} {pend : List (Nat × Heap)} {t : TypeId} {ti : TI} {x : Operand} {p o1 : Nat} {cs xs : List Cell}
theorem DLa [it : TiOf P t ti] (k : Dw P ops lo hi q r (i + 1) rem (H :: hist) ((hi.getD i 0, one p cs) :: pend) (frm N ((d, sa xs) :: al))) (hx : ev (frm N al) x = sc (.ptr p o1) := by first | exact et rfl | exact rfl) (_hp : H[p]? = some (some cs) := by exact rfl) (hk : ti.kind.agg = true := by exact rfl) (hz : Nat.blt 0 ti.size = true := by exact rfl) (hl : o1 + ti.size ≤ cs.length := by first | omega | with_reducible assumption | (simp only [List.length_set, List.length_append, List.length_replicate, List.length_take, List.length_drop, List.length_map, List.length_cons, List.length_nil, mapc_length] <;> omega) | exact rfl | exact Nat.le_of_ble_eq_true rfl | assumption) (hc : (cs.drop o1).take ti.size = xs := by first | exact rfl | exact cut_m) (hne : (rem.head? == some i) = false := by exact rfl)
    (hs : seen (one p cs) ((H :: hist).take ((hist.length + 1) - lo.getD i 0)) := by repeat' (first | exact trivial | exact sub_one rfl | refine And.intro ?_ ?_)) : Dw P ops lo hi q (⟨some d, .load t x, oty, ops_, oaf, none⟩ :: r) i rem (H :: hist) pend (frm N al) :=
  dR p rfl (tk rfl) hne hs (fun _ hv => r_lda rfl it.h hk hz hx hv hl hc ⟨rfl, rfl⟩) k
theorem DLag [it : TiOf P t ti] (k : Dw P ops lo hi q r (i + 1) rem (H :: hist) ((hi.getD i 0, one p cs) :: pend) (frm N ((d, sa xs) :: al))) (hx : ev (frm N al) x = sc (.ptr p o1) := by first | exact et rfl | exact rfl) (_hp : H[p]? = some (some cs) := by exact rfl) (hk : ti.kind.agg = true := by exact rfl) (hz : Nat.blt 0 ti.size = true := by exact rfl) (hl : o1 + ti.size ≤ cs.length := by first | omega | with_reducible assumption | (simp only [List.length_set, List.length_append, List.length_replicate, List.length_take, List.length_drop, List.length_map, List.length_cons, List.length_nil, mapc_length] <;> omega) | exact rfl | exact Nat.le_of_ble_eq_true rfl | assumption) (hc : (cs.drop o1).take ti.size = xs := by first | exact rfl | exact cut_m) (hne : (rem.head? == some i) = false := by exact rfl)
    (hs : seen (one p cs) ((H :: hist).take ((hist.length + 1) - lo.getD i 0)) := by repeat' (first | exact trivial | exact sub_one rfl | refine And.intro ?_ ?_)) (hj : ops[j]? = some oj := by exact rfl) (hjd : oj.dst = some w := by exact rfl) (hv : lkpB N al w = .v (.c (.bool want)) := by first | exact rfl | exact congrArg (fun b => S.v (V.c (Cell.bool b))) (by assumption) | exact congrArg (fun b => S.v (V.c (Cell.bool b))) (decide_eq_true (by assumption)) | exact congrArg (fun b => S.v (V.c (Cell.bool b))) (decide_eq_false (by assumption))) : Dw P ops lo hi q (⟨some d, .load t x, oty, ops_, oaf, some (j, want)⟩ :: r) i rem (H :: hist) pend (frm N al) :=
  dR p rfl (tkg rfl hj hjd hv) hne hs (fun _ hv => r_lda rfl it.h hk hz hx hv hl hc ⟨rfl, rfl⟩) k
end
/-! Several arrays are the result. -/
theorem fpc2 {P : Program} {st : St} {fn : Func} {v : S} {a0 t0 p0 a1 t1 p1 : Nat} {ti0 ti1 : TI} {ds0 ds1 : List Cell} {y0 y1 : V} [it0 : TiOf P t0 ti0] [it1 : TiOf P t1 ti1] (hl : fn.results.toList = [.cell a0 t0, .cell a1 t1] := by exact rfl) (hx0 : ev st.fr (.tmp a0) = sc (.ptr p0 0) := by first | exact et rfl | exact rfl) (hp0 : st.H[p0]? = some (some ds0) := by exact rfl) (hn0 : ds0.length = ti0.size := by first | omega | with_reducible assumption | exact (mapc_length ..).trans (by with_reducible assumption) | exact rfl) (hm0 : vm (cm ⟨fun p => idx p [], fun _ => none, true, false⟩ 8) (.a ds0) = y0 := by first | exact vs_m | exact rfl) (hk0 : ti0.kind.agg = true := by exact rfl) (hz0 : Nat.blt 0 ti0.size = true := by exact rfl) (hx1 : ev st.fr (.tmp a1) = sc (.ptr p1 0) := by first | exact et rfl | exact rfl) (hp1 : st.H[p1]? = some (some ds1) := by exact rfl) (hn1 : ds1.length = ti1.size := by first | omega | with_reducible assumption | exact (mapc_length ..).trans (by with_reducible assumption) | exact rfl) (hm1 : vm (cm ⟨fun p => idx p [], fun _ => none, true, false⟩ 8) (.a ds1) = y1 := by first | exact vs_m | exact rfl) (hk1 : ti1.kind.agg = true := by exact rfl) (hz1 : Nat.blt 0 ti1.size = true := by exact rfl) (hv : v = .t [y0, y1] := by exact rfl) : fin P fn 0 v [] st :=
  fin_g (ys := [y0, y1]) [] (by simp) List.nodup_nil hv hl (rva hx0 hp0 hn0 hm0 (rva hx1 hp1 hn1 hm1 rv0 hk1 hz1) hk0 hz0) rfl
theorem fpc3 {P : Program} {st : St} {fn : Func} {v : S} {a0 t0 p0 a1 t1 p1 a2 t2 p2 : Nat} {ti0 ti1 ti2 : TI} {ds0 ds1 ds2 : List Cell} {y0 y1 y2 : V} [it0 : TiOf P t0 ti0] [it1 : TiOf P t1 ti1] [it2 : TiOf P t2 ti2] (hl : fn.results.toList = [.cell a0 t0, .cell a1 t1, .cell a2 t2] := by exact rfl) (hx0 : ev st.fr (.tmp a0) = sc (.ptr p0 0) := by first | exact et rfl | exact rfl) (hp0 : st.H[p0]? = some (some ds0) := by exact rfl) (hn0 : ds0.length = ti0.size := by first | omega | with_reducible assumption | exact (mapc_length ..).trans (by with_reducible assumption) | exact rfl) (hm0 : vm (cm ⟨fun p => idx p [], fun _ => none, true, false⟩ 8) (.a ds0) = y0 := by first | exact vs_m | exact rfl) (hk0 : ti0.kind.agg = true := by exact rfl) (hz0 : Nat.blt 0 ti0.size = true := by exact rfl) (hx1 : ev st.fr (.tmp a1) = sc (.ptr p1 0) := by first | exact et rfl | exact rfl) (hp1 : st.H[p1]? = some (some ds1) := by exact rfl) (hn1 : ds1.length = ti1.size := by first | omega | with_reducible assumption | exact (mapc_length ..).trans (by with_reducible assumption) | exact rfl) (hm1 : vm (cm ⟨fun p => idx p [], fun _ => none, true, false⟩ 8) (.a ds1) = y1 := by first | exact vs_m | exact rfl) (hk1 : ti1.kind.agg = true := by exact rfl) (hz1 : Nat.blt 0 ti1.size = true := by exact rfl) (hx2 : ev st.fr (.tmp a2) = sc (.ptr p2 0) := by first | exact et rfl | exact rfl) (hp2 : st.H[p2]? = some (some ds2) := by exact rfl) (hn2 : ds2.length = ti2.size := by first | omega | with_reducible assumption | exact (mapc_length ..).trans (by with_reducible assumption) | exact rfl) (hm2 : vm (cm ⟨fun p => idx p [], fun _ => none, true, false⟩ 8) (.a ds2) = y2 := by first | exact vs_m | exact rfl) (hk2 : ti2.kind.agg = true := by exact rfl) (hz2 : Nat.blt 0 ti2.size = true := by exact rfl) (hv : v = .t [y0, y1, y2] := by exact rfl) : fin P fn 0 v [] st :=
  fin_g (ys := [y0, y1, y2]) [] (by simp) List.nodup_nil hv hl (rva hx0 hp0 hn0 hm0 (rva hx1 hp1 hn1 hm1 (rva hx2 hp2 hn2 hm2 rv0 hk2 hz2) hk1 hz1) hk0 hz0) rfl
end Go.Abs
