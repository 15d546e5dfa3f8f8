/- Texts that the proof stands on, put together: the abstract machine, and what functions do over it. -/
import Derived.Test.YtlidpcjinillfaaOutLowc
/- Each number but 0 is the x-coordinate of a point; several ladders. -/
namespace Go.Nt

theorem eul_c : eul (121665 * 121666) = -1 := by
  apply Fin.ext
  refine (pw_num (x := 121665 * 121666) (r := P - 1) (by decide) (by decide +kernel)).trans ?_
  decide +kernel
theorem k5_ne : (121665 : F) ≠ 0 := by decide
theorem k6_ne : (121666 : F) ≠ 0 := by decide
theorem nsq_mul {u v d : F} (_hu : u ≠ 0) (h : u * d = v) (hn : Nsq (v * u)) : Nsq d := by
  intro a b hab
  refine hn (u * a) b ?_
  subst h
  grind
theorem c_pos : Nsq (121665 * inv 121666) := nsq_mul (u := 121666) (v := 121665) k6_ne (by have := mul_inv k6_ne; generalize inv (121666 : F) = w at *; grind) (nsq_of eul_c)
theorem c_neg : Nsq (121666 * inv 121665) := nsq_mul (u := 121665) (v := 121666) k5_ne (by have := mul_inv k5_ne; generalize inv (121665 : F) = w at *; grind) (by have := nsq_of eul_c; rwa [show (121666 * 121665 : F) = 121665 * 121666 by grind])
theorem c1a {w : F} (h : 121666 * w = 1) : (1 + 243331 * 1) * (1 - 121665 * w) = 2 := by grind
theorem c2a {w : F} (h : 121666 * w = 1) : (243331 * 1 - 1) * (1 - 121665 * w) = 2 * (121665 * w) := by grind
theorem c1b {w : F} (h : 121665 * w = 1) : (1 + 243331 * -1) * (1 - 121666 * w) = 2 := by grind
theorem c2b {w : F} (h : 121665 * w = 1) : (243331 * -1 - 1) * (1 - 121666 * w) = 2 * (121666 * w) := by grind
def cvP : Cv := ⟨1, 121665 * inv 121666, by rw [f_m1], c1a (mul_inv k6_ne), c2a (mul_inv k6_ne), c_pos⟩
def cvN : Cv := ⟨-1, 121666 * inv 121665, by decide +kernel, c1b (mul_inv k5_ne), c2b (mul_inv k5_ne), c_neg⟩
theorem g_ne (x : F) : x * x + 486662 * x + 1 ≠ 0 := by
  intro h
  have e2 : (x + 243331) * (x + 243331) = (x * x + 486662 * x + 1) + 121665 * 121666 * (2 * 2) := by grind
  have e : (x + 243331) * (x + 243331) = 121665 * 121666 * (2 * 2) := by rw [e2, h, f_0a]
  exact two_ne (nsq_of eul_c _ _ e)
theorem on_a {x g w i r W : F} (hg : g = x * x + 486662 * x + 1) (hi : (x + 1) * i = 1) (hr : g * r = 1) (hw : w * w = 121666 * x * g) (hW : 121666 * W = 1) : 2 * w * r * (2 * w * r) + (x - 1) * i * ((x - 1) * i) = 1 + 121665 * W * (2 * w * r * (2 * w * r)) * ((x - 1) * i * ((x - 1) * i)) := by
  have e1 : 2 * w * r * (2 * w * r) = 4 * 121666 * x * r := by grind
  have e2 : g = 121666 * ((x + 1) * (x + 1)) - 121665 * ((x - 1) * (x - 1)) := by grind
  rw [e1]
  have e3 : 4 * 121666 * x * r * (1 - 121665 * W * ((x - 1) * i * ((x - 1) * i))) = 1 - (x - 1) * i * ((x - 1) * i) := by
    have e4 : 1 - 121665 * W * ((x - 1) * i * ((x - 1) * i)) = g * W * (i * i) := by grind
    rw [e4]
    have e5 : 4 * 121666 * x * r * (g * W * (i * i)) = 4 * x * (i * i) := by grind
    rw [e5]
    grind
  grind
theorem on_b {x g w i r W : F} (hg : g = x * x + 486662 * x + 1) (hi : (x - 1) * i = 1) (hr : g * r = 1) (hw : w * w = 121665 * x * g) (hW : 121665 * W = 1) : 2 * w * r * (2 * w * r) + (x + 1) * i * ((x + 1) * i) = 1 + 121666 * W * (2 * w * r * (2 * w * r)) * ((x + 1) * i * ((x + 1) * i)) := by
  have e1 : 2 * w * r * (2 * w * r) = 4 * 121665 * x * r := by grind
  have e2 : g = 121666 * ((x + 1) * (x + 1)) - 121665 * ((x - 1) * (x - 1)) := by grind
  rw [e1]
  have e3 : 4 * 121665 * x * r * (1 - 121666 * W * ((x + 1) * i * ((x + 1) * i))) = 1 - (x + 1) * i * ((x + 1) * i) := by
    have e4 : 1 - 121666 * W * ((x + 1) * i * ((x + 1) * i)) = -(g * W * (i * i)) := by grind
    rw [e4]
    have e5 : 4 * 121665 * x * r * -(g * W * (i * i)) = -(4 * x * (i * i)) := by grind
    rw [e5]
    grind
  grind
theorem ux_a {x i : F} (hi : (x + 1) * i = 1) : x * (1 - (x - 1) * i) = 1 * (1 + (x - 1) * i) := by grind
theorem ux_b {x i : F} (hi : (x - 1) * i = 1) : x * (1 - (x + 1) * i) = -1 * (1 + (x + 1) * i) := by grind
theorem exists_pt {x : F} (hx : x ≠ 0) : ∃ (C : Cv) (p : Pt), On C.d p ∧ x * (1 - p.y) = C.s * (1 + p.y) := by
  obtain ⟨g, hg⟩ : ∃ g, x * x + 486662 * x + 1 = g := ⟨_, rfl⟩
  have hg0 : g ≠ 0 := by rw [← hg]; exact g_ne x
  have hr := mul_inv hg0
  have hz : 121666 * x * g ≠ 0 := mul_ne (mul_ne k6_ne hx) hg0
  have hroot : ∀ q : F, eul q = 1 → ∃ w, w * w = q := fun q h => (root_of h).elim (fun e => ⟨_, e⟩) (fun e => ⟨_, e⟩)
  rcases eul_sq hz with he | he
  · obtain ⟨w, hw⟩ := hroot _ he
    have h1 : x + 1 ≠ 0 := by
      intro h
      have hx1 : x = -1 := by grind
      have : 121666 * x * g = 121665 * 121666 * (2 * 2) := by rw [← hg, hx1]; decide +kernel
      rw [this] at hw
      exact two_ne (nsq_of eul_c _ _ hw)
    exact ⟨cvP, ⟨2 * w * inv g, (x - 1) * inv (x + 1)⟩, on_a hg.symm (mul_inv h1) hr hw (mul_inv k6_ne), ux_a (mul_inv h1)⟩
  · have he2 : eul (121665 * x * g) = 1 := by
      have e : 121665 * x * g * (121666 * 121666) = 121665 * 121666 * (121666 * x * g) := by grind
      have h2 := congrArg eul e
      rw [eul_mul, eul_of_sq k6_ne, f_m1, eul_mul (121665 * 121666), eul_c, he] at h2
      rw [h2]; decide +kernel
    obtain ⟨w, hw⟩ := hroot _ he2
    have h1 : x - 1 ≠ 0 := by
      intro h
      have hx1 : x = 1 := by grind
      have : 121666 * x * g = 2 * 121666 * (2 * 121666) := by rw [← hg, hx1]; decide +kernel
      rw [this, eul_of_sq (mul_ne two_ne k6_ne)] at he
      exact one_ne_neg he
    exact ⟨cvN, ⟨2 * w * inv g, (x + 1) * inv (x - 1)⟩, on_b hg.symm (mul_inv h1) hr hw (mul_inv k5_ne), ux_b (mul_inv h1)⟩
theorem lz1 {a : F} : ((a + 0) * (a + 0) - (a - 0) * (a - 0)) * ((a + 0) * (a + 0) + 121665 * ((a + 0) * (a + 0) - (a - 0) * (a - 0))) = 0 := by rw [f_a0, f_s0, f_ss, f_0m]
theorem lz2 {t : F} : 0 * t = 0 := f_0m t
theorem lz3 {a c : F} (h : a * c = 0) : (a + 0) * (a + 0) * ((a - 0) * (a - 0)) * (((c + 0) * (a - 0) + (c - 0) * (a + 0)) * ((c + 0) * (a - 0) + (c - 0) * (a + 0))) = 0 := by
  simp only [f_a0, f_s0]
  rw [show c * a = 0 by rw [← h]; grind, f_a0, f_m0, f_m0]
theorem lz4 : ((1 : F) + 0) * (1 + 0) * ((1 - 0) * (1 - 0)) * (((0 + 1) * (1 - 0) + (0 - 1) * (1 + 0)) * ((0 + 1) * (1 - 0) + (0 - 1) * (1 + 0))) = 0 := by decide +kernel
theorem lz5 {a c : F} (h : a * c = 0) : ((a + 0) * (c - 0) + (a - 0) * (c + 0)) * ((a + 0) * (c - 0) + (a - 0) * (c + 0)) * ((c + 0) * (c + 0) * ((c - 0) * (c - 0))) = 0 := by
  simp only [f_a0, f_s0]
  rw [h, f_a0, f_0m, f_0m]
theorem lz6 : (((0 : F) + 1) * (0 + 1) - (0 - 1) * (0 - 1)) * ((0 + 1) * (0 + 1) + 121665 * ((0 + 1) * (0 + 1) - (0 - 1) * (0 - 1))) = 0 := by decide +kernel
theorem lz7 : (((1 : F) + 0) * (0 - 1) + (1 - 0) * (0 + 1)) * ((1 + 0) * (0 - 1) + (1 - 0) * (0 + 1)) * ((0 + 1) * (0 + 1) * ((0 - 1) * (0 - 1))) = 0 := by decide +kernel
/-- The ladder of 0 comes to 0. -/
theorem lad_zero (k : Nat) : ∀ i, (lad k 0 i).b = 0 ∧ ((lad k 0 i).d = 0 ∨ ((lad k 0 i).a = 1 ∧ (lad k 0 i).c = 0 ∧ (lad k 0 i).d = 1)) ∧ ((lad k 0 i).d = 0 → (lad k 0 i).a * (lad k 0 i).c = 0)
  | 0 => ⟨rfl, .inr ⟨rfl, rfl, rfl⟩, fun h => absurd h one_ne⟩
  | i + 1 => by
    obtain ⟨h1, h2, h3⟩ := lad_zero k i
    rw [lad]
    generalize lad k 0 i = s at *
    obtain ⟨a, b, c, d⟩ := s
    simp only at h1 h2 h3
    subst h1
    cases k.testBit (254 - i)
    · simp only [lswap, lstep, if_neg (show ¬ (false = true) by decide)]
      refine ⟨lz1, .inl lz2, fun _ => ?_⟩
      rcases h2 with rfl | ⟨rfl, rfl, rfl⟩
      · exact lz3 (h3 rfl)
      · exact lz4
    · simp only [lswap, lstep, if_pos]
      rcases h2 with rfl | ⟨rfl, rfl, rfl⟩
      · exact ⟨lz2, .inl lz1, fun _ => lz5 (h3 rfl)⟩
      · exact ⟨lz2, .inl lz6, fun _ => lz7⟩
theorem ladder_zero (k : Nat) : ladder k 0 = 0 := by
  unfold ladder lout
  rw [(lad_zero k 255).1, inv_zero, f_m0]
theorem flat_x {d : F} (hd : Nsq d) {p : Pt} (hp : On d p) (hy : p.y * p.y = 1) : p.x = 0 := by
  obtain ⟨x, y⟩ := p
  simp only [On] at hp hy
  have h1 := one_sub_ne hd 1
  rw [f_m1, f_m1] at h1
  rw [hy] at hp
  have e : x * x * (1 - d) = 0 := by grind
  exact sq_zero ((no_zero e).resolve_right h1)
theorem flat_add {d : F} {y z : F} (hy : y * y = 1) (hz : z * z = 1) : (padd d ⟨0, y⟩ ⟨0, z⟩).y * (padd d ⟨0, y⟩ ⟨0, z⟩).y = 1 := by
  simp only [padd, f_0m, f_m0, f_s0, inv_one, f_m1]
  grind
theorem flat_smul {d : F} (hd : Nsq d) {p : Pt} (hp : On d p) (hy : p.y * p.y = 1) : ∀ n, (smul d p n).y * (smul d p n).y = 1
  | 0 => f_m1 1
  | n + 1 => by
    have ih := flat_smul hd hp hy n
    have o := on_smul hd hp n
    have hx := flat_x hd hp hy
    have hx2 := flat_x hd o ih
    rw [smul]
    generalize smul d p n = q at *
    obtain ⟨x1, y1⟩ := p
    obtain ⟨x2, y2⟩ := q
    simp only at hx hx2 ih hy
    subst hx hx2
    exact flat_add ih hy
theorem ux_flat {s y : F} (hy : y * y = 1) : ux s y = 0 := by
  unfold ux
  rcases sq_one hy with e | e
  · rw [e, f_ss, inv_zero, f_m0]
  · rw [e, f_an, f_m0, f_0m]
/-- Points of small order. -/
theorem ladder_low {x : F} (hx : x = 0 ∨ x = 1 ∨ x = -1) (k : Nat) (hk : 8 * k < 2 ^ 255) : ladder (8 * k) x = 0 := by
  rcases hx with e | e
  · rw [e, ladder_zero]
  · have hxx : x * x = 1 := by rcases e with e | e <;> rw [e] <;> decide +kernel
    have hx : x ≠ 0 := by rintro rfl; rw [f_m0] at hxx; exact one_ne hxx.symm
    obtain ⟨C, p, hp, hu⟩ := exists_pt hx
    rw [ladder_eq C hp hx hu _ hk, show 8 * k = 2 * (4 * k) by omega, ← smul_smul C.ns hp]
    have hy : p.y = 0 := by
      have hs := C.ss
      rcases sq_eq (hxx.trans hs.symm) with e | e
      · have h2 : 2 * (C.s * p.y) = 0 := by rw [e] at hu; grind
        exact (no_zero ((no_zero h2).resolve_left two_ne)).resolve_left (s_ne hs)
      · have h2 : 2 * C.s = 0 := by rw [e] at hu; grind
        exact absurd h2 (mul_ne two_ne (s_ne hs))
    have o2 := on_smul C.ns hp 2
    refine ux_flat (flat_smul C.ns o2 ?_ (4 * k))
    obtain ⟨x', y'⟩ := p
    simp only at hy
    subst hy
    simp only [On, f_m0, f_a0, f_0m] at hp
    rw [show smul C.d ⟨x', 0⟩ 2 = padd C.d ⟨x', 0⟩ ⟨x', 0⟩ by rw [smul, smul, smul, padd_id']]
    simp only [padd, f_m0, f_0m, f_a0, f_s0, inv_one, f_m1]
    grind
end Go.Nt

/- The abstract machine: a block is told under another number, and no longer under its old one. -/
namespace Go.Abs
open Go

/-- What a slot holds is told as before, or as a slice or a pointer into the new number. -/
def SubM (p q : Nat) (al : List (Nat × S)) : List (Nat × S) → Prop
  | [] => True
  | (t, s) :: r => (lkp al t = s ∨ (∃ o n sz, lkp al t = sc (.slc p o n sz) ∧ s = sc (.slc q o n sz)) ∨ (∃ o, lkp al t = sc (.ptr p o) ∧ s = sc (.ptr q o))) ∧ SubM p q al r

theorem subm_get {p q : Nat} {al : List (Nat × S)} : ∀ {al' : List (Nat × S)}, SubM p q al al' → ∀ t, lkp al' t = ud ∨ lkp al' t = lkp al t ∨ (∃ o n sz, lkp al t = sc (.slc p o n sz) ∧ lkp al' t = sc (.slc q o n sz)) ∨ (∃ o, lkp al t = sc (.ptr p o) ∧ lkp al' t = sc (.ptr q o))
  | [], _, _ => .inl rfl
  | (i, s) :: r, h, t => by
    simp only [SubM] at h
    simp only [lkp]
    cases hb : Nat.beq i t with
    | true =>
      have := Nat.eq_of_beq_eq_true hb
      subst this
      rw [cond_true]
      rcases h.1 with h | h | h
      · exact .inr (.inl h.symm)
      · exact .inr (.inr (.inl h))
      · exact .inr (.inr (.inr h))
    | false => rw [cond_false]; exact subm_get h.2 t

theorem sle_move {n N p : Nat} {al al' : List (Nat × S)} {H : Heap} {cs : List Cell} (hp : H[p]? = some (some cs)) (hn : n ≤ H.length) (hf : SubM p H.length al al') : SLe n ⟨frm N al, H⟩ ⟨frm N al', H.set p none ++ [some cs]⟩ := by
  intro E ρ a w hs
  have hpl : p < H.length := (List.getElem?_eq_some_iff.1 hp).1
  let ρ' : Nat → Place := fun q => if q = H.length then ρ p else ρ q
  have hρ : ∀ q, q < H.length → ρ' q = ρ q := fun q hq => if_neg (by omega)
  have hρl : ρ' H.length = ρ p := if_pos rfl
  have hlen : (H.set p none ++ [some cs]).length = H.length + 1 := by simp
  have hle : (E.rl H.length ρ).Le (E.rl (H.set p none ++ [some cs]).length ρ') := ⟨fun b hb => ⟨hb, rfl⟩, fun q hq => ⟨by
    show q < (H.set p none ++ [some cs]).length
    have hq' : q < H.length := hq
    rw [hlen]; omega, hρ q hq⟩⟩
  have hget : ∀ q ds, (H.set p none ++ [some cs])[q]? = some (some ds) → (q < H.length ∧ q ≠ p ∧ H[q]? = some (some ds)) ∨ (q = H.length ∧ ds = cs) := by
    intro q ds hq
    by_cases hlt : q < H.length
    · rw [List.getElem?_append_left (by simpa using hlt), List.getElem?_set] at hq
      by_cases e : p = q
      · rw [if_pos e] at hq; split at hq <;> simp at hq
      · rw [if_neg e] at hq; exact .inl ⟨hlt, fun h => e h.symm, hq⟩
    · have h1 := (List.getElem?_eq_some_iff.1 hq).1
      rw [hlen] at h1
      have h2 : q = H.length := by omega
      rw [List.getElem?_append_right (by simp; omega)] at hq
      simp [h2] at hq
      exact .inr ⟨h2, hq.symm⟩
  refine ⟨ρ', fun q hq => hρ q (by omega), ⟨hs.fr.1, by rw [frm_length]; have := hs.fr.2.1; rwa [frm_length] at this, fun t s ht => ?_⟩, ?_⟩
  · have hlt : t < N := by
      have := (List.getElem?_eq_some_iff.1 ht).1
      rwa [frm_length] at this
    rw [frm_get hlt] at ht
    obtain rfl := Option.some.inj ht
    obtain ⟨v, k1, k2⟩ := hs.fr.2.2 t _ (frm_get hlt)
    refine ⟨v, k1, ?_⟩
    have hq1 : H.length < (H.set p none ++ [some cs]).length := by rw [hlen]; omega
    rcases subm_get hf t with h | h | ⟨o, m, sz, h, h'⟩ | ⟨o, h, h'⟩
    · rw [h]; simp [ud, SRel, VRel, CRel]
    · rw [h]; exact SRel.mono hle _ _ k2
    · rw [h']
      rw [h] at k2
      simp only [SRel, VRel, CRel] at k2 ⊢
      refine ⟨hq1, ?_⟩
      show ∃ a c, v = .slice a m c ∧ m ≤ c ∧ ((a = some ⟨(ρ' H.length).blk, (ρ' H.length).dl + o, none⟩ ∧ (ρ' H.length).dl + o + c * sz ≤ (ρ' H.length).room) ∨ c = 0)
      rw [hρl]; exact k2.2
    · rw [h']
      rw [h] at k2
      simp only [SRel, VRel, CRel] at k2 ⊢
      refine ⟨hq1, ?_⟩
      show v = .pointer (some ⟨(ρ' H.length).blk, (ρ' H.length).dl + o, none⟩)
      rw [hρl]; exact k2.2
  · have hh := hs.heap
    refine ⟨hh.os, hh.tape, hh.output, hh.size, hh.frame, fun q ds hq hr => ?_, fun q r ds es hq hr' hrq hrr he => ?_, fun q ds hq hr => ?_, fun q ds hq hr => ?_⟩
    · rcases hget q ds hq with ⟨h1, h2, h3⟩ | ⟨rfl, rfl⟩
      · rw [hρ q h1] at hr ⊢; exact hh.fresh q ds h3 hr
      · rw [hρl] at hr ⊢; exact hh.fresh p ds hp hr
    · rcases hget q ds hq with ⟨h1, h2, h3⟩ | ⟨rfl, rfl⟩
      · rw [hρ q h1] at hrq he
        rcases hget r es hr' with ⟨k1, k2, k3⟩ | ⟨rfl, rfl⟩
        · rw [hρ r k1] at hrr he; exact hh.inj q r ds es h3 k3 hrq hrr he
        · rw [hρl] at hrr he
          exact absurd (hh.inj q p ds es h3 hp hrq hrr he) h2
      · rw [hρl] at hrq he
        rcases hget r es hr' with ⟨k1, k2, k3⟩ | ⟨e, _⟩
        · rw [hρ r k1] at hrr he
          exact absurd (hh.inj p r ds es hp k3 hrq hrr he).symm k2
        · exact e.symm
    · rcases hget q ds hq with ⟨h1, h2, h3⟩ | ⟨rfl, rfl⟩
      · rw [hρ q h1] at hr ⊢; exact (hh.blk q ds h3 hr).mono hle rfl
      · rw [hρl] at hr ⊢; exact (hh.blk p ds hp hr).mono hle rfl
    · rcases hget q ds hq with ⟨h1, h2, h3⟩ | ⟨rfl, rfl⟩
      · rw [hρ q h1] at hr; exact hh.emp q ds h3 hr
      · rw [hρl] at hr; exact hh.emp p ds hp hr
theorem sle_mv {n N : Nat} {al al' : List (Nat × S)} {H H' : Heap} {cs : List Cell} (p : Nat) (hp : H[p]? = some (some cs)) (hn : n ≤ H.length) (hf : SubM p H.length al al') (hH : H' = H.set p none ++ [some cs]) : SLe n ⟨frm N al, H⟩ ⟨frm N al', H'⟩ := by
  rw [hH]; exact sle_move hp hn hf
theorem pi1 {r : List Nat} (p : Nat) (h : p < 1) : (0 :: r)[p]? = some p := by
  have : p = 0 := by omega
  subst this; rfl
theorem fxc {P : Program} {st : St} {fn : Func} {v : S} {H' : Heap} {n : Nat} {a t p : Nat} {ti : TI} {ds : List Cell} {y : V} [it : TiOf P t ti] (π : List Nat) (hl : fn.results.toList = [.cell a t] := by exact rfl) (hx : ev st.fr (.tmp a) = sc (.ptr p 0) := by first | exact et rfl | exact rfl) (hp : st.H[p]? = some (some ds) := by exact rfl) (hd : ds.length = ti.size := by first | exact rfl | (simp; done) | omega) (hk : ti.kind.agg = true := by exact rfl) (hz : Nat.blt 0 ti.size = true := by exact rfl) (hm : vm (cm ⟨fun p => idx p π, fun _ => none, true, false⟩ 8) (.a ds) = y := by first | exact vs_m | exact rfl) (hH : π.map (pick st.H (cm ⟨fun p => idx p π, fun _ => none, true, false⟩ 8)) = H' := by first | exact rfl | (repeat' (first | exact pl0 | refine pl1 rfl (by first | exact sees_m | exact rfl) ?_))) (hv : v = .v y := by exact rfl) (hnd : π.Nodup := by decide) (hn : ∀ p, p < n → π[p]? = some p := by first | exact fun p h => absurd h (Nat.not_lt_zero _) | exact pi1 | exact pi01 | exact pi012) : fin P fn n v H' st :=
  fin_g (ys := [y]) π hn hnd hv hl (rva hx hp hd hm rv0 hk hz) hH.symm
theorem fpct {P : Program} {st : St} {fn : Func} {v : S} {a t p t1 : Nat} {ti : TI} {ds : List Cell} {y x1 y1 : V} [it : TiOf P t ti] (hl : fn.results.toList = [.cell a t, .tmp t1] := by exact rfl) (hx : ev st.fr (.tmp a) = sc (.ptr p 0) := by first | exact et rfl | exact rfl) (hp : st.H[p]? = some (some ds) := by exact rfl) (hd : ds.length = ti.size := by first | exact rfl | (simp; done) | omega) (hk : ti.kind.agg = true := by exact rfl) (hz : Nat.blt 0 ti.size = true := by exact rfl) (hm : vm (cm ⟨fun p => idx p [], fun _ => none, true, false⟩ 8) (.a ds) = y := by first | exact vs_m | exact rfl)
    (hx1 : ev st.fr (.tmp t1) = .v x1 := by first | exact et rfl | exact rfl) (hm1 : vm (cm ⟨fun p => idx p [], fun _ => none, true, false⟩ 8) x1 = y1 := by first | exact vs_int | exact vs_bool | exact vs_m | exact vs_str | exact vs_nilp | exact rfl) (hv : v = .t [y, y1] := by exact rfl) : fin P fn 0 v [] st :=
  fin_g (ys := [y, y1]) [] (by simp) List.nodup_nil hv hl (rva hx hp hd hm (rvt hx1 hm1 rv0) hk hz) rfl
end Go.Abs

/- What functions of the program do, walked over the abstract machine. -/
namespace Go.Proofs.Ytlidpcjinillfaa.Rn
open Go Go.Abs Go.Proofs

open Go.Nt Fd

/-- The number of the first digits. -/
def Dv (d : List UInt64) : Nat → Nat
  | 0 => 0
  | i + 1 => Dv d i + 65536 ^ i * (d.getD i 0).toNat
theorem getD_set (d : List UInt64) (i j : Nat) (x : UInt64) (h : i < d.length) : (d.set i x).getD j 0 = if i = j then x else d.getD j 0 := by
  simp only [List.getD_eq_getElem?_getD, List.getElem?_set]
  by_cases e : i = j
  · subst e; simp [h]
  · simp [e]
theorem Dv_congr {d e : List UInt64} : ∀ n, (∀ i, i < n → d.getD i 0 = e.getD i 0) → Dv d n = Dv e n
  | 0, _ => rfl
  | n + 1, h => by rw [Dv, Dv, Dv_congr n fun i hi => h i (by omega), h n (by omega)]
theorem Dv_set (d : List UInt64) (i : Nat) (x : UInt64) (h : i < d.length) : ∀ n, i < n → Dv (d.set i x) n + 65536 ^ i * (d.getD i 0).toNat = Dv d n + 65536 ^ i * x.toNat
  | 0, hn => by omega
  | n + 1, hn => by
    rw [Dv, Dv]
    by_cases e : i = n
    · subst e
      rw [getD_set d i i x h, if_pos rfl, Dv_congr (e := d) i fun j hj => by rw [getD_set d i j x h, if_neg (by omega)]]
      omega
    · have := Dv_set d i x h n (by omega)
      rw [getD_set d i n x h, if_neg e]
      omega
theorem Dv_lt (d : List UInt64) : ∀ n, (∀ i, i < n → (d.getD i 0).toNat < 65536) → Dv d n < 65536 ^ n
  | 0, _ => by simp [Dv]
  | n + 1, h => by
    have h1 := Dv_lt d n fun i hi => h i (by omega)
    have h2 := h n (by omega)
    have h3 : 65536 ^ n * (d.getD n 0).toNat ≤ 65536 ^ n * 65535 := Nat.mul_le_mul_left _ (by omega)
    rw [Dv, Nat.pow_succ]; omega
theorem Dv_zero (m : Nat) : ∀ n, Dv (List.replicate m 0) n = 0
  | 0 => rfl
  | n + 1 => by
    rw [Dv, Dv_zero m n]
    have : (List.replicate m (0 : UInt64)).getD n 0 = 0 := by
      rw [List.getD_eq_getElem?_getD, List.getElem?_replicate]; split <;> rfl
    rw [this]; rfl
theorem Dv_add (d : List UInt64) (a : Nat) : ∀ b, Dv d (a + b) = Dv d a + 65536 ^ a * Dv (d.drop a) b
  | 0 => by simp [Dv]
  | b + 1 => by
    have e : (d.drop a).getD b 0 = d.getD (a + b) 0 := by simp [List.getD_eq_getElem?_getD, List.getElem?_drop]
    rw [← Nat.add_assoc, Dv, Dv_add d a b, Dv, Nat.pow_add, Nat.mul_add, Nat.mul_assoc, e]
    omega
theorem rep_get (m n : Nat) : (List.replicate m (0 : UInt64)).getD n 0 = 0 := by
  rw [List.getD_eq_getElem?_getD, List.getElem?_replicate]; split <;> rfl
theorem getD_out (d : List UInt64) (i : Nat) (h : d.length ≤ i) : d.getD i 0 = 0 := by
  rw [List.getD_eq_getElem?_getD, List.getElem?_eq_none h]; rfl
/-- Digits that are no great ones. -/
def Bd (d : List UInt64) (b : Nat) : Prop := ∀ i, (d.getD i 0).toNat ≤ b
theorem Bd.mono {d : List UInt64} {a b : Nat} (h : Bd d a) (hab : a ≤ b) : Bd d b := fun i => Nat.le_trans (h i) hab
theorem Bd.lt {d : List UInt64} (h : Bd d 65535) (n : Nat) : Dv d n < 65536 ^ n := Dv_lt d n fun i _ => by have := h i; omega
theorem Dv_digit (d : List UInt64) (h : Bd d 65535) (n i : Nat) (hi : i < n) : Dv d n / 65536 ^ i % 65536 = (d.getD i 0).toNat := by
  obtain ⟨b, rfl⟩ : ∃ b, n = i + (1 + b) := ⟨n - i - 1, by omega⟩
  have h1 := h.lt i
  have h2 := h i
  have e : (d.drop i).getD 0 0 = d.getD i 0 := by simp [List.getD_eq_getElem?_getD, List.getElem?_drop]
  rw [Dv_add, Dv_add (d.drop i) 1 b, Dv, Dv, e, Nat.pow_zero, Nat.one_mul, Nat.zero_add, Nat.pow_one, Nat.add_comm (Dv d i), Nat.mul_add_div (Nat.pow_pos (by decide)), Nat.div_eq_of_lt h1]
  omega
theorem Dv_inj {d e : List UInt64} {n : Nat} (hd : d.length = n) (he : e.length = n) (h1 : Bd d 65535) (h2 : Bd e 65535) (h : Dv d n = Dv e n) : d = e := by
  refine List.ext_getElem (by omega) fun i g1 g2 => ?_
  have k1 := Dv_digit d h1 n i (by omega)
  have k2 := Dv_digit e h2 n i (by omega)
  rw [h, k2] at k1
  have := UInt64.toNat_inj.1 k1
  simpa [List.getD_eq_getElem?_getD, g1, g2] using this.symm
theorem mod65 (x : UInt64) : (x % 65536).toNat = x.toNat % 65536 := by rw [UInt64.toNat_mod]; rfl
theorem div65 (x : UInt64) : (x / 65536).toNat = x.toNat / 65536 := by rw [UInt64.toNat_div]; rfl
/-- Digits of a number. -/
def dgk : Nat → Nat → List UInt64
  | 0, _ => []
  | k + 1, n => UInt64.ofNat (n % 65536) :: dgk k (n / 65536)
theorem dgk_len : ∀ k n, (dgk k n).length = k
  | 0, _ => rfl
  | k + 1, n => by rw [dgk, List.length_cons, dgk_len]
theorem dgk_get : ∀ k n i, i < k → (dgk k n).getD i 0 = UInt64.ofNat (n / 65536 ^ i % 65536)
  | 0, _, i, h => by omega
  | k + 1, n, 0, _ => by rw [dgk, Nat.pow_zero, Nat.div_one]; rfl
  | k + 1, n, i + 1, h => by
    rw [dgk, Nat.pow_succ', ← Nat.div_div_eq_div_mul]
    exact dgk_get k (n / 65536) i (by omega)
theorem dgk_bd (k n : Nat) : Bd (dgk k n) 65535 := fun i => by
  by_cases h : i < k
  · rw [dgk_get k n i h, UInt64.toNat_ofNat']
    have := Nat.mod_lt (n / 65536 ^ i) (y := 65536) (by decide)
    omega
  · rw [getD_out _ _ (by rw [dgk_len]; omega)]; decide
theorem dgk_v (k n : Nat) : ∀ i, i ≤ k → Dv (dgk k n) i = n % 65536 ^ i
  | 0, _ => by simp [Dv, Nat.mod_one]
  | i + 1, h => by
    have := Nat.mod_lt (n / 65536 ^ i) (y := 65536) (by decide)
    rw [Dv, dgk_v k n i (by omega), dgk_get k n i (by omega), UInt64.toNat_ofNat', Nat.mod_eq_of_lt (b := 2 ^ 64) (by omega), Nat.mod_pow_succ]
abbrev dg (n : Nat) : List UInt64 := dgk 16 n
theorem dg_len (n : Nat) : (dg n).length = 16 := dgk_len 16 n
theorem dg_v (n : Nat) (h : n < 115792089237316195423570985008687907853269984665640564039457584007913129639936) : Dv (dg n) 16 = n := by rw [dgk_v 16 n 16 (by decide)]; exact Nat.mod_eq_of_lt h
theorem dg_of {l : List UInt64} {n : Nat} (hl : l.length = 16) (hb : Bd l 65535) (h : Dv l 16 = n) : l = dg n := by
  have hn : n < 115792089237316195423570985008687907853269984665640564039457584007913129639936 := by rw [← h]; exact hb.lt 16
  exact Dv_inj hl (dg_len n) hb (dgk_bd 16 n) (by rw [dg_v n hn, h])
theorem q16 : (65536 : Nat) ^ 16 = 115792089237316195423570985008687907853269984665640564039457584007913129639936 := by decide
/-- Carries. -/
def nrm (d : List UInt64) : Nat → List UInt64 × UInt64
  | 0 => (d, 0)
  | i + 1 => ((nrm d i).1.set i (((nrm d i).1.getD i 0 + (nrm d i).2) % 65536), ((nrm d i).1.getD i 0 + (nrm d i).2) / 65536)
theorem nrm_len (d : List UInt64) : ∀ i, (nrm d i).1.length = d.length
  | 0 => rfl
  | i + 1 => by rw [nrm, List.length_set, nrm_len]
theorem nrm_spec (d : List UInt64) (hb : Bd d 9223372036854775808) : ∀ i, i ≤ d.length → (∀ j, i ≤ j → (nrm d i).1.getD j 0 = d.getD j 0) ∧ (∀ j, j < i → ((nrm d i).1.getD j 0).toNat < 65536) ∧
    (nrm d i).2.toNat ≤ 281474976710656 ∧ Dv d i = Dv (nrm d i).1 i + 65536 ^ i * (nrm d i).2.toNat
  | 0, _ => ⟨fun _ _ => rfl, fun j h => by omega, by show (0 : UInt64).toNat ≤ _; decide, by simp [Dv, nrm]⟩
  | i + 1, hi => by
    obtain ⟨h1, h2, h3, h4⟩ := nrm_spec d hb i (by omega)
    have hl := nrm_len d i
    have e := h1 i (Nat.le_refl _)
    have hd := hb i
    have hx : ((nrm d i).1.getD i 0 + (nrm d i).2).toNat = (d.getD i 0).toNat + (nrm d i).2.toNat := by
      rw [e, UInt64.toNat_add]; omega
    rw [nrm]
    refine ⟨fun j hj => ?_, fun j hj => ?_, ?_, ?_⟩
    · rw [getD_set _ _ _ _ (by omega), if_neg (by omega)]; exact h1 j (by omega)
    · rw [getD_set _ _ _ _ (by omega)]
      split
      · rw [mod65]; omega
      · exact h2 j (by omega)
    · rw [div65, hx]; omega
    · rw [Dv, h4, Dv, getD_set _ _ _ _ (by omega), if_pos rfl, mod65, div65, hx, Nat.pow_succ, Nat.mul_assoc,
        Dv_congr (d := (nrm d i).1.set i (((nrm d i).1.getD i 0 + (nrm d i).2) % 65536)) (e := (nrm d i).1) i fun j hj => by rw [getD_set _ _ _ _ (by omega), if_neg (by omega)]]
      generalize (nrm d i).2.toNat = c
      generalize (d.getD i 0).toNat = u
      have : 65536 ^ i * ((u + c) % 65536) + 65536 ^ i * (65536 * ((u + c) / 65536)) = 65536 ^ i * (u + c) := by rw [← Nat.mul_add, Nat.mod_add_div]
      rw [Nat.mul_add] at this
      omega
def carL (d : List UInt64) : List UInt64 := if (nrm d d.length).2 = 0 then (nrm d d.length).1 else (nrm d d.length).1 ++ [(nrm d d.length).2]
theorem getD_app (l : List UInt64) (x : UInt64) (j : Nat) : (l ++ [x]).getD j 0 = if j < l.length then l.getD j 0 else if j = l.length then x else 0 := by
  simp only [List.getD_eq_getElem?_getD, List.getElem?_append]
  split
  · rfl
  · split
    · rename_i e; subst e; simp
    · have : j - l.length ≠ 0 := by omega
      rw [List.getElem?_eq_none (by simp; omega)]; rfl
theorem car_c {d : List UInt64} {n : Nat} (hl : d.length = n) (hb : Bd d 9223372036854775808) (hv : Dv d n < 65536 ^ (n + 1)) : (nrm d n).2.toNat < 65536 := by
  obtain ⟨_, _, _, h4⟩ := nrm_spec d hb n (by omega)
  rw [Nat.pow_succ] at hv
  have : 65536 ^ n * (nrm d n).2.toNat < 65536 ^ n * 65536 := by omega
  exact Nat.lt_of_mul_lt_mul_left this
theorem carL_spec {d : List UInt64} {n : Nat} (hl : d.length = n) (hb : Bd d 9223372036854775808) (hv : Dv d n < 65536 ^ (n + 1)) :
    Bd (carL d) 65535 ∧ Dv (carL d) (carL d).length = Dv d n ∧ ((carL d).length = n ∨ (carL d).length = n + 1) ∧ (Dv d n < 65536 ^ n → (carL d).length = n) := by
  have hc := car_c hl hb hv
  obtain ⟨h1, h2, h3, h4⟩ := nrm_spec d hb n (by omega)
  have hN := (nrm_len d n).trans hl
  have hB : Bd (nrm d n).1 65535 := fun i => by
    by_cases h : i < n
    · have := h2 i h; omega
    · rw [getD_out _ _ (by omega)]; decide
  unfold carL
  rw [hl]
  split
  · rename_i h0
    rw [h0, show UInt64.toNat 0 = 0 from rfl, Nat.mul_zero, Nat.add_zero] at h4
    exact ⟨hB, by rw [hN]; exact h4.symm, .inl hN, fun _ => hN⟩
  · rename_i h0
    have hc0 : (nrm d n).2.toNat ≠ 0 := fun e => h0 (UInt64.toNat_inj.1 e)
    have hL : ((nrm d n).1 ++ [(nrm d n).2]).length = n + 1 := by rw [List.length_append, hN]; rfl
    refine ⟨fun i => ?_, ?_, .inr hL, fun h => ?_⟩
    · rw [getD_app]
      split
      · exact hB i
      · split
        · omega
        · decide
    · rw [hL, Dv, getD_app, if_neg (by omega), if_pos hN.symm, h4, Dv_congr (e := (nrm d n).1) n fun j hj => by rw [getD_app, if_pos (by omega)]]
    · exfalso
      have : 65536 ^ n * 1 ≤ 65536 ^ n * (nrm d n).2.toNat := Nat.mul_le_mul_left _ (by omega)
      omega
theorem carL_id {d : List UInt64} (hb : Bd d 65535) : carL d = d := by
  have hv := hb.lt d.length
  obtain ⟨h1, h2, h3, h4⟩ := carL_spec rfl (hb.mono (by decide)) (Nat.lt_of_lt_of_le hv (Nat.pow_le_pow_right (by decide) (by omega)))
  have hl := h4 hv
  rw [hl] at h2
  exact Dv_inj hl rfl h1 hb h2
/-- What stands from 2^256 on comes down. -/
def fl38 (d : List UInt64) : Nat → List UInt64
  | 0 => d.take 16
  | j + 1 => (fl38 d j).set (16 + j - 16) ((fl38 d j).getD (16 + j - 16) 0 + 38 * d.getD (16 + j) 0)
theorem fl38_len (d : List UInt64) (h : 16 ≤ d.length) : ∀ j, (fl38 d j).length = 16
  | 0 => by rw [fl38, List.length_take]; omega
  | j + 1 => by rw [fl38, List.length_set, fl38_len d h]
theorem fl38_spec (d : List UInt64) (h : 16 ≤ d.length) (hb : Bd d 65535) : ∀ j, j ≤ 16 → (∀ k, j ≤ k → (fl38 d j).getD k 0 = (d.take 16).getD k 0) ∧ Bd (fl38 d j) 2555865 ∧ Dv (fl38 d j) 16 = Dv d 16 + 38 * Dv (d.drop 16) j
  | 0, _ => by
    have hg : ∀ i, i < 16 → (d.take 16).getD i 0 = d.getD i 0 := fun i hi => by
      simp only [List.getD_eq_getElem?_getD, List.getElem?_take, hi, if_true]
    refine ⟨fun k _ => rfl, fun i => ?_, by rw [fl38, Dv_congr 16 hg]; simp [Dv]⟩
    rw [fl38]
    by_cases hi : i < 16
    · rw [hg i hi]; have := hb i; omega
    · rw [getD_out _ _ (by rw [List.length_take]; omega)]; decide
  | j + 1, hj => by
    obtain ⟨h1, h2, h3⟩ := fl38_spec d h hb j (by omega)
    have hl := fl38_len d h j
    have e := h1 j (Nat.le_refl _)
    have eg : (d.take 16).getD j 0 = d.getD j 0 := by
      simp only [List.getD_eq_getElem?_getD, List.getElem?_take, show j < 16 by omega, if_true]
    have b1 := hb j
    have b2 := hb (16 + j)
    have e2 : (d.drop 16).getD j 0 = d.getD (16 + j) 0 := by simp [List.getD_eq_getElem?_getD, List.getElem?_drop]
    have hx : ((fl38 d j).getD j 0 + 38 * d.getD (16 + j) 0).toNat = ((fl38 d j).getD j 0).toNat + 38 * (d.getD (16 + j) 0).toNat := by
      have hu := h2 j
      rw [UInt64.toNat_add, UInt64.toNat_mul, show UInt64.toNat 38 = 38 from rfl]; omega
    rw [fl38, show 16 + j - 16 = j by omega]
    refine ⟨fun k hk => ?_, fun k => ?_, ?_⟩
    · rw [getD_set _ _ _ _ (by omega), if_neg (by omega)]; exact h1 k (by omega)
    · rw [getD_set _ _ _ _ (by omega)]
      split
      · rw [hx, e, eg]; omega
      · exact h2 k
    · have s := Dv_set (fl38 d j) j ((fl38 d j).getD j 0 + 38 * d.getD (16 + j) 0) (by omega) 16 (by omega)
      have hD : Dv (d.drop 16) (j + 1) = Dv (d.drop 16) j + 65536 ^ j * ((d.drop 16).getD j 0).toNat := rfl
      generalize (fl38 d j).set j ((fl38 d j).getD j 0 + 38 * d.getD (16 + j) 0) = N at s ⊢
      rw [hx, h3, Nat.mul_add] at s
      rw [hD, e2, Nat.mul_add, Nat.mul_left_comm 38]
      omega
/-- One round: a number of 17 to 32 digits. -/
def rnd (d : List UInt64) : List UInt64 := carL (fl38 d (d.length - 16))
abbrev Mi (d : List UInt64) : Prop := 16 ≤ d.length ∧ d.length ≤ 32 ∧ Bd d 65535
abbrev nv (d : List UInt64) : Nat := Dv d d.length
def mea (d : List UInt64) : Nat := 2 * nv d + if 16 < d.length then 1 else 0
theorem fl38_ok {d : List UInt64} (h : Mi d) (hL : 16 < d.length) : (fl38 d (d.length - 16)).length = 16 ∧ Bd (fl38 d (d.length - 16)) 2555865 ∧ Dv (fl38 d (d.length - 16)) 16 < 65536 ^ 17 ∧
    ∃ hi, nv d = Dv d 16 + 115792089237316195423570985008687907853269984665640564039457584007913129639936 * hi ∧ Dv (fl38 d (d.length - 16)) 16 = Dv d 16 + 38 * hi := by
  obtain ⟨h1, h2, h3⟩ := h
  obtain ⟨_, f2, f3⟩ := fl38_spec d h1 h3 (d.length - 16) (by omega)
  have e := Dv_add d 16 (d.length - 16)
  rw [show 16 + (d.length - 16) = d.length by omega, q16] at e
  have hlo := h3.lt 16
  have hhi : Dv (d.drop 16) (d.length - 16) < 65536 ^ (d.length - 16) := Dv_lt _ _ fun i _ => by
    rw [show (d.drop 16).getD i 0 = d.getD (16 + i) 0 by simp [List.getD_eq_getElem?_getD, List.getElem?_drop]]
    have := h3 (16 + i); omega
  have hp : (65536 : Nat) ^ (d.length - 16) ≤ 65536 ^ 16 := Nat.pow_le_pow_right (by decide) (by omega)
  rw [q16] at hlo hp
  refine ⟨fl38_len d h1 _, f2, ?_, _, e, f3⟩
  rw [f3, show (65536 : Nat) ^ 17 = 65536 * 115792089237316195423570985008687907853269984665640564039457584007913129639936 by decide]
  omega
theorem rnd_spec {d : List UInt64} (h : Mi d) (hL : 16 < d.length) : Mi (rnd d) ∧ nv (rnd d) % P = nv d % P ∧ mea (rnd d) < mea d := by
  obtain ⟨f1, f2, f3, hi, f4, f5⟩ := fl38_ok h hL
  obtain ⟨c1, c2, c3, c4⟩ := carL_spec f1 (f2.mono (by decide)) f3
  have hlo := h.2.2.lt 16
  rw [q16] at hlo c4
  refine ⟨⟨?_, ?_, c1⟩, ?_, ?_⟩
  · unfold rnd; omega
  · unfold rnd; omega
  · show Dv (rnd d) (rnd d).length % P = nv d % P
    unfold rnd
    rw [c2, f5, f4, show Dv d 16 + 115792089237316195423570985008687907853269984665640564039457584007913129639936 * hi = Dv d 16 + 38 * hi + P * (2 * hi) by rw [P_val]; omega, Nat.add_mul_mod_self_left]
  · have e : nv (rnd d) = Dv d 16 + 38 * hi := by show Dv (rnd d) (rnd d).length = _; unfold rnd; rw [c2, f5]
    unfold mea
    rw [if_pos hL, f4, e]
    rcases Nat.eq_zero_or_pos hi with h0 | h0
    · subst h0
      have : (rnd d).length = 16 := by unfold rnd; exact c4 (by rw [f5]; omega)
      rw [if_neg (by omega)]; omega
    · split <;> omega
/-- What stands from 2^255 on comes down. -/
def t3e (l : List UInt64) : List UInt64 := (l.set 15 (l.getD 15 0 % 32768)).set 0 ((l.set 15 (l.getD 15 0 % 32768)).getD 0 0 + 19 * (l.getD 15 0 / 32768))
def t3 (l : List UInt64) : List UInt64 := carL (t3e l)
theorem t3e_spec {l : List UInt64} (hl : l.length = 16) (hb : Bd l 65535) : (t3e l).length = 16 ∧ Bd (t3e l) 65554 ∧ ∃ t, t ≤ 1 ∧ (32767 < l.getD 15 0 → t = 1) ∧ Dv l 16 = Dv (l.set 15 (l.getD 15 0 % 32768)) 16 + 57896044618658097711785492504343953926634992332820282019728792003956564819968 * t ∧ Dv (t3e l) 16 = Dv (l.set 15 (l.getD 15 0 % 32768)) 16 + 19 * t := by
  have b := hb 15
  have b0 := hb 0
  have m1 : (l.getD 15 0 % 32768).toNat = (l.getD 15 0).toNat % 32768 := by rw [UInt64.toNat_mod]; rfl
  have d1 : (l.getD 15 0 / 32768).toNat = (l.getD 15 0).toNat / 32768 := by rw [UInt64.toNat_div]; rfl
  have g0 : (l.set 15 (l.getD 15 0 % 32768)).getD 0 0 = l.getD 0 0 := by rw [getD_set _ _ _ _ (by omega), if_neg (by decide)]
  have hx : ((l.set 15 (l.getD 15 0 % 32768)).getD 0 0 + 19 * (l.getD 15 0 / 32768)).toNat = (l.getD 0 0).toNat + 19 * ((l.getD 15 0).toNat / 32768) := by
    rw [g0, UInt64.toNat_add, UInt64.toNat_mul, d1, show UInt64.toNat 19 = 19 from rfl]; omega
  refine ⟨by simp [t3e, hl], fun i => ?_, (l.getD 15 0).toNat / 32768, by omega, fun h => ?_, ?_, ?_⟩
  · unfold t3e
    rw [getD_set _ _ _ _ (by simp [hl])]
    split
    · rw [hx]; omega
    · rw [getD_set _ _ _ _ (by omega)]
      split
      · rw [m1]; omega
      · have := hb i; omega
  · have h' : 32767 < (l.getD 15 0).toNat := h
    omega
  · have s := Dv_set l 15 (l.getD 15 0 % 32768) (by omega) 16 (by decide)
    rw [m1, show (65536 : Nat) ^ 15 = 1766847064778384329583297500742918515827483896875618958121606201292619776 by decide] at s
    omega
  · have s := Dv_set (l.set 15 (l.getD 15 0 % 32768)) 0 ((l.set 15 (l.getD 15 0 % 32768)).getD 0 0 + 19 * (l.getD 15 0 / 32768)) (by simp [hl]) 16 (by decide)
    show Dv ((l.set 15 (l.getD 15 0 % 32768)).set 0 ((l.set 15 (l.getD 15 0 % 32768)).getD 0 0 + 19 * (l.getD 15 0 / 32768))) 16 = _
    rw [hx, g0, Nat.pow_zero, Nat.one_mul, Nat.one_mul] at s
    rw [g0]
    omega
theorem t3e_lt {l : List UInt64} (hl : l.length = 16) (hb : Bd l 65535) : Dv (t3e l) 16 < 115792089237316195423570985008687907853269984665640564039457584007913129639936 := by
  obtain ⟨_, _, t, h1, h2, h3, h4⟩ := t3e_spec hl hb
  have hv := hb.lt 16
  rw [q16] at hv
  have hs : Dv (l.set 15 (l.getD 15 0 % 32768)) 16 < 57896044618658097711785492504343953926634992332820282019728792003956564819968 := by
    have s := Dv_set l 15 (l.getD 15 0 % 32768) (by omega) 16 (by decide)
    have m1 : (l.getD 15 0 % 32768).toNat = (l.getD 15 0).toNat % 32768 := by rw [UInt64.toNat_mod]; rfl
    have hd : Dv l 16 = Dv l 15 + 65536 ^ 15 * (l.getD 15 0).toNat := rfl
    have hlo := hb.lt 15
    rw [show (65536 : Nat) ^ 15 = 1766847064778384329583297500742918515827483896875618958121606201292619776 by decide] at hd
    rw [m1, show (65536 : Nat) ^ 15 = 1766847064778384329583297500742918515827483896875618958121606201292619776 by decide] at s
    rw [show (65536 : Nat) ^ 15 = 1766847064778384329583297500742918515827483896875618958121606201292619776 by decide] at hlo
    omega
  omega
theorem t3_spec {l : List UInt64} (hl : l.length = 16) (hb : Bd l 65535) (hg : 32767 < l.getD 15 0) : (t3 l).length = 16 ∧ Bd (t3 l) 65535 ∧ Dv (t3 l) 16 % P = Dv l 16 % P ∧ Dv (t3 l) 16 < Dv l 16 := by
  obtain ⟨e1, e2, t, h1, h2, h3, h4⟩ := t3e_spec hl hb
  have hv := t3e_lt hl hb
  have ht := h2 hg
  subst ht
  obtain ⟨c1, c2, c3, c4⟩ := carL_spec e1 (e2.mono (by decide)) (by rw [show (65536 : Nat) ^ (16 + 1) = 65536 * 115792089237316195423570985008687907853269984665640564039457584007913129639936 by decide]; omega)
  have hL : (t3 l).length = 16 := c4 (by rw [q16]; exact hv)
  have c2' : Dv (t3 l) (t3 l).length = Dv (t3e l) 16 := c2
  rw [hL] at c2'
  refine ⟨hL, c1, ?_, ?_⟩
  · have key : ∀ s : Nat, (s + 19 * 1) % P = (s + 57896044618658097711785492504343953926634992332820282019728792003956564819968 * 1) % P := fun s => by
      rw [P_val]; omega
    rw [c2', h4, h3, key]
  · rw [c2', h4, h3]; omega
theorem low255 {l : List UInt64} (hb : Bd l 65535) (hg : ¬ 32767 < l.getD 15 0) : Dv l 16 < 57896044618658097711785492504343953926634992332820282019728792003956564819968 := by
  have hd : Dv l 16 = Dv l 15 + 65536 ^ 15 * (l.getD 15 0).toNat := rfl
  have hlo := hb.lt 15
  have hg' : ¬ 32767 < (l.getD 15 0).toNat := hg
  rw [show (65536 : Nat) ^ 15 = 1766847064778384329583297500742918515827483896875618958121606201292619776 by decide] at hd
  rw [show (65536 : Nat) ^ 15 = 1766847064778384329583297500742918515827483896875618958121606201292619776 by decide] at hlo
  omega
/-- A difference. -/
def mnl (a b : List UInt64) : Nat → List UInt64 × UInt64
  | 0 => (a, 0)
  | i + 1 => ((mnl a b i).1.set i (((mnl a b i).1.getD i 0 + 65536 - b.getD i 0 - (mnl a b i).2) % 65536), 1 - ((mnl a b i).1.getD i 0 + 65536 - b.getD i 0 - (mnl a b i).2) / 65536)
theorem mnl_len (a b : List UInt64) : ∀ i, (mnl a b i).1.length = a.length
  | 0 => rfl
  | i + 1 => by rw [mnl, List.length_set, mnl_len]
theorem mnl_spec (a b : List UInt64) (ha : a.length = 16) (hba : Bd a 65535) (hbb : Bd b 65535) : ∀ i, i ≤ 16 → (∀ j, i ≤ j → (mnl a b i).1.getD j 0 = a.getD j 0) ∧ Bd (mnl a b i).1 65535 ∧
    (mnl a b i).2.toNat ≤ 1 ∧ Dv (mnl a b i).1 16 + Dv b i = Dv a 16 + 65536 ^ i * (mnl a b i).2.toNat
  | 0, _ => ⟨fun _ _ => rfl, hba, by show (0 : UInt64).toNat ≤ 1; decide, by simp [Dv, mnl]⟩
  | i + 1, hi => by
    obtain ⟨h1, h2, h3, h4⟩ := mnl_spec a b ha hba hbb i (by omega)
    have hl := (mnl_len a b i).trans ha
    have e := h1 i (Nat.le_refl _)
    have d1 := hba i
    have d2 := hbb i
    obtain ⟨x, hx⟩ : ∃ x, (mnl a b i).1.getD i 0 + 65536 - b.getD i 0 - (mnl a b i).2 = x := ⟨_, rfl⟩
    have xv : x.toNat + (b.getD i 0).toNat + (mnl a b i).2.toNat = (a.getD i 0).toNat + 65536 := by
      rw [← hx, e, UInt64.toNat_sub, UInt64.toNat_sub, UInt64.toNat_add, show UInt64.toNat 65536 = 65536 from rfl]; omega
    have bw : (1 - x / 65536).toNat + x.toNat / 65536 = 1 := by
      rw [UInt64.toNat_sub, div65, show UInt64.toNat 1 = 1 from rfl]; omega
    rw [mnl, hx]
    refine ⟨fun j hj => ?_, fun j => ?_, by show (1 - x / 65536).toNat ≤ 1; omega, ?_⟩
    · rw [getD_set _ _ _ _ (by omega), if_neg (by omega)]; exact h1 j (by omega)
    · rw [getD_set _ _ _ _ (by omega)]
      split
      · rw [mod65]; omega
      · exact h2 j
    · have s := Dv_set (mnl a b i).1 i (x % 65536) (by omega) 16 (by omega)
      rw [e, mod65] at s
      have hD : Dv b (i + 1) = Dv b i + 65536 ^ i * (b.getD i 0).toNat := rfl
      show Dv ((mnl a b i).1.set i (x % 65536)) 16 + Dv b (i + 1) = Dv a 16 + 65536 ^ (i + 1) * (1 - x / 65536).toNat
      rw [hD, Nat.pow_succ, Nat.mul_assoc]
      have key : 65536 ^ i * (x.toNat % 65536) + 65536 ^ i * (b.getD i 0).toNat + 65536 ^ i * (mnl a b i).2.toNat = 65536 ^ i * (a.getD i 0).toNat + 65536 ^ i * (65536 * (1 - x / 65536).toNat) := by
        rw [← Nat.mul_add, ← Nat.mul_add, ← Nat.mul_add]; congr 1; omega
      omega
theorem mnl_dg {m n : Nat} (hm : m < 115792089237316195423570985008687907853269984665640564039457584007913129639936) (hn : n ≤ m) : (mnl (dg m) (dg n) 16).1 = dg (m - n) := by
  obtain ⟨_, h2, h3, h4⟩ := mnl_spec (dg m) (dg n) (dg_len m) (dgk_bd 16 m) (dgk_bd 16 n) 16 (by decide)
  have hlt := h2.lt 16
  rw [dg_v m hm, dg_v n (by omega), q16] at h4
  rw [q16] at hlt
  exact dg_of ((mnl_len ..).trans (dg_len m)) h2 (by omega)
/-- Which is less: the highest digit that differs tells. -/
theorem less_at {a b : List UInt64} (ha : Bd a 65535) (hb : Bd b 65535) {i : Nat} (hi : i < 16) (he : ∀ j, i < j → j < 16 → a.getD j 0 = b.getD j 0) (hne : a.getD i 0 ≠ b.getD i 0) : (a.getD i 0 < b.getD i 0) = (Dv a 16 < Dv b 16) := by
  have hne' : (a.getD i 0).toNat ≠ (b.getD i 0).toNat := fun e => hne (UInt64.toNat_inj.1 e)
  have hd : Dv (a.drop (i + 1)) (15 - i) = Dv (b.drop (i + 1)) (15 - i) := Dv_congr _ fun k hk => by
    have := he (i + 1 + k) (by omega) (by omega)
    simpa [List.getD_eq_getElem?_getD, List.getElem?_drop] using this
  have e1 := Dv_add a (i + 1) (15 - i)
  have e2 := Dv_add b (i + 1) (15 - i)
  have f1 : Dv a (i + 1) = Dv a i + 65536 ^ i * (a.getD i 0).toNat := rfl
  have f2 : Dv b (i + 1) = Dv b i + 65536 ^ i * (b.getD i 0).toNat := rfl
  rw [show i + 1 + (15 - i) = 16 by omega] at e1 e2
  rw [f1] at e1
  rw [f2] at e2
  have l1 := ha.lt i
  have l2 := hb.lt i
  rw [hd] at e1
  rw [eq_iff_iff]
  have hlt : a.getD i 0 < b.getD i 0 ↔ (a.getD i 0).toNat < (b.getD i 0).toNat := Iff.rfl
  rw [hlt]
  constructor
  · intro h
    have : 65536 ^ i * ((a.getD i 0).toNat + 1) ≤ 65536 ^ i * (b.getD i 0).toNat := Nat.mul_le_mul_left _ h
    rw [Nat.mul_add, Nat.mul_one] at this; omega
  · intro h
    rcases Nat.lt_or_ge (a.getD i 0).toNat (b.getD i 0).toNat with k | k
    · exact k
    · have : 65536 ^ i * ((b.getD i 0).toNat + 1) ≤ 65536 ^ i * (a.getD i 0).toNat := Nat.mul_le_mul_left _ (by omega)
      rw [Nat.mul_add, Nat.mul_one] at this; omega
theorem less_no {a b : List UInt64} (he : ∀ j, j < 16 → a.getD j 0 = b.getD j 0) : ¬ Dv a 16 < Dv b 16 := by rw [Dv_congr 16 he]; omega
/-- Sums of digits. -/
def sml (a b : List UInt64) (k : Nat) : List UInt64 := (List.range k).map fun i => a.getD i 0 + b.getD i 0
theorem sml_len (a b : List UInt64) (k : Nat) : (sml a b k).length = k := by simp [sml]
theorem sml_succ (a b : List UInt64) (k : Nat) : sml a b k ++ [a.getD k 0 + b.getD k 0] = sml a b (k + 1) := by simp [sml, List.range_succ]
theorem sml_get (a b : List UInt64) (k i : Nat) (h : i < k) : (sml a b k).getD i 0 = a.getD i 0 + b.getD i 0 := by
  simp [sml, List.getD_eq_getElem?_getD, List.getElem?_map, List.getElem?_range h]
theorem sml_spec {a b : List UInt64} (ha : Bd a 65535) (hb : Bd b 65535) : Bd (sml a b 16) 131070 ∧ Dv (sml a b 16) 16 = Dv a 16 + Dv b 16 := by
  have hx : ∀ i, i < 16 → ((sml a b 16).getD i 0).toNat = (a.getD i 0).toNat + (b.getD i 0).toNat := fun i hi => by
    have := ha i
    have := hb i
    rw [sml_get _ _ _ _ hi, UInt64.toNat_add]; omega
  have key : ∀ n, n ≤ 16 → Dv (sml a b 16) n = Dv a n + Dv b n := by
    intro n
    induction n with
    | zero => intro _; rfl
    | succ n ih => intro h; rw [Dv, Dv, Dv, ih (by omega), hx n (by omega), Nat.mul_add]; omega
  refine ⟨fun i => ?_, key 16 (by decide)⟩
  by_cases h : i < 16
  · rw [hx i h]; have := ha i; have := hb i; omega
  · rw [getD_out _ _ (by rw [sml_len]; omega)]; decide
/-- A product, digit by digit. -/
def pin (a r : List UInt64) (i : Nat) (d : List UInt64) : Nat → List UInt64
  | 0 => d
  | k + 1 => (pin a r i d k).set (i + k) ((pin a r i d k).getD (i + k) 0 + a.getD i 0 * r.getD k 0)
theorem pin_len (a r : List UInt64) (i : Nat) (d : List UInt64) : ∀ k, (pin a r i d k).length = d.length
  | 0 => rfl
  | k + 1 => by rw [pin, List.length_set, pin_len]
def pout (a r : List UInt64) : Nat → List UInt64
  | 0 => List.replicate 31 0
  | i + 1 => pin a r i (pout a r i) 16
theorem pout_len (a r : List UInt64) : ∀ k, (pout a r k).length = 31
  | 0 => by simp [pout]
  | k + 1 => by rw [pout, pin_len, pout_len]
theorem pin_spec (a r d : List UInt64) (i B : Nat) (hi : i < 16) (hl : d.length = 31) (ha : Bd a 65535) (hr : Bd r 65535) (hd : Bd d B) (hB : B ≤ 4611686018427387904) : ∀ k, k ≤ 16 →
    (∀ j, i + k ≤ j → (pin a r i d k).getD j 0 = d.getD j 0) ∧ Bd (pin a r i d k) (B + 4294836225) ∧ Dv (pin a r i d k) 31 = Dv d 31 + 65536 ^ i * ((a.getD i 0).toNat * Dv r k)
  | 0, _ => ⟨fun _ _ => rfl, hd.mono (by omega), by simp [pin, Dv]⟩
  | k + 1, hk => by
    obtain ⟨h1, h2, h3⟩ := pin_spec a r d i B hi hl ha hr hd hB k (by omega)
    have hl' := (pin_len a r i d k).trans hl
    have e := h1 (i + k) (Nat.le_refl _)
    have b1 := hd (i + k)
    have b2 : (a.getD i 0).toNat * (r.getD k 0).toNat ≤ 65535 * 65535 := Nat.mul_le_mul (ha i) (hr k)
    have hx : ((pin a r i d k).getD (i + k) 0 + a.getD i 0 * r.getD k 0).toNat = (d.getD (i + k) 0).toNat + (a.getD i 0).toNat * (r.getD k 0).toNat := by
      rw [e, UInt64.toNat_add, UInt64.toNat_mul]
      generalize (a.getD i 0).toNat * (r.getD k 0).toNat = m at *
      omega
    rw [pin]
    refine ⟨fun j hj => ?_, fun j => ?_, ?_⟩
    · rw [getD_set _ _ _ _ (by omega), if_neg (by omega)]; exact h1 j (by omega)
    · rw [getD_set _ _ _ _ (by omega)]
      split
      · rw [hx]; generalize (a.getD i 0).toNat * (r.getD k 0).toNat = m at *; omega
      · exact h2 j
    · have s := Dv_set (pin a r i d k) (i + k) ((pin a r i d k).getD (i + k) 0 + a.getD i 0 * r.getD k 0) (by omega) 31 (by omega)
      have hD : Dv r (k + 1) = Dv r k + 65536 ^ k * (r.getD k 0).toNat := rfl
      generalize (pin a r i d k).set (i + k) ((pin a r i d k).getD (i + k) 0 + a.getD i 0 * r.getD k 0) = N at s ⊢
      rw [hx, e, h3, Nat.mul_add] at s
      rw [hD, Nat.mul_add, Nat.mul_add]
      have : 65536 ^ (i + k) * ((a.getD i 0).toNat * (r.getD k 0).toNat) = 65536 ^ i * ((a.getD i 0).toNat * (65536 ^ k * (r.getD k 0).toNat)) := by
        rw [Nat.pow_add, Nat.mul_assoc, Nat.mul_left_comm (65536 ^ k)]
      omega
theorem pout_spec (a r : List UInt64) (ha : Bd a 65535) (hr : Bd r 65535) : ∀ i, i ≤ 16 → Bd (pout a r i) (i * 4294836225) ∧ Dv (pout a r i) 31 = Dv a i * Dv r 16
  | 0, _ => ⟨fun i => by rw [pout, rep_get]; decide, by rw [pout, Dv_zero]; simp [Dv]⟩
  | i + 1, hi => by
    obtain ⟨h1, h2⟩ := pout_spec a r ha hr i (by omega)
    obtain ⟨g1, g2, g3⟩ := pin_spec a r (pout a r i) i (i * 4294836225) (by omega) (pout_len a r i) ha hr h1 (by omega) 16 (by decide)
    rw [pout]
    refine ⟨by rw [Nat.succ_mul]; exact g2, ?_⟩
    have hD : Dv a (i + 1) = Dv a i + 65536 ^ i * (a.getD i 0).toNat := rfl
    rw [g3, h2, hD, Nat.add_mul, Nat.mul_assoc]
/-- The digits of a product. -/
theorem prod_ok {m n : Nat} (hm : m < 115792089237316195423570985008687907853269984665640564039457584007913129639936) (hn : n < 115792089237316195423570985008687907853269984665640564039457584007913129639936) : Bd (pout (dg m) (dg n) 16) 9223372036854775808 ∧ Dv (pout (dg m) (dg n) 16) 31 < 65536 ^ 32 ∧ Mi (carL (pout (dg m) (dg n) 16)) ∧ 16 < (carL (pout (dg m) (dg n) 16)).length ∧ nv (carL (pout (dg m) (dg n) 16)) = m * n := by
  obtain ⟨h1, h2⟩ := pout_spec (dg m) (dg n) (dgk_bd 16 m) (dgk_bd 16 n) 16 (by decide)
  rw [dg_v m hm, dg_v n hn] at h2
  have hb : Bd (pout (dg m) (dg n) 16) 9223372036854775808 := h1.mono (by decide)
  have hv : Dv (pout (dg m) (dg n) 16) 31 < 65536 ^ 32 := by
    rw [h2, show (65536 : Nat) ^ 32 = 115792089237316195423570985008687907853269984665640564039457584007913129639936 * 115792089237316195423570985008687907853269984665640564039457584007913129639936 by decide +kernel]
    exact Nat.mul_lt_mul_of_lt_of_lt hm hn
  obtain ⟨c1, c2, c3, c4⟩ := carL_spec (pout_len (dg m) (dg n) 16) hb hv
  refine ⟨hb, hv, ⟨by omega, by omega, c1⟩, by omega, ?_⟩
  show Dv (carL (pout (dg m) (dg n) 16)) (carL (pout (dg m) (dg n) 16)).length = _
  rw [c2, h2]
end Go.Proofs.Ytlidpcjinillfaa.Rn

/- What functions of the program do, walked over the abstract machine. -/
namespace Go.Proofs.Ytlidpcjinillfaa.Rn
open Go Go.Abs Go.Proofs

open Go.Nt Fd

theorem rep_set (i : Nat) (h : i < 16) : (List.replicate i (65535 : UInt64) ++ List.replicate (16 - i) 0).set i 65535 = List.replicate (i + 1) 65535 ++ List.replicate (16 - (i + 1)) 0 := by
  have : i = 0 ∨ i = 1 ∨ i = 2 ∨ i = 3 ∨ i = 4 ∨ i = 5 ∨ i = 6 ∨ i = 7 ∨ i = 8 ∨ i = 9 ∨ i = 10 ∨ i = 11 ∨ i = 12 ∨ i = 13 ∨ i = 14 ∨ i = 15 := by omega
  rcases this with rfl | rfl | rfl | rfl | rfl | rfl | rfl | rfl | rfl | rfl | rfl | rfl | rfl | rfl | rfl | rfl <;> rfl
theorem prime_dg : dg P = ((List.replicate 16 (65535 : UInt64) ++ List.replicate (16 - 16) 0).set 0 65517).set 15 32767 := by decide +kernel
open Go.Nt Fd
theorem app1 (l : List UInt64) (x : UInt64) : u64s l ++ [c64 x] = u64s (l ++ [x]) := by simp [mapc]
theorem tk16 {l : List UInt64} : ((u64s l).drop 0).take (16 * 1) = u64s (l.take 16) := by rw [List.drop_zero]; simp [mapc, List.map_take]
theorem cp16 {a b : List UInt64} (ha : a.length = 16) (hb : b.length = 16) : splice (u64s a) 0 ((u64s b).take (min 16 16 * 1)) = u64s b := by
  rw [List.take_of_length_le (by rw [mapc_length, hb]; decide)]
  simp [splice, mapc, ha, hb]
theorem rep31 : rep 31 [c64 0] = u64s (List.replicate 31 0) := rfl
set_option maxHeartbeats 800000 in
/-- escutcheonref02.carried -/
theorem car_ (d : List UInt64) (n : Nat) (hl : d.length = n) (hn : n ≤ 64) (hb : Bd d 9223372036854775808) (hv : Dv d n < 65536 ^ (n + 1)) : Good Try.prog 32 [.c (.slc 0 0 n 1)] [some (u64s d)] (sc (.slc 1 0 (carL d).length 1)) [none, some (u64s (carL d))] := by
  have hc := car_c hl hb hv
  have hE : carL d = if (nrm d n).2 = 0 then (nrm d n).1 else (nrm d n).1 ++ [(nrm d n).2] := by unfold carL; rw [hl]
  have hNl := (nrm_len d n).trans hl
  refine good_frm 35 Try.func32 rfl rfl rfl rfl rfl rfl ?_
  refine awp_seq ?_
  refine rln ?_
  refine As ?_
  refine gend ?_
  refine awp_seq ?_
  refine rln ?_
  refine G (q_as (s := sc (c64 0)) ?_)
  refine gend ?_
  refine awp_seq ?_
  refine awp_seq ?_
  refine rln ?_
  refine G (q_as (s := sc (cn 0)) ?_)
  refine gend ?_
  refine awp_block ?_
  refine awp_loop (fun x : {i : Nat // i ≤ n} => ⟨frm 35 [(0, sc (.slc 0 0 n 1)), (3, sc (c64 (nrm d x.1).2)), (4, sc (cn x.1))], [some (u64s (nrm d x.1).1)]⟩) (fun x => n - x.1) ⟨0, Nat.zero_le _⟩ (sle_sub ⟨rfl, rfl, rfl, trivial⟩ rfl) fun x => ?_   -- live: [0, 3, 4]
  have hl1 := (nrm_len d x.1).trans hl
  refine awp_seq ?_
  refine awp_seq ?_
  refine rln ?_
  refine Mv ?_
  refine Mv ?_
  refine G (q_lenc ?_)
  refine G (q_lssn ?_)
  refine gend ?_
  refine cnd (fun hc1 => ?_) (fun hc1 => ?_); rotate_left
  · refine awp_exit ?_
    rw [show x.1 = n from (by have := x.2; omega)]
    generalize (nrm d n).1 = N at hE hNl ⊢
    generalize (nrm d n).2 = c at hE hc ⊢
    refine awp_seq ?_
    refine awp_block ?_
    refine awp_loop (fun y : {x : List UInt64 × UInt64 // x = (N, c) ∨ (x.2 = 0 ∧ x.1 = N ++ [c] ∧ c ≠ 0)} => ⟨frm 35 [(0, sc (.slc 1 0 y.1.1.length 1)), (3, sc (c64 y.1.2))], [none, some (u64s y.1.1)]⟩) (fun y => y.1.2.toNat) ⟨(N, c), .inl rfl⟩ (sle_mv 0 rfl (Nat.le_refl 1) ⟨.inr (.inl ⟨0, n, 1, rfl, by show sc (.slc 1 0 N.length 1) = sc (.slc 1 0 n 1); rw [hNl]⟩), .inl rfl, trivial⟩ rfl) fun y => ?_
    have hyl : y.1.1.length ≤ 65 := by
      rcases y.2 with h | h
      · rw [h]; show N.length ≤ 65; omega
      · rw [h.2.1, List.length_append, hNl]; show n + 1 ≤ 65; omega
    refine awp_seq ?_
    refine awp_seq ?_
    refine rln ?_
    refine Mv ?_
    refine G (q_gtr64 (y := 0) ?_)
    refine gend ?_
    refine cnd (fun hc2 => ?_) (fun hc2 => ?_); rotate_left
    · refine awp_exit ?_
      have hy0 : y.1.2 = 0 := UInt64.toNat_inj.1 (by have h2 : ¬ 0 < y.1.2.toNat := hc2; show _ = 0; omega)
      have hyE : carL d = y.1.1 := by
        rw [hE]
        rcases y.2 with h | h
        · rw [h] at hy0 ⊢; exact if_pos hy0
        · rw [h.2.1]; exact if_neg h.2.2
      rw [hyE]
      refine awp_seq ?_
      refine rln ?_
      refine Mv ?_
      refine As ?_
      refine gend ?_
      refine awp_ret ?_
      exact fx1 [0, 1] (hm0 := rfl) (hn := pi1) (hH := (vh2 rfl (pick_m rfl)).symm)
    refine awp_skip ?_
    refine awp_block ?_
    refine awp_seq ?_
    refine rln ?_
    refine Mv ?_
    refine Mv ?_
    refine G (q_rem64 (y := 65536) ?_ (hz := by decide))
    refine G2 (fun _ k_ => q_bsl (fkc rfl (et rfl) rfl (Nat.le_of_ble_eq_true rfl) (fk0 k_))) ?_
    refine G2 (fun _ k_ => q_app  k_ (eA := el_slc (xs := u64s y.1.1) rfl (by rw [mapc_length]; omega) (cut_h rfl)) (eB := el_slc (xs := [_]) rfl (Nat.le_refl 1) rfl)) ?_
    refine As ?_
    refine gend ?_
    refine rln ?_
    refine Mv ?_
    refine G (q_quo64 (y := 65536) ?_ (hz := by decide))
    refine As ?_
    refine gend ?_
    have hp0 : y.1.2.toNat ≠ 0 := by have : 0 < y.1.2.toNat := hc2; omega
    have hyc : y.1 = (N, c) := y.2.resolve_right (fun h => hp0 (by rw [h.1]; rfl))
    have hd0 : y.1.2 / 65536 = 0 := UInt64.toNat_inj.1 (by rw [div65, hyc]; show c.toNat / 65536 = 0; omega)
    have hm0 : y.1.2 % 65536 = c := UInt64.toNat_inj.1 (by rw [mod65, hyc]; show c.toNat % 65536 = c.toNat; omega)
    exact ⟨⟨(y.1.1 ++ [y.1.2 % 65536], y.1.2 / 65536), .inr ⟨hd0, by rw [hm0, hyc], by rintro rfl; rw [hyc] at hp0; exact hp0 rfl⟩⟩, by show (y.1.2 / 65536).toNat < y.1.2.toNat; rw [hd0]; show 0 < _; omega, sle_view [0, 3] pi1 (by decide) ⟨congrArg (fun k => sc (.slc 1 0 k 1)) (show y.1.1.length + 1 = (y.1.1 ++ [y.1.2 % 65536]).length by simp), rfl, trivial⟩ (vh2 rfl (pick_m (congrArg (fun z => some (some z)) (app1 _ _))))⟩   -- endloop 2
  refine awp_skip ?_
  refine awp_seq ?_
  refine awp_block ?_
  refine awp_seq ?_
  refine rln ?_
  refine Mv ?_
  refine Mv ?_
  refine G (q_ixs1 ?_)
  refine G (q_ldp ?_)
  refine Mv ?_
  refine G (q_add64 ?_)
  refine As ?_
  refine gend ?_
  refine awp_seq ?_
  refine rln ?_
  refine Mv ?_
  refine Mv ?_
  refine Mv ?_
  refine G (q_rem64 (y := 65536) ?_ (hz := by decide))
  refine G (q_ixs1 ?_)
  refine G20 (fun _ k_ => q_stm k_) ?_
  refine gend ?_
  refine rln ?_
  refine Mv ?_
  refine G (q_quo64 (y := 65536) ?_ (hz := by decide))
  refine As ?_
  refine gend ?_
  refine rln ?_
  refine Mv ?_
  refine G (q_addn (y := 1) ?_)
  refine As ?_
  refine gend ?_
  exact ⟨⟨x.1 + 1, by omega⟩, by show n - (x.1 + 1) < n - x.1; omega, sle_sub ⟨rfl, rfl, rfl, trivial⟩ rfl⟩   -- endloop 1
/-- escutcheonref02.Prime -/
theorem prime_ : Good Try.prog 15 [] [] (sa (u64s (dg P))) [] := by
  refine good_frm 12 Try.func15 rfl rfl rfl rfl rfl rfl ?_
  refine awp_seq ?_
  refine rln ?_
  refine G2 (fun _ k_ => q_al k_) ?_
  refine gend ?_
  refine awp_seq ?_
  refine rln ?_
  refine G2 (fun _ k_ => q_al k_) ?_
  refine gend ?_
  refine awp_seq ?_
  refine awp_seq ?_
  refine rln ?_
  refine G (q_as (s := sc (cn 0)) ?_)
  refine gend ?_
  refine awp_block ?_
  refine awp_loop (fun x : {i : Nat // i ≤ 16} => ⟨frm 12 [(0, sc (.ptr 0 0)), (1, sc (.ptr 1 0)), (2, sc (cn x.1))], [some (u64s (List.replicate 16 0)), some (u64s (List.replicate x.1 65535 ++ List.replicate (16 - x.1) 0))]⟩) (fun x => 16 - x.1) ⟨0, Nat.zero_le _⟩ (sle_sub ⟨rfl, rfl, rfl, trivial⟩ rfl) fun x => ?_   -- live: [1, 2]
  have hl : (List.replicate x.1 (65535 : UInt64) ++ List.replicate (16 - x.1) 0).length = 16 := by simp; omega
  refine awp_seq ?_
  refine awp_seq ?_
  refine rln ?_
  refine Mv ?_
  refine G (q_lssn (y := 16) ?_)
  refine gend ?_
  refine cnd (fun hc1 => ?_) (fun hc1 => ?_); rotate_left
  · refine awp_exit ?_
    rw [show x.1 = 16 from (by have := x.2; omega)]
    refine awp_seq ?_
    refine rln ?_
    refine G (q_ixp1 ?_)
    refine G20 (fun _ k_ => q_stm (x := (65517 : UInt64)) k_) ?_
    refine G (q_ixp1 ?_)
    refine G20 (fun _ k_ => q_stm (x := (32767 : UInt64)) k_) ?_
    refine gend ?_
    refine awp_seq ?_
    refine rln ?_
    refine G (q_ldw ?_)
    refine G20 (fun _ k_ => q_stw k_) ?_
    refine gend ?_
    refine awp_ret ?_
    exact fpc (t := 35) (a := 0) (hv := by rw [prime_dg])
  refine awp_skip ?_
  refine awp_seq ?_
  refine awp_block ?_
  refine rln ?_
  refine Mv ?_
  refine G (q_ixp1 ?_)
  refine G20 (fun _ k_ => q_stm (x := (65535 : UInt64)) k_) ?_
  refine gend ?_
  refine rln ?_
  refine Mv ?_
  refine G (q_addn (y := 1) ?_)
  refine As ?_
  refine gend ?_
  exact ⟨⟨x.1 + 1, by omega⟩, by show 16 - (x.1 + 1) < 16 - x.1; omega, sle_sub ⟨rfl, rfl, rfl, trivial⟩ (congrArg (fun z => [some (u64s (List.replicate 16 0)), some (u64s z)]) (rep_set x.1 (by omega)))⟩   -- endloop 1
set_option maxHeartbeats 800000 in
/-- escutcheonref02.Minus -/
theorem minus_ (m n : Nat) (hm : m < 115792089237316195423570985008687907853269984665640564039457584007913129639936) (hn : n ≤ m) : Good Try.prog 14 [.a (u64s (dg m)), .a (u64s (dg n))] [] (sa (u64s (dg (m - n)))) [] := by
  have hA := dg_len m
  have hB := dg_len n
  rw [← mnl_dg hm hn]
  generalize dg m = A at hA ⊢
  generalize dg n = B at hB ⊢
  refine good_frm 30 Try.func14 rfl rfl rfl rfl rfl rfl ?_
  refine awp_seq ?_
  refine rln ?_
  refine G2 (fun _ k_ => q_boxa k_) ?_
  refine G2 (fun _ k_ => q_boxa k_) ?_
  refine G2 (fun _ k_ => q_al k_) ?_
  refine gend ?_
  refine awp_seq ?_
  refine rln ?_
  refine G (q_as (s := sc (c64 0)) ?_)
  refine gend ?_
  refine awp_seq ?_
  refine awp_seq ?_
  refine rln ?_
  refine G (q_as (s := sc (cn 0)) ?_)
  refine gend ?_
  refine awp_block ?_
  refine awp_loop (fun i : {i : Nat // i ≤ 16} => ⟨frm 30 [(2, sc (.ptr 0 0)), (3, sc (.ptr 1 0)), (4, sc (.ptr 2 0)), (5, sc (c64 (mnl A B i.1).2)), (6, sc (cn i.1))], [some (u64s (mnl A B i.1).1), some (u64s B), some (u64s (List.replicate 16 0))]⟩) (fun i => 16 - i.1) ⟨0, Nat.zero_le _⟩ (sle_sub ⟨rfl, rfl, rfl, rfl, rfl, trivial⟩ rfl) fun i => ?_   -- live: [2, 3, 5, 6]
  have hl := (mnl_len A B i.1).trans hA
  refine awp_seq ?_
  refine awp_seq ?_
  refine rln ?_
  refine Mv ?_
  refine G (q_lssn (y := 16) ?_)
  refine gend ?_
  refine cnd (fun hc1 => ?_) (fun hc1 => ?_); rotate_left
  · refine awp_exit ?_
    rw [show i.1 = 16 from (by have := i.2; omega)]
    have hl := (mnl_len A B 16).trans hA
    refine awp_seq ?_
    refine rln ?_
    refine G (q_ldw ?_)
    refine G20 (fun _ k_ => q_stw k_) ?_
    refine gend ?_
    refine awp_ret ?_
    exact fpc (t := 35) (a := 4) (hn := by exact (mapc_length ..).trans hl)
  refine awp_skip ?_
  refine awp_seq ?_
  refine awp_block ?_
  refine awp_seq ?_
  refine rdln [] [] [] ?_
  refine Dp (fun _ => q_mv (s := .v (.c _)) ⟨rfl, rfl⟩) ?_
  refine Dp (fun _ => q_ixp1 ⟨rfl, rfl⟩) ?_
  refine DLp ?_
  refine Dp (fun _ => q_add64 (y := 65536) ⟨rfl, rfl⟩) ?_
  refine Dp (fun _ => q_mv (s := .v (.c _)) ⟨rfl, rfl⟩) ?_
  refine Dp (fun _ => q_ixp1 ⟨rfl, rfl⟩) ?_
  refine DLp ?_
  refine Dp (fun _ => q_sub64 ⟨rfl, rfl⟩) ?_
  refine Dp (fun _ => q_mv (s := .v (.c _)) ⟨rfl, rfl⟩) ?_
  refine Dp (fun _ => q_sub64 ⟨rfl, rfl⟩) ?_
  refine Dp (fun _ => q_as (s := .v (.c _)) ⟨rfl, rfl⟩) ?_
  refine dend ?_
  refine awp_seq ?_
  refine rln ?_
  refine Mv ?_
  refine Mv ?_
  refine G (q_rem64 (y := 65536) ?_ (hz := by decide))
  refine G (q_ixp1 ?_)
  refine G20 (fun _ k_ => q_stm k_) ?_
  refine gend ?_
  refine rln ?_
  refine Mv ?_
  refine G (q_quo64 (y := 65536) ?_ (hz := by decide))
  refine G (q_sub64 (x := 1) ?_)
  refine As ?_
  refine gend ?_
  refine rln ?_
  refine Mv ?_
  refine G (q_addn (y := 1) ?_)
  refine As ?_
  refine gend ?_
  exact ⟨⟨i.1 + 1, by omega⟩, by show 16 - (i.1 + 1) < 16 - i.1; omega, sle_sub ⟨rfl, rfl, rfl, rfl, rfl, trivial⟩ rfl⟩   -- endloop 1
set_option maxHeartbeats 800000 in
/-- escutcheonref02.Less -/
theorem less_ (m n : Nat) (hm : m < 115792089237316195423570985008687907853269984665640564039457584007913129639936) (hn : n < 115792089237316195423570985008687907853269984665640564039457584007913129639936) : Good Try.prog 45 [.a (u64s (dg m)), .a (u64s (dg n))] [] (sc (.bool (decide (m < n)))) [] := by
  have hA := dg_len m
  have hB := dg_len n
  have bA : Bd (dg m) 65535 := dgk_bd 16 m
  have bB : Bd (dg n) 65535 := dgk_bd 16 n
  have vA := dg_v m hm
  have vB := dg_v n hn
  rw [show decide (m < n) = decide (Dv (dg m) 16 < Dv (dg n) 16) by rw [vA, vB]]
  generalize dg m = A at hA bA vA ⊢
  generalize dg n = B at hB bB vB ⊢
  refine good_frm 24 Try.func45 rfl rfl rfl rfl rfl rfl ?_
  refine awp_seq ?_
  refine rln ?_
  refine G2 (fun _ k_ => q_boxa k_) ?_
  refine G2 (fun _ k_ => q_boxa k_) ?_
  refine As ?_
  refine gend ?_
  refine awp_seq ?_
  refine awp_seq ?_
  refine rln ?_
  refine G (q_as (s := sc (cn 15)) ?_)
  refine gend ?_
  refine awp_block ?_
  refine awp_loop (fun x : {k : Nat // k ≤ 16 ∧ ∀ j, 15 < j + k → j < 16 → A.getD j 0 = B.getD j 0} => ⟨frm 24 [(2, sc (.ptr 0 0)), (3, sc (.ptr 1 0)), (5, sc (ci (15 - (x.1 : Int))))], [some (u64s A), some (u64s B)]⟩) (fun x => 16 - x.1) ⟨0, by omega, fun j h1 h2 => by omega⟩ (sle_sub ⟨rfl, rfl, rfl, trivial⟩ rfl) fun x => ?_   -- live: [2, 3, 5]
  refine awp_seq ?_
  refine awp_seq ?_
  refine rln ?_
  refine Mv ?_
  refine G (q_geqi (y := 0) ?_)
  refine gend ?_
  refine cnd (fun hc1 => ?_) (fun hc1 => ?_); rotate_left
  · refine awp_exit ?_
    have hno := less_no fun j h => x.2.2 j (by omega) h
    refine awp_seq ?_
    refine rln ?_
    refine As ?_
    refine gend ?_
    refine awp_ret ?_
    exact fp1 (hv := congrArg (fun b => sc (.bool b)) (decide_eq_false hno))
  refine awp_skip ?_
  have hx16 : x.1 < 16 := by omega
  refine retell [(2, sc (.ptr 0 0)), (3, sc (.ptr 1 0)), (5, sc (cn (15 - x.1)))] ?_ ⟨rfl, rfl, congrArg (fun z => sc (ci z)) (by omega), trivial⟩
  refine awp_seq ?_
  refine awp_block ?_
  refine awp_seq ?_
  refine rdln [] [] [] ?_
  refine Dp (fun _ => q_mv (s := .v (.c _)) ⟨rfl, rfl⟩) ?_
  refine Dp (fun _ => q_ixp1 ⟨rfl, rfl⟩) ?_
  refine DLp ?_
  refine Dp (fun _ => q_mv (s := .v (.c _)) ⟨rfl, rfl⟩) ?_
  refine Dp (fun _ => q_ixp1 ⟨rfl, rfl⟩) ?_
  refine DLp ?_
  refine Dp (fun _ => q_neq64 ⟨rfl, rfl⟩) ?_
  refine dend ?_
  refine cnd (fun hc2 => ?_) (fun hc2 => ?_)
  · refine awp_seq ?_
    refine rdln [] [] [] ?_
    refine Dp (fun _ => q_mv (s := .v (.c _)) ⟨rfl, rfl⟩) ?_
    refine Dp (fun _ => q_ixp1 ⟨rfl, rfl⟩) ?_
    refine DLp ?_
    refine Dp (fun _ => q_mv (s := .v (.c _)) ⟨rfl, rfl⟩) ?_
    refine Dp (fun _ => q_ixp1 ⟨rfl, rfl⟩) ?_
    refine DLp ?_
    refine Dp (fun _ => q_lss64 ⟨rfl, rfl⟩) ?_
    refine Dp (fun _ => q_as (s := .v (.c _)) ⟨rfl, rfl⟩) ?_
    refine dend ?_
    refine awp_ret ?_
    exact fp1 (hv := congrArg (fun b => sc (.bool b)) (decide_eq_decide.2 (by rw [less_at bA bB (by omega) (fun j h1 h2 => x.2.2 j (by omega) h2) hc2])))
  refine awp_skip ?_
  refine rln ?_
  refine Mv ?_
  refine G (q_subi (x := ((15 - x.1 : Nat) : Int)) (y := 1) ?_)
  refine As ?_
  refine gend ?_
  exact ⟨⟨x.1 + 1, by omega, fun j h1 h2 => by
    have h1' : 15 < j + (x.1 + 1) := h1
    by_cases e : j = 15 - x.1
    · subst e; exact Classical.byContradiction hc2
    · exact x.2.2 j (by omega) h2⟩, by show 16 - (x.1 + 1) < 16 - x.1; omega, sle_sub ⟨rfl, rfl, congrArg (fun z => sc (ci z)) (by show ((15 - x.1 : Nat) : Int) - 1 = 15 - ((x.1 + 1 : Nat) : Int); omega), trivial⟩ rfl⟩   -- endloop 1
end Go.Proofs.Ytlidpcjinillfaa.Rn

/- What functions of the program do, walked over the abstract machine. -/
namespace Go.Proofs.Ytlidpcjinillfaa.Rn
open Go Go.Abs Go.Proofs

open Go.Nt Fd
set_option maxHeartbeats 1600000 in
/-- escutcheonref02.Mod -/
theorem modL_ (d : List UInt64) (V : Nat) (hd : Mi d) (_hL : 16 < d.length) (hV : nv d % P = V) : Good Try.prog 30 [.c (.slc 0 0 d.length 1)] [some (u64s d)] (sa (u64s (dg V))) [none] := by
  refine good_frm 93 Try.func30 rfl rfl rfl rfl rfl rfl ?_
  refine awp_seq ?_
  refine rln ?_
  refine G2 (fun _ k_ => q_al k_) ?_
  refine gend ?_
  refine awp_seq ?_
  refine awp_block ?_
  refine awp_loop (fun x : {d : List UInt64 // Mi d ∧ nv d % P = V} => ⟨frm 93 [(0, sc (.slc 2 0 x.1.length 1)), (2, sc (.ptr 1 0))], [none, some (u64s (List.replicate 16 0)), some (u64s x.1)]⟩) (fun x => mea x.1) ⟨d, hd, hV⟩ (sle_mv 0 rfl (Nat.le_of_ble_eq_true rfl) ⟨.inr (.inl ⟨_, _, _, rfl, rfl⟩), .inl rfl, trivial⟩ rfl) fun x => ?_
  have hx1 := x.2.1.1
  have hx2 := x.2.1.2.1
  have hx3 := x.2.1.2.2
  refine awp_seq ?_
  refine awp_seq ?_
  refine rln ?_
  refine Mv ?_
  refine G (q_lenc ?_)
  refine G (q_gtrn (y := 16) ?_)
  refine gend ?_
  refine cnd (fun hc1 => ?_) (fun hc1 => ?_); rotate_left
  · refine awp_exit ?_
    have hx16 : x.1.length = 16 := by omega
    have gD := car_ x.1 16 hx16 (by decide) (hx3.mono (by decide)) (Nat.lt_trans (hx3.lt 16) (by decide))
    rw [carL_id hx3, hx16] at gD
    obtain ⟨D, hD⟩ : ∃ D, x.1 = D := ⟨_, rfl⟩
    have hDl := hD ▸ hx16
    have hDb := hD ▸ hx3
    have hDv : Dv D 16 % P = V := by have := x.2.2; rw [← hDl, ← hD]; exact this
    rw [hD] at gD hx16 ⊢
    rw [hDl]
    refine awp_seq ?_
    refine rln ?_
    refine Mv ?_
    refine G2 (fun _ k_ => q_app  k_ (eB := el_slc (xs := u64s D) rfl (by rw [mapc_length, hDl]; decide) (cut_h hDl))) ?_
    refine G2 (fun _ k_ => q_callv [3] [none] [some (u64s D)] (gD) k_ (ha := (cac (et rfl) rfl ca0)) (e2 := pl1 rfl sees_m pl0) (eL := mln ml0) (eM := (ml1 sees_m ml0)) (e3 := rfl)) ?_
    refine As ?_
    refine gend ?_
    refine awp_seq ?_
    refine awp_block ?_
    refine awp_loop (fun _ : Unit => ⟨frm 93 [(0, sc (.slc 4 0 16 1)), (2, sc (.ptr 1 0))], [none, some (u64s (List.replicate 16 0)), some (u64s D), none, some (u64s D)]⟩) (fun _ => 0) () (sle_sub ⟨rfl, rfl, trivial⟩ rfl) fun _ => ?_   -- live: [0, 2]
    refine awp_seq ?_
    refine awp_seq ?_
    refine rln ?_
    refine Mv ?_
    refine G (q_lenc ?_)
    refine G (q_gtrn (y := 16) ?_)
    refine gend ?_
    refine cndN (fun hc2 => ?_) ?_; rotate_left
    · decide
    refine awp_exit ?_
    refine awp_seq ?_
    refine rln ?_
    refine G2 (fun _ k_ => q_al k_) ?_
    refine gend ?_
    refine awp_seq ?_
    refine rln ?_
    refine G (q_slp_no ?_)
    refine Mv ?_
    refine G2 (fun _ k_ => q_cpy  k_ (eB := el_slc (xs := u64s D) rfl (by rw [mapc_length, hDl]; decide) (cut_h hDl))) ?_
    rw [cp16 (List.length_replicate ..) hDl]
    refine gend ?_
    refine awp_seq ?_
    refine awp_block ?_
    refine awp_loop (fun y : {l : List UInt64 // l.length = 16 ∧ Bd l 65535 ∧ Dv l 16 % P = V} => ⟨frm 93 [(2, sc (.ptr 1 0)), (5, sc (.ptr 2 0))], [none, some (u64s (List.replicate 16 0)), some (u64s y.1)]⟩) (fun y => Dv y.1 16) ⟨D, hDl, hDb, hDv⟩ (sle_view [0, 1, 5] pi1 (by decide) ⟨rfl, rfl, trivial⟩ (vh3 rfl (pick_m rfl) (pick_m rfl))) fun y => ?_
    have hyl := y.2.1
    have hyb := y.2.2.1
    have hyv := y.2.2.2
    refine awp_seq ?_
    refine awp_seq ?_
    refine rln ?_
    refine G (q_ixp1 ?_)
    refine G (q_ldp ?_)
    refine G (q_gtr64 (y := 32767) ?_)
    refine gend ?_
    refine cnd (fun hc3 => ?_) (fun hc3 => ?_); rotate_left
    · refine awp_exit ?_
      have hm := low255 hyb hc3
      obtain ⟨m, hmE⟩ : ∃ m, Dv y.1 16 = m := ⟨_, rfl⟩
      have hyd := dg_of hyl hyb hmE
      rw [hmE] at hm hyv
      rw [hyd]
      refine awp_seq ?_
      refine awp_seq ?_
      refine rdln [1, 2] [0, 0, 1, 2] [1, 1, 2, 2] ?_
      refine DLw ?_
      refine De2 (fun _ k_ => q_callp (prime_) k_) ?_
      refine De2 (fun _ k_ => q_callp (less_ m P (by omega) (by decide)) k_) ?_
      refine Dp (fun _ => q_notb ⟨rfl, rfl⟩) ?_
      refine dend ?_
      refine cndbn (fun hc4 => ?_) (fun hc4 => ?_)
      · refine rdln [1, 2, 3] [0, 0, 1, 2] [1, 1, 2, 3] ?_
        refine DLw ?_
        refine De2 (fun _ k_ => q_callp (prime_) k_) ?_
        refine De2 (fun _ k_ => q_callp (minus_ m P (by omega) (Nat.le_of_not_lt (of_decide_eq_false hc4))) k_) ?_
        refine De20 (fun _ k_ => q_stw k_) ?_
        refine dend ?_
        refine awp_seq ?_
        refine rln ?_
        refine G (q_ldw ?_)
        refine G20 (fun _ k_ => q_stw k_) ?_
        refine gend ?_
        refine awp_ret ?_
        exact fxc (t := 35) (a := 2) [0] (hd := by exact (mapc_length ..).trans (dg_len _)) (hv := by rw [show V = m - P by rw [← hyv, Nat.mod_eq_sub_mod (Nat.le_of_not_lt (of_decide_eq_false hc4)), Nat.mod_eq_of_lt (by have hp := P_val; omega)]])
      refine awp_skip ?_
      refine awp_seq ?_
      refine rln ?_
      refine G (q_ldw ?_)
      refine G20 (fun _ k_ => q_stw k_) ?_
      refine gend ?_
      refine awp_ret ?_
      exact fxc (t := 35) (a := 2) [0] (hd := by exact (mapc_length ..).trans (dg_len _)) (hv := by rw [show V = m by rw [← hyv]; exact Nat.mod_eq_of_lt (of_decide_eq_true hc4)])
    refine awp_skip ?_
    refine awp_block ?_
    refine awp_seq ?_
    refine rln ?_
    refine G (q_ixp1 ?_)
    refine G (q_ldp ?_)
    obtain ⟨ht3, hb3, hv3, hm3⟩ := t3_spec hyl hyb hc3
    obtain ⟨he1, he2, _⟩ := t3e_spec hyl hyb
    have g3 := car_ (t3e y.1) 16 he1 (by decide) (he2.mono (by decide)) (Nat.lt_trans (t3e_lt hyl hyb) (by decide))
    rw [show carL (t3e y.1) = t3 y.1 from rfl, ht3] at g3
    refine G (q_quo64 (y := 32768) ?_ (hz := by decide))
    refine As ?_
    refine gend ?_
    refine awp_seq ?_
    refine rln ?_
    refine G (q_ixp1 ?_)
    refine G (q_ldp ?_)
    refine G (q_rem64 (y := 32768) ?_ (hz := by decide))
    refine G (q_ixp1 ?_)
    refine G20 (fun _ k_ => q_stm k_) ?_
    refine gend ?_
    refine awp_seq ?_
    refine rln ?_
    refine As ?_
    refine gend ?_
    refine awp_seq ?_
    refine rln ?_
    refine Mv ?_
    refine G (q_slp_no ?_)
    refine G2 (fun _ k_ => q_app  k_ (eB := el_slc (xs := u64s (y.1.set 15 (y.1.getD 15 0 % 32768))) rfl (by rw [mapc_length, List.length_set, hyl]; decide) (cut_h (List.length_set.trans hyl)))) ?_
    refine As ?_
    refine gend ?_
    refine awp_seq ?_
    refine rln ?_
    refine Mv ?_
    refine Mv ?_
    refine G (q_ixs1 ?_)
    refine G (q_ldp ?_)
    refine Mv ?_
    refine G (q_mul64 (x := 19) ?_)
    refine G (q_add64 ?_)
    refine G (q_ixs1 ?_)
    refine G20 (fun _ k_ => q_stm k_) ?_
    refine gend ?_
    refine rdln [2, 3] [0, 0, 0, 1] [1, 0, 1, 2] ?_
    refine DSp 2 rfl (fun _ hv => q_slp_no ⟨rfl, rfl⟩ (hp := hv)) ?_
    refine Dp (fun _ => q_mv (s := .v (.c _)) ⟨rfl, rfl⟩) ?_
    refine De2 (fun _ k_ => q_callv [3] [none] [some (u64s (t3 y.1))] (g3) k_ (ha := (cac (et rfl) rfl ca0)) (e2 := pl1 rfl sees_m pl0) (eL := mln ml0) (eM := (ml1 sees_m ml0)) (e3 := rfl)) ?_
    refine De2 (fun _ k_ => q_cpy  k_ (eB := el_slc (xs := u64s (t3 y.1)) rfl (by rw [mapc_length, ht3]; decide) (cut_h ht3))) ?_
    refine dend ?_
    exact ⟨⟨t3 y.1, ht3, hb3, hv3.trans hyv⟩, hm3, sle_view [0, 1, 2] pi1 (by decide) ⟨rfl, rfl, trivial⟩ (vh3 rfl (pick_m rfl) (pick_m (congrArg (fun z => some (some z)) (cp16 (List.length_set.trans hyl) ht3))))⟩   -- endloop 3
  refine awp_skip ?_
  refine awp_block ?_
  refine awp_seq ?_
  refine rln ?_
  refine As ?_
  refine gend ?_
  refine awp_seq ?_
  refine rln ?_
  refine Mv ?_
  refine Mv ?_
  obtain ⟨f1, f2, f3, _⟩ := fl38_ok x.2.1 hc1
  obtain ⟨r1, r2, r3⟩ := rnd_spec x.2.1 hc1
  refine G (q_sls_hi (k := 16) ?_)
  refine G2 (fun _ k_ => q_app  k_ (eB := el_slc (xs := u64s (x.1.take 16)) rfl (by rw [mapc_length]; omega) tk16)) ?_
  refine As ?_
  refine gend ?_
  refine awp_seq ?_
  refine awp_seq ?_
  refine rln ?_
  refine G (q_as (s := sc (cn 16)) ?_)
  refine gend ?_
  refine awp_block ?_
  refine awp_loop (fun j : {i : Nat // i ≤ (x.1.length - 16)} => ⟨frm 93 [(0, sc (.slc 2 0 x.1.length 1)), (2, sc (.ptr 1 0)), (3, sc (.slc 3 0 16 1)), (4, sc (cn (16 + j.1)))], [none, some (u64s (List.replicate 16 0)), some (u64s x.1), some (u64s (fl38 x.1 j.1))]⟩) (fun j => (x.1.length - 16) - j.1) ⟨0, Nat.zero_le _⟩ (sle_sub ⟨rfl, rfl, rfl, rfl, trivial⟩ rfl) fun j => ?_   -- live: [0, 3, 4]
  have hfl := fl38_len x.1 hx1 j.1
  refine awp_seq ?_
  refine awp_seq ?_
  refine rln ?_
  refine Mv ?_
  refine Mv ?_
  refine G (q_lenc ?_)
  refine G (q_lssn ?_)
  refine gend ?_
  refine cnd (fun hc5 => ?_) (fun hc5 => ?_); rotate_left
  · refine awp_exit ?_
    rw [show j.1 = (x.1.length - 16) from (by have := j.2; omega)]
    have g1 := car_ (fl38 x.1 (x.1.length - 16)) 16 f1 (by decide) (f2.mono (by decide)) f3
    rw [show carL (fl38 x.1 (x.1.length - 16)) = rnd x.1 from rfl] at g1
    refine rln ?_
    refine Mv ?_
    refine G2 (fun _ k_ => q_callv [3] [none] [some (u64s (rnd x.1))] (g1) k_ (ha := (cac (et rfl) rfl ca0)) (e2 := pl1 rfl sees_m pl0) (eL := mln ml0) (eM := (ml1 sees_m ml0)) (e3 := rfl)) ?_
    refine As ?_
    refine gend ?_
    exact ⟨⟨rnd x.1, r1, r2.trans x.2.2⟩, r3, sle_view [0, 1, 4] pi1 (by decide) ⟨rfl, rfl, trivial⟩ (vh3 rfl (pick_m rfl) (pick_m rfl))⟩   -- endloop 1
  refine awp_skip ?_
  refine awp_seq ?_
  refine awp_block ?_
  refine awp_seq ?_
  refine rln ?_
  refine Mv ?_
  refine G (q_subn (y := 16) ?_)
  refine G (q_lssn (y := 16) ?_)
  refine gend ?_
  refine cndY (fun hc6 => ?_) ?_; rotate_left
  · omega
  refine rdln [15] [] [0, 0, 0, 0, 0, 0, 0, 0, 0, 0, 0, 0, 0, 0, 0, 1] ?_
  refine Dp (fun _ => q_mv (s := .v (.c _)) ⟨rfl, rfl⟩) ?_
  refine Dp (fun _ => q_mv (s := .v (.c _)) ⟨rfl, rfl⟩) ?_
  refine Dp (fun _ => q_subn (y := 16) ⟨rfl, rfl⟩) ?_
  refine Dp (fun _ => q_mv (s := .v (.c _)) ⟨rfl, rfl⟩) ?_
  refine Dp (fun _ => q_mv (s := .v (.c _)) ⟨rfl, rfl⟩) ?_
  refine Dp (fun _ => q_subn (y := 16) ⟨rfl, rfl⟩) ?_
  refine Dp (fun _ => q_ixs1 ⟨rfl, rfl⟩) ?_
  refine DLp ?_
  refine Dp (fun _ => q_mv (s := .v (.c _)) ⟨rfl, rfl⟩) ?_
  refine Dp (fun _ => q_mv (s := .v (.c _)) ⟨rfl, rfl⟩) ?_
  refine Dp (fun _ => q_ixs1 ⟨rfl, rfl⟩) ?_
  refine DLp ?_
  refine Dp (fun _ => q_mul64 (x := 38) ⟨rfl, rfl⟩) ?_
  refine Dp (fun _ => q_add64 ⟨rfl, rfl⟩) ?_
  refine Dp (fun _ => q_ixs1 ⟨rfl, rfl⟩) ?_
  refine De20 (fun _ k_ => q_stm k_) ?_
  refine dend ?_
  refine rln ?_
  refine Mv ?_
  refine G (q_addn (y := 1) ?_)
  refine As ?_
  refine gend ?_
  exact ⟨⟨j.1 + 1, by omega⟩, by show (x.1.length - 16) - (j.1 + 1) < (x.1.length - 16) - j.1; omega, sle_sub ⟨rfl, rfl, rfl, rfl, trivial⟩ rfl⟩   -- endloop 4
set_option maxHeartbeats 1600000 in
/-- escutcheonref02.Mod -/
theorem mod16a_ (d : List UInt64) (V : Nat) (hd16 : d.length = 16) (hb : Bd d 9223372036854775808) (hlt : Dv d 16 < 115792089237316195423570985008687907853269984665640564039457584007913129639936) (hV : Dv d 16 % P = V) : Good Try.prog 30 [.c (.ro 16 (u64s d))] [] (sa (u64s (dg V))) [] := by
  obtain ⟨c1, c2, c3, c4⟩ := carL_spec hd16 hb (Nat.lt_trans hlt (by decide))
  have gD := car_ d 16 hd16 (by decide) hb (Nat.lt_trans hlt (by decide))
  have hDl := c4 (by rw [q16]; exact hlt)
  rw [hDl] at c2 gD
  have hDb := c1
  have hDv : Dv (carL d) 16 % P = V := by rw [c2, hV]
  generalize carL d = D at gD hDl hDb hDv
  refine good_frm 93 Try.func30 rfl rfl rfl rfl rfl rfl ?_
  refine awp_seq ?_
  refine rln ?_
  refine G2 (fun _ k_ => q_al k_) ?_
  refine gend ?_
  refine awp_seq ?_
  refine awp_block ?_
  refine awp_loop (fun _ : Unit => ⟨frm 93 [(0, sc (.ro 16 (u64s d))), (2, sc (.ptr 0 0))], [some (u64s (List.replicate 16 0))]⟩) (fun _ => 0) () (sle_sub ⟨rfl, rfl, trivial⟩ rfl) fun _ => ?_   -- live: [0]
  refine awp_seq ?_
  refine awp_seq ?_
  refine rln ?_
  refine Mv ?_
  refine G (q_leno ?_)
  refine G (q_gtrn (y := 16) ?_)
  refine gend ?_
  refine cndN (fun hc1 => ?_) ?_; rotate_left
  · decide
  refine awp_exit ?_
  refine awp_seq ?_
  refine rln ?_
  refine Mv ?_
  refine G2 (fun _ k_ => q_app  k_ (eB := el_ro (by rw [mapc_length, hd16]))) ?_
  refine G2 (fun _ k_ => q_callv [1] [none] [some (u64s D)] (gD) k_ (ha := (cac (et rfl) rfl ca0)) (e2 := pl1 rfl sees_m pl0) (eL := mln ml0) (eM := (ml1 sees_m ml0)) (e3 := rfl)) ?_
  refine As ?_
  refine gend ?_
  refine awp_seq ?_
  refine awp_block ?_
  refine awp_loop (fun _ : Unit => ⟨frm 93 [(0, sc (.slc 2 0 16 1)), (2, sc (.ptr 0 0))], [some (u64s (List.replicate 16 0)), none, some (u64s D)]⟩) (fun _ => 0) () (sle_sub ⟨rfl, rfl, trivial⟩ rfl) fun _ => ?_   -- live: [0, 2]
  refine awp_seq ?_
  refine awp_seq ?_
  refine rln ?_
  refine Mv ?_
  refine G (q_lenc ?_)
  refine G (q_gtrn (y := 16) ?_)
  refine gend ?_
  refine cndN (fun hc2 => ?_) ?_; rotate_left
  · decide
  refine awp_exit ?_
  refine awp_seq ?_
  refine rln ?_
  refine G2 (fun _ k_ => q_al k_) ?_
  refine gend ?_
  refine awp_seq ?_
  refine rln ?_
  refine G (q_slp_no ?_)
  refine Mv ?_
  refine G2 (fun _ k_ => q_cpy  k_ (eB := el_slc (xs := u64s D) rfl (by rw [mapc_length, hDl]; decide) (cut_h hDl))) ?_
  rw [cp16 (List.length_replicate ..) hDl]
  refine gend ?_
  refine awp_seq ?_
  refine awp_block ?_
  refine awp_loop (fun y : {l : List UInt64 // l.length = 16 ∧ Bd l 65535 ∧ Dv l 16 % P = V} => ⟨frm 93 [(2, sc (.ptr 0 0)), (5, sc (.ptr 1 0))], [some (u64s (List.replicate 16 0)), some (u64s y.1)]⟩) (fun y => Dv y.1 16) ⟨D, hDl, hDb, hDv⟩ (sle_view [0, 3] (fun p h => absurd h (Nat.not_lt_zero _)) (by decide) ⟨rfl, rfl, trivial⟩ (vh2 (pick_m rfl) (pick_m rfl))) fun y => ?_
  have hyl := y.2.1
  have hyb := y.2.2.1
  have hyv := y.2.2.2
  refine awp_seq ?_
  refine awp_seq ?_
  refine rln ?_
  refine G (q_ixp1 ?_)
  refine G (q_ldp ?_)
  refine G (q_gtr64 (y := 32767) ?_)
  refine gend ?_
  refine cnd (fun hc3 => ?_) (fun hc3 => ?_); rotate_left
  · refine awp_exit ?_
    have hm := low255 hyb hc3
    obtain ⟨m, hmE⟩ : ∃ m, Dv y.1 16 = m := ⟨_, rfl⟩
    have hyd := dg_of hyl hyb hmE
    rw [hmE] at hm hyv
    rw [hyd]
    refine awp_seq ?_
    refine awp_seq ?_
    refine rdln [1, 2] [0, 0, 1, 2] [1, 1, 2, 2] ?_
    refine DLw ?_
    refine De2 (fun _ k_ => q_callp (prime_) k_) ?_
    refine De2 (fun _ k_ => q_callp (less_ m P (by omega) (by decide)) k_) ?_
    refine Dp (fun _ => q_notb ⟨rfl, rfl⟩) ?_
    refine dend ?_
    refine cndbn (fun hc4 => ?_) (fun hc4 => ?_)
    · refine rdln [1, 2, 3] [0, 0, 1, 2] [1, 1, 2, 3] ?_
      refine DLw ?_
      refine De2 (fun _ k_ => q_callp (prime_) k_) ?_
      refine De2 (fun _ k_ => q_callp (minus_ m P (by omega) (Nat.le_of_not_lt (of_decide_eq_false hc4))) k_) ?_
      refine De20 (fun _ k_ => q_stw k_) ?_
      refine dend ?_
      refine awp_seq ?_
      refine rln ?_
      refine G (q_ldw ?_)
      refine G20 (fun _ k_ => q_stw k_) ?_
      refine gend ?_
      refine awp_ret ?_
      exact fpc (t := 35) (a := 2) (hn := by exact (mapc_length ..).trans (dg_len _)) (hv := by rw [show V = m - P by rw [← hyv, Nat.mod_eq_sub_mod (Nat.le_of_not_lt (of_decide_eq_false hc4)), Nat.mod_eq_of_lt (by have hp := P_val; omega)]])
    refine awp_skip ?_
    refine awp_seq ?_
    refine rln ?_
    refine G (q_ldw ?_)
    refine G20 (fun _ k_ => q_stw k_) ?_
    refine gend ?_
    refine awp_ret ?_
    exact fpc (t := 35) (a := 2) (hn := by exact (mapc_length ..).trans (dg_len _)) (hv := by rw [show V = m by rw [← hyv]; exact Nat.mod_eq_of_lt (of_decide_eq_true hc4)])
  refine awp_skip ?_
  refine awp_block ?_
  refine awp_seq ?_
  refine rln ?_
  refine G (q_ixp1 ?_)
  refine G (q_ldp ?_)
  obtain ⟨ht3, hb3, hv3, hm3⟩ := t3_spec hyl hyb hc3
  obtain ⟨he1, he2, _⟩ := t3e_spec hyl hyb
  have g3 := car_ (t3e y.1) 16 he1 (by decide) (he2.mono (by decide)) (Nat.lt_trans (t3e_lt hyl hyb) (by decide))
  rw [show carL (t3e y.1) = t3 y.1 from rfl, ht3] at g3
  refine G (q_quo64 (y := 32768) ?_ (hz := by decide))
  refine As ?_
  refine gend ?_
  refine awp_seq ?_
  refine rln ?_
  refine G (q_ixp1 ?_)
  refine G (q_ldp ?_)
  refine G (q_rem64 (y := 32768) ?_ (hz := by decide))
  refine G (q_ixp1 ?_)
  refine G20 (fun _ k_ => q_stm k_) ?_
  refine gend ?_
  refine awp_seq ?_
  refine rln ?_
  refine As ?_
  refine gend ?_
  refine awp_seq ?_
  refine rln ?_
  refine Mv ?_
  refine G (q_slp_no ?_)
  refine G2 (fun _ k_ => q_app  k_ (eB := el_slc (xs := u64s (y.1.set 15 (y.1.getD 15 0 % 32768))) rfl (by rw [mapc_length, List.length_set, hyl]; decide) (cut_h (List.length_set.trans hyl)))) ?_
  refine As ?_
  refine gend ?_
  refine awp_seq ?_
  refine rln ?_
  refine Mv ?_
  refine Mv ?_
  refine G (q_ixs1 ?_)
  refine G (q_ldp ?_)
  refine Mv ?_
  refine G (q_mul64 (x := 19) ?_)
  refine G (q_add64 ?_)
  refine G (q_ixs1 ?_)
  refine G20 (fun _ k_ => q_stm k_) ?_
  refine gend ?_
  refine rdln [2, 3] [0, 0, 0, 1] [1, 0, 1, 2] ?_
  refine DSp 1 rfl (fun _ hv => q_slp_no ⟨rfl, rfl⟩ (hp := hv)) ?_
  refine Dp (fun _ => q_mv (s := .v (.c _)) ⟨rfl, rfl⟩) ?_
  refine De2 (fun _ k_ => q_callv [2] [none] [some (u64s (t3 y.1))] (g3) k_ (ha := (cac (et rfl) rfl ca0)) (e2 := pl1 rfl sees_m pl0) (eL := mln ml0) (eM := (ml1 sees_m ml0)) (e3 := rfl)) ?_
  refine De2 (fun _ k_ => q_cpy  k_ (eB := el_slc (xs := u64s (t3 y.1)) rfl (by rw [mapc_length, ht3]; decide) (cut_h ht3))) ?_
  refine dend ?_
  exact ⟨⟨t3 y.1, ht3, hb3, hv3.trans hyv⟩, hm3, sle_view [0, 1] (fun p h => absurd h (Nat.not_lt_zero _)) (by decide) ⟨rfl, rfl, trivial⟩ (vh2 (pick_m rfl) (pick_m (congrArg (fun z => some (some z)) (cp16 (List.length_set.trans hyl) ht3))))⟩   -- endloop 3
set_option maxHeartbeats 1600000 in
/-- escutcheonref02.Mod -/
theorem mod16b_ (d : List UInt64) (V : Nat) (hd16 : d.length = 16) (hb : Bd d 9223372036854775808) (hlt : Dv d 16 < 65536 ^ 17) (hge : 115792089237316195423570985008687907853269984665640564039457584007913129639936 ≤ Dv d 16) (hV : Dv d 16 % P = V) : Good Try.prog 30 [.c (.ro 16 (u64s d))] [] (sa (u64s (dg V))) [] := by
  obtain ⟨c1, c2, c3, c4⟩ := carL_spec hd16 hb hlt
  have gD := car_ d 16 hd16 (by decide) hb hlt
  have hDl : 16 < (carL d).length := by
    rcases c3 with h | h
    · exfalso
      rw [h] at c2
      have := c1.lt 16
      rw [q16] at this
      omega
    · omega
  have gM := modL_ (carL d) V ⟨by omega, by omega, c1⟩ hDl (by rw [show nv (carL d) = Dv (carL d) (carL d).length from rfl, c2, hV])
  have hV16 : (dg V).length = 16 := dg_len V
  generalize carL d = D at gD hDl gM
  refine good_frm 93 Try.func30 rfl rfl rfl rfl rfl rfl ?_
  refine awp_seq ?_
  refine rln ?_
  refine G2 (fun _ k_ => q_al k_) ?_
  refine gend ?_
  refine awp_seq ?_
  refine awp_block ?_
  refine awp_loop (fun _ : Unit => ⟨frm 93 [(0, sc (.ro 16 (u64s d))), (2, sc (.ptr 0 0))], [some (u64s (List.replicate 16 0))]⟩) (fun _ => 0) () (sle_sub ⟨rfl, rfl, trivial⟩ rfl) fun _ => ?_   -- live: [0]
  refine awp_seq ?_
  refine awp_seq ?_
  refine rln ?_
  refine Mv ?_
  refine G (q_leno ?_)
  refine G (q_gtrn (y := 16) ?_)
  refine gend ?_
  refine cndN (fun hc1 => ?_) ?_; rotate_left
  · decide
  refine awp_exit ?_
  refine awp_seq ?_
  refine rln ?_
  refine Mv ?_
  refine G2 (fun _ k_ => q_app  k_ (eB := el_ro (by rw [mapc_length, hd16]))) ?_
  refine G2 (fun _ k_ => q_callv [1] [none] [some (u64s D)] (gD) k_ (ha := (cac (et rfl) rfl ca0)) (e2 := pl1 rfl sees_m pl0) (eL := mln ml0) (eM := (ml1 sees_m ml0)) (e3 := rfl)) ?_
  refine As ?_
  refine gend ?_
  refine awp_seq ?_
  refine awp_block ?_
  refine awp_loop (fun _ : Unit => ⟨frm 93 [(0, sc (.slc 2 0 D.length 1)), (2, sc (.ptr 0 0))], [some (u64s (List.replicate 16 0)), none, some (u64s D)]⟩) (fun _ => 0) () (sle_sub ⟨rfl, rfl, trivial⟩ rfl) fun _ => ?_   -- live: [0, 2]
  refine awp_seq ?_
  refine awp_seq ?_
  refine rln ?_
  refine Mv ?_
  refine G (q_lenc ?_)
  refine G (q_gtrn (y := 16) ?_)
  refine gend ?_
  refine cndY (fun hc2 => ?_) ?_; rotate_left
  · omega
  refine awp_skip ?_
  refine awp_block ?_
  refine awp_seq ?_
  refine rln ?_
  refine Mv ?_
  refine G2 (fun _ k_ => q_callv [2] [none] [] (gM) k_ (ha := (cac (et rfl) rfl ca0)) (e2 := pl1 rfl sees_m pl0) (eL := mln ml0) (eM := ml0) (e3 := rs_m)) ?_
  refine G20 (fun _ k_ => q_stw k_) ?_
  refine gend ?_
  refine awp_ret ?_
  exact fpc (t := 35) (a := 2) (hn := by exact (mapc_length ..).trans hV16)
theorem mod16_ (d : List UInt64) (hd16 : d.length = 16) (hb : Bd d 9223372036854775808) (hlt : Dv d 16 < 65536 ^ 17) : Good Try.prog 30 [.c (.ro 16 (u64s d))] [] (sa (u64s (dg (Dv d 16 % P)))) [] := by
  rcases Nat.lt_or_ge (Dv d 16) 115792089237316195423570985008687907853269984665640564039457584007913129639936 with h | h
  · exact mod16a_ d _ hd16 hb h rfl
  · exact mod16b_ d _ hd16 hb hlt h rfl
end Go.Proofs.Ytlidpcjinillfaa.Rn

/- What functions of the program do, walked over the abstract machine. -/
namespace Go.Proofs.Ytlidpcjinillfaa.Rn
open Go Go.Abs Go.Proofs

open Go.Nt Fd
/-- The digits of an element. -/
abbrev de (x : F) : List UInt64 := dg x.val
theorem de_len (x : F) : (de x).length = 16 := dg_len _
theorem F_q (x : F) : x.val < 115792089237316195423570985008687907853269984665640564039457584007913129639936 := by have := F_lt x; omega
theorem de_inj {x y : F} (h : de x = de y) : x = y := by
  have h1 := dg_v x.val (F_q x)
  have h2 := dg_v y.val (F_q y)
  have h3 : Dv (dg x.val) 16 = Dv (dg y.val) 16 := congrArg (fun l => Dv l 16) h
  exact Fin.ext (by rw [← h1, ← h2, h3])
theorem deq (x y : F) : decide (de x = de y) = decide (x = y) := decide_eq_decide.2 ⟨de_inj, fun h => h ▸ rfl⟩
/-- Bytes into digits. -/
def ofd (b : List UInt8) : Nat → List UInt64
  | 0 => List.replicate 16 0
  | i + 1 => (ofd b i).set i ((b.getD (2 * i) 0).toUInt64 + 256 * (b.getD (2 * i + 1) 0).toUInt64)
theorem ofd_len (b : List UInt8) : ∀ i, (ofd b i).length = 16
  | 0 => by simp [ofd]
  | i + 1 => by rw [ofd, List.length_set, ofd_len]
theorem two_bytes (x y : UInt8) : (x.toUInt64 + 256 * y.toUInt64).toNat = x.toNat + 256 * y.toNat := by
  have := x.toNat_lt
  have := y.toNat_lt
  rw [UInt64.toNat_add, UInt64.toNat_mul, UInt8.toNat_toUInt64, UInt8.toNat_toUInt64, show UInt64.toNat 256 = 256 from rfl]; omega
theorem ofd_spec (b : List UInt8) : ∀ i, i ≤ 16 → Bd (ofd b i) 65535 ∧ Dv (ofd b i) i = Fv (fun j => b.getD j 0) (2 * i)
  | 0, _ => ⟨fun i => by rw [ofd, rep_get]; decide, rfl⟩
  | i + 1, h => by
    obtain ⟨h1, h2⟩ := ofd_spec b i (by omega)
    have hl := ofd_len b i
    have e := two_bytes (b.getD (2 * i) 0) (b.getD (2 * i + 1) 0)
    have := (b.getD (2 * i) 0).toNat_lt
    have := (b.getD (2 * i + 1) 0).toNat_lt
    refine ⟨fun j => ?_, ?_⟩
    · rw [ofd, getD_set _ _ _ _ (by omega)]
      split
      · rw [e]; omega
      · exact h1 j
    · have hD : Dv (ofd b (i + 1)) (i + 1) = Dv (ofd b (i + 1)) i + 65536 ^ i * ((ofd b (i + 1)).getD i 0).toNat := rfl
      have hF : Fv (fun j => b.getD j 0) (2 * (i + 1)) = Fv (fun j => b.getD j 0) (2 * i) + 256 ^ (2 * i) * (b.getD (2 * i) 0).toNat + 256 ^ (2 * i + 1) * (b.getD (2 * i + 1) 0).toNat := rfl
      have g1 : (ofd b (i + 1)).getD i 0 = (b.getD (2 * i) 0).toUInt64 + 256 * (b.getD (2 * i + 1) 0).toUInt64 := by rw [ofd, getD_set _ _ _ _ (by omega), if_pos rfl]
      have g2 : Dv (ofd b (i + 1)) i = Dv (ofd b i) i := Dv_congr i fun j hj => by rw [ofd, getD_set _ _ _ _ (by omega), if_neg (by omega)]
      rw [hD, hF, g1, g2, h2, e, Nat.pow_succ, Nat.pow_mul, show (256 : Nat) ^ 2 = 65536 from rfl, Nat.mul_add, Nat.mul_assoc]
      omega
theorem ofd_dg (b : List UInt8) : ofd b 16 = dg (bv b) := by
  obtain ⟨h1, h2⟩ := ofd_spec b 16 (by decide)
  exact dg_of (ofd_len b 16) h1 h2
/-- Digits into bytes. -/
def byd (l : List UInt64) : Nat → List UInt8
  | 0 => List.replicate 32 0
  | i + 1 => ((byd l i).set (2 * i) (l.getD i 0).toUInt8).set (2 * i + 1) (shr64n (l.getD i 0) 8).toUInt8
theorem byd_len (l : List UInt64) : ∀ i, (byd l i).length = 32
  | 0 => by simp [byd]
  | i + 1 => by rw [byd, List.length_set, List.length_set, byd_len]
theorem byd_get (n : Nat) : ∀ k, k ≤ 16 → ∀ i, i < 2 * k → (byd (dg n) k).getD i 0 = UInt8.ofNat (n / 256 ^ i)
  | 0, _, i, h => by omega
  | k + 1, hk, i, h => by
    have hl := byd_len (dg n) k
    have hg := dgk_get 16 n k (by omega)
    have gs : ∀ (m : List UInt8) (a j : Nat) (x : UInt8), a < m.length → (m.set a x).getD j 0 = if a = j then x else m.getD j 0 := by
      intro m a j x ha
      simp only [List.getD_eq_getElem?_getD, List.getElem?_set]
      by_cases e : a = j
      · subst e; simp [ha]
      · simp [e]
    have e16 : (65536 : Nat) ^ k = 256 ^ (2 * k) := by rw [Nat.pow_mul]
    rw [byd, gs _ _ _ _ (by rw [List.length_set]; omega), gs _ _ _ _ (by omega)]
    split
    · rename_i e
      subst e
      apply UInt8.toNat_inj.1
      rw [UInt64.toNat_toUInt8, shr_nat _ _ (by decide), hg, UInt64.toNat_ofNat', UInt8.toNat_ofNat', show (256 : Nat) ^ (2 * k + 1) = 256 ^ (2 * k) * 256 from Nat.pow_succ .., ← Nat.div_div_eq_div_mul, e16]
      omega
    · split
      · rename_i e
        subst e
        apply UInt8.toNat_inj.1
        rw [UInt64.toNat_toUInt8, hg, UInt64.toNat_ofNat', UInt8.toNat_ofNat', e16]
        omega
      · exact byd_get n k (by omega) i (by omega)
theorem byd_by (n : Nat) : byd (dg n) 16 = by32 n := ext32 (byd_len _ _) (by32_len _) fun i hi => by rw [byd_get n 16 (by decide) i (by omega), by32_get _ _ hi]
def smd (x : UInt64) : Nat → List UInt64
  | 0 => List.replicate 16 0
  | i + 1 => (smd x i).set i (shr64n x (UInt64.ofNat (16 * i)).toNat &&& 65535)
theorem smd_len (x : UInt64) : ∀ i, (smd x i).length = 16
  | 0 => by simp [smd]
  | i + 1 => by rw [smd, List.length_set, smd_len]
theorem smd_spec (x : UInt64) : ∀ i, i ≤ 4 → Bd (smd x i) 65535 ∧ (∀ k, i ≤ k → (smd x i).getD k 0 = 0) ∧ Dv (smd x i) i = x.toNat % 65536 ^ i
  | 0, _ => ⟨fun i => by rw [smd, rep_get]; decide, fun k _ => by rw [smd, rep_get], by simp [Dv, Nat.mod_one]⟩
  | i + 1, h => by
    obtain ⟨h1, h2, h3⟩ := smd_spec x i (by omega)
    have hl := smd_len x i
    have e : (shr64n x (UInt64.ofNat (16 * i)).toNat &&& 65535).toNat = x.toNat / 65536 ^ i % 65536 := by
      rw [UInt64.toNat_and, show UInt64.toNat 65535 = 2 ^ 16 - 1 from rfl, Nat.and_two_pow_sub_one_eq_mod, UInt64.toNat_ofNat', Nat.mod_eq_of_lt (b := 2 ^ 64) (by omega), shr_nat _ _ (by omega), Nat.pow_mul]
    refine ⟨fun j => ?_, fun k hk => ?_, ?_⟩
    · rw [smd, getD_set _ _ _ _ (by omega)]
      split
      · rw [e]; omega
      · exact h1 j
    · rw [smd, getD_set _ _ _ _ (by omega), if_neg (by omega)]; exact h2 k (by omega)
    · have hD : Dv (smd x (i + 1)) (i + 1) = Dv (smd x (i + 1)) i + 65536 ^ i * ((smd x (i + 1)).getD i 0).toNat := rfl
      have g1 : (smd x (i + 1)).getD i 0 = shr64n x (UInt64.ofNat (16 * i)).toNat &&& 65535 := by rw [smd, getD_set _ _ _ _ (by omega), if_pos rfl]
      have g2 : Dv (smd x (i + 1)) i = Dv (smd x i) i := Dv_congr i fun j hj => by rw [smd, getD_set _ _ _ _ (by omega), if_neg (by omega)]
      rw [hD, g1, g2, h3, e, Nat.mod_pow_succ]
theorem smd_dg (x : UInt64) : smd x 4 = dg x.toNat := by
  obtain ⟨h1, h2, h3⟩ := smd_spec x 4 (by decide)
  refine dg_of (smd_len x 4) h1 ?_
  have hx := x.toNat_lt
  have : ∀ n, Dv (smd x 4) (4 + n) = Dv (smd x 4) 4 := by
    intro n
    induction n with
    | zero => rfl
    | succ n ih => rw [← Nat.add_assoc, Dv, ih, h2 _ (by omega)]; rfl
  rw [show (16 : Nat) = 4 + 12 from rfl, this 12, h3, Nat.mod_eq_of_lt (by rw [show (65536 : Nat) ^ 4 = 2 ^ 64 by decide]; exact hx)]
/-- p less a small number, shifted. -/
def mri (n : List UInt64) : Nat → List UInt64
  | 0 => n
  | i + 1 => if i < 15 then ((mri n i).set i ((mri n i).getD i 0 / 2)).set i (((mri n i).set i ((mri n i).getD i 0 / 2)).getD i 0 + ((mri n i).set i ((mri n i).getD i 0 / 2)).getD (i + 1) 0 % 2 * 32768) else (mri n i).set i ((mri n i).getD i 0 / 2)
def mrs (n : List UInt64) : Nat → List UInt64
  | 0 => n
  | k + 1 => mri (mrs n k) 16
def mr0 (x : UInt64) : List UInt64 := (dg P).set 0 ((dg P).getD 0 0 - x)
end Go.Proofs.Ytlidpcjinillfaa.Rn

/- What functions of the program do, walked over the abstract machine. -/
namespace Go.Proofs.Ytlidpcjinillfaa.Rn
open Go Go.Abs Go.Proofs

open Go.Nt Fd
/-- escutcheonref02.all -/
theorem all_ (l : List UInt64) (hl : l.length = 16) : Good Try.prog 46 [.a (u64s l)] [] (sc (.slc 0 0 16 1)) [some (u64s l)] := by
  refine good_frm 5 Try.func46 rfl rfl rfl rfl rfl rfl ?_
  refine awp_seq ?_
  refine rln ?_
  refine G2 (fun _ k_ => q_boxa k_) ?_
  refine As ?_
  refine gend ?_
  refine awp_seq ?_
  refine rln ?_
  refine G (q_slp_no ?_)
  refine G2 (fun _ k_ => q_app  k_ (eB := el_slc (xs := u64s l) rfl (by rw [mapc_length, hl]; decide) (cut_h hl))) ?_
  refine As ?_
  refine gend ?_
  refine awp_ret ?_
  exact fx1 [1] (hm0 := rfl) (hH := (vh1 (pick_m rfl)).symm)
/-- escutcheonref02.Of -/
theorem of_ (b : List UInt8) (hb : b.length = 32) : Good Try.prog 19 [.a (u8s b)] [] (sa (u64s (dg (bv b)))) [] := by
  rw [← ofd_dg]
  refine good_frm 25 Try.func19 rfl rfl rfl rfl rfl rfl ?_
  refine awp_seq ?_
  refine rln ?_
  refine G2 (fun _ k_ => q_boxa k_) ?_
  refine G2 (fun _ k_ => q_al k_) ?_
  refine gend ?_
  refine awp_seq ?_
  refine rln ?_
  refine G2 (fun _ k_ => q_al k_) ?_
  refine gend ?_
  refine awp_seq ?_
  refine awp_seq ?_
  refine rln ?_
  refine G (q_as (s := sc (cn 0)) ?_)
  refine gend ?_
  refine awp_block ?_
  refine awp_loop (fun x : {i : Nat // i ≤ 16} => ⟨frm 25 [(1, sc (.ptr 0 0)), (2, sc (.ptr 1 0)), (3, sc (.ptr 2 0)), (4, sc (cn x.1))], [some (u8s b), some (u64s (List.replicate 16 0)), some (u64s (ofd b x.1))]⟩) (fun x => 16 - x.1) ⟨0, Nat.zero_le _⟩ (sle_sub ⟨rfl, rfl, rfl, rfl, trivial⟩ rfl) fun x => ?_   -- live: [1, 3, 4]
  have hl := ofd_len b x.1
  refine awp_seq ?_
  refine awp_seq ?_
  refine rln ?_
  refine Mv ?_
  refine G (q_lssn (y := 16) ?_)
  refine gend ?_
  refine cnd (fun hc1 => ?_) (fun hc1 => ?_); rotate_left
  · refine awp_exit ?_
    rw [show x.1 = 16 from (by have := x.2; omega)]
    have hl := ofd_len b 16
    refine awp_seq ?_
    refine rln ?_
    refine G (q_ldw ?_)
    refine G20 (fun _ k_ => q_stw k_) ?_
    refine gend ?_
    refine awp_ret ?_
    exact fpc (t := 35) (a := 2) (hn := by exact (mapc_length ..).trans hl)
  refine awp_skip ?_
  refine awp_seq ?_
  refine awp_block ?_
  refine rdln [15] [] [0, 0, 0, 0, 0, 0, 0, 0, 0, 0, 0, 0, 0, 0, 0, 1] ?_
  refine Dp (fun _ => q_mv (s := .v (.c _)) ⟨rfl, rfl⟩) ?_
  refine Dp (fun _ => q_mv (s := .v (.c _)) ⟨rfl, rfl⟩) ?_
  refine Dp (fun _ => q_muln (x := 2) ⟨rfl, rfl⟩) ?_
  refine Dp (fun _ => q_ixp1 ⟨rfl, rfl⟩) ?_
  refine DLp ?_
  refine Dp (fun _ => q_cv8_64 ⟨rfl, rfl⟩) ?_
  refine Dp (fun _ => q_mv (s := .v (.c _)) ⟨rfl, rfl⟩) ?_
  refine Dp (fun _ => q_muln (x := 2) ⟨rfl, rfl⟩) ?_
  refine Dp (fun _ => q_addn (y := 1) ⟨rfl, rfl⟩) ?_
  refine Dp (fun _ => q_ixp1 ⟨rfl, rfl⟩) ?_
  refine DLp ?_
  refine Dp (fun _ => q_cv8_64 ⟨rfl, rfl⟩) ?_
  refine Dp (fun _ => q_mul64 (x := 256) ⟨rfl, rfl⟩) ?_
  refine Dp (fun _ => q_add64 ⟨rfl, rfl⟩) ?_
  refine Dp (fun _ => q_ixp1 ⟨rfl, rfl⟩) ?_
  refine De20 (fun _ k_ => q_stm k_) ?_
  refine dend ?_
  refine rln ?_
  refine Mv ?_
  refine G (q_addn (y := 1) ?_)
  refine As ?_
  refine gend ?_
  exact ⟨⟨x.1 + 1, by omega⟩, by show 16 - (x.1 + 1) < 16 - x.1; omega, sle_sub ⟨rfl, rfl, rfl, rfl, trivial⟩ rfl⟩   -- endloop 1
/-- escutcheonref02.Bytes -/
theorem bytes_l (L : List UInt64) (hn : L.length = 16) : Good Try.prog 13 [.a (u64s L)] [] (sa (u8s (byd L 16))) [] := by
  refine good_frm 26 Try.func13 rfl rfl rfl rfl rfl rfl ?_
  refine awp_seq ?_
  refine rln ?_
  refine G2 (fun _ k_ => q_boxa k_) ?_
  refine G2 (fun _ k_ => q_al k_) ?_
  refine gend ?_
  refine awp_seq ?_
  refine rln ?_
  refine G2 (fun _ k_ => q_al k_) ?_
  refine gend ?_
  refine awp_seq ?_
  refine awp_seq ?_
  refine rln ?_
  refine G (q_as (s := sc (cn 0)) ?_)
  refine gend ?_
  refine awp_block ?_
  refine awp_loop (fun x : {i : Nat // i ≤ 16} => ⟨frm 26 [(1, sc (.ptr 0 0)), (2, sc (.ptr 1 0)), (3, sc (.ptr 2 0)), (4, sc (cn x.1))], [some (u64s L), some (u8s (List.replicate 32 0)), some (u8s (byd L x.1))]⟩) (fun x => 16 - x.1) ⟨0, Nat.zero_le _⟩ (sle_sub ⟨rfl, rfl, rfl, rfl, trivial⟩ rfl) fun x => ?_   -- live: [1, 3, 4]
  have hl := byd_len L x.1
  refine awp_seq ?_
  refine awp_seq ?_
  refine rln ?_
  refine Mv ?_
  refine G (q_lssn (y := 16) ?_)
  refine gend ?_
  refine cnd (fun hc1 => ?_) (fun hc1 => ?_); rotate_left
  · refine awp_exit ?_
    rw [show x.1 = 16 from (by have := x.2; omega)]
    have hl := byd_len L 16
    refine awp_seq ?_
    refine rln ?_
    refine G (q_ldw ?_)
    refine G20 (fun _ k_ => q_stw k_) ?_
    refine gend ?_
    refine awp_ret ?_
    exact fpc (t := 23) (a := 2) (hn := by exact (mapc_length ..).trans hl)
  refine awp_skip ?_
  refine awp_seq ?_
  refine awp_block ?_
  refine rdln [15, 17] [0, 0, 0, 0, 0, 0, 0, 0, 0, 0, 0, 0, 0, 0, 0, 0, 1, 1] [0, 0, 1, 1, 1, 0, 0, 0, 0, 1, 1, 1, 1, 1, 0, 1, 1, 2] ?_
  refine Dp (fun _ => q_mv (s := .v (.c _)) ⟨rfl, rfl⟩) ?_
  refine Dp (fun _ => q_muln (x := 2) ⟨rfl, rfl⟩) ?_
  refine Dp (fun _ => q_mv (s := .v (.c _)) ⟨rfl, rfl⟩) ?_
  refine Dp (fun _ => q_muln (x := 2) ⟨rfl, rfl⟩) ?_
  refine Dp (fun _ => q_addn (y := 1) ⟨rfl, rfl⟩) ?_
  refine Dp (fun _ => q_mv (s := .v (.c _)) ⟨rfl, rfl⟩) ?_
  refine Dp (fun _ => q_ixp1 ⟨rfl, rfl⟩) ?_
  refine DLp ?_
  refine Dp (fun _ => q_cv64_8 ⟨rfl, rfl⟩) ?_
  refine Dp (fun _ => q_mv (s := .v (.c _)) ⟨rfl, rfl⟩) ?_
  refine Dp (fun _ => q_ixp1 ⟨rfl, rfl⟩) ?_
  refine DLp ?_
  refine Dp (fun _ => q_shr64_64 (n := 8) ⟨rfl, rfl⟩) ?_
  refine Dp (fun _ => q_cv64_8 ⟨rfl, rfl⟩) ?_
  refine Dp (fun _ => q_ixp1 ⟨rfl, rfl⟩) ?_
  refine De20 (fun _ k_ => q_stm k_) ?_
  refine Dp (fun _ => q_ixp1 ⟨rfl, rfl⟩) ?_
  refine De20 (fun _ k_ => q_stm k_) ?_
  refine dend ?_
  refine rln ?_
  refine Mv ?_
  refine G (q_addn (y := 1) ?_)
  refine As ?_
  refine gend ?_
  exact ⟨⟨x.1 + 1, by omega⟩, by show 16 - (x.1 + 1) < 16 - x.1; omega, sle_sub ⟨rfl, rfl, rfl, rfl, trivial⟩ rfl⟩   -- endloop 1
theorem bytes_ (n : Nat) : Good Try.prog 13 [.a (u64s (dg n))] [] (sa (u8s (by32 n))) [] := by
  have := bytes_l (dg n) (dg_len n)
  rwa [byd_by] at this
/-- escutcheonref02.Small -/
theorem small_ (x : UInt64) : Good Try.prog 16 [.c (c64 x)] [] (sa (u64s (dg x.toNat))) [] := by
  rw [← smd_dg]
  refine good_frm 18 Try.func16 rfl rfl rfl rfl rfl rfl ?_
  refine awp_seq ?_
  refine rln ?_
  refine G2 (fun _ k_ => q_al k_) ?_
  refine gend ?_
  refine awp_seq ?_
  refine rln ?_
  refine G2 (fun _ k_ => q_al k_) ?_
  refine gend ?_
  refine awp_seq ?_
  refine awp_seq ?_
  refine rln ?_
  refine G (q_as (s := sc (cn 0)) ?_)
  refine gend ?_
  refine awp_block ?_
  refine awp_loop (fun i : {i : Nat // i ≤ 4} => ⟨frm 18 [(0, sc (c64 x)), (2, sc (.ptr 0 0)), (3, sc (.ptr 1 0)), (4, sc (cn i.1))], [some (u64s (List.replicate 16 0)), some (u64s (smd x i.1))]⟩) (fun i => 4 - i.1) ⟨0, Nat.zero_le _⟩ (sle_sub ⟨rfl, rfl, rfl, rfl, trivial⟩ rfl) fun i => ?_   -- live: [0, 3, 4]
  have hl := smd_len x i.1
  refine awp_seq ?_
  refine awp_seq ?_
  refine rln ?_
  refine Mv ?_
  refine G (q_lssn (y := 4) ?_)
  refine gend ?_
  refine cnd (fun hc1 => ?_) (fun hc1 => ?_); rotate_left
  · refine awp_exit ?_
    rw [show i.1 = 4 from (by have := i.2; omega)]
    have hl := smd_len x 4
    refine awp_seq ?_
    refine rln ?_
    refine G (q_ldw ?_)
    refine G20 (fun _ k_ => q_stw k_) ?_
    refine gend ?_
    refine awp_ret ?_
    exact fpc (t := 35) (a := 2) (hn := by exact (mapc_length ..).trans hl)
  refine awp_skip ?_
  refine awp_seq ?_
  refine awp_block ?_
  refine rln ?_
  refine Mv ?_
  refine Mv ?_
  refine Mv ?_
  refine G (q_muln (x := 16) ?_)
  refine G (q_cv0_64 ?_)
  refine G (q_shr64_64 ?_)
  refine G (q_and64 (y := 65535) ?_)
  refine G (q_ixp1 ?_)
  refine G20 (fun _ k_ => q_stm k_) ?_
  refine gend ?_
  refine rln ?_
  refine Mv ?_
  refine G (q_addn (y := 1) ?_)
  refine As ?_
  refine gend ?_
  exact ⟨⟨i.1 + 1, by omega⟩, by show 4 - (i.1 + 1) < 4 - i.1; omega, sle_sub ⟨rfl, rfl, rfl, rfl, trivial⟩ rfl⟩   -- endloop 1
set_option maxHeartbeats 800000 in
/-- escutcheonref02.Add -/
theorem add_ (m n : Nat) (hm : m < 115792089237316195423570985008687907853269984665640564039457584007913129639936) (hn : n < 115792089237316195423570985008687907853269984665640564039457584007913129639936) : Good Try.prog 18 [.a (u64s (dg m)), .a (u64s (dg n))] [] (sa (u64s (dg ((m + n) % P)))) [] := by
  obtain ⟨b1, b2⟩ := sml_spec (dgk_bd 16 m) (dgk_bd 16 n)
  rw [dg_v m hm, dg_v n hn] at b2
  have gM := mod16_ (sml (dg m) (dg n) 16) (sml_len ..) (b1.mono (by decide)) (by rw [b2, show (65536 : Nat) ^ 17 = 65536 * 115792089237316195423570985008687907853269984665640564039457584007913129639936 by decide]; omega)
  rw [b2] at gM
  have hA := dg_len m
  have hB := dg_len n
  have hR := dg_len ((m + n) % P)
  generalize dg ((m + n) % P) = R at gM hR ⊢
  generalize dg m = A at hA gM ⊢
  generalize dg n = B at hB gM ⊢
  refine good_frm 23 Try.func18 rfl rfl rfl rfl rfl rfl ?_
  refine awp_seq ?_
  refine rln ?_
  refine G2 (fun _ k_ => q_boxa k_) ?_
  refine G2 (fun _ k_ => q_boxa k_) ?_
  refine G2 (fun _ k_ => q_al k_) ?_
  refine gend ?_
  refine awp_seq ?_
  refine rln ?_
  refine As ?_
  refine gend ?_
  refine awp_seq ?_
  refine awp_seq ?_
  refine rln ?_
  refine G (q_as (s := sc (cn 0)) ?_)
  refine gend ?_
  refine awp_block ?_
  refine awp_loop (fun i : {i : Nat // i ≤ 16} => ⟨frm 23 [(2, sc (.ptr 0 0)), (3, sc (.ptr 1 0)), (4, sc (.ptr 2 0)), (5, sc (.slc 3 0 i.1 1)), (6, sc (cn i.1))], [some (u64s A), some (u64s B), some (u64s (List.replicate 16 0)), some (u64s (sml A B i.1))]⟩) (fun i => 16 - i.1) ⟨0, Nat.zero_le _⟩ (sle_empty 1 (Nat.zero_le _) ⟨.inl rfl, .inl rfl, .inl rfl, .inr ⟨rfl, rfl⟩, .inl rfl, trivial⟩) fun i => ?_   -- live: [2, 3, 5, 6]
  have hl := sml_len A B i.1
  refine awp_seq ?_
  refine awp_seq ?_
  refine rln ?_
  refine Mv ?_
  refine G (q_lssn (y := 16) ?_)
  refine gend ?_
  refine cnd (fun hc1 => ?_) (fun hc1 => ?_); rotate_left
  · refine awp_exit ?_
    rw [show i.1 = 16 from (by have := i.2; omega)]
    have hl := sml_len A B 16
    refine awp_seq ?_
    refine rln ?_
    refine Mv ?_
    refine G2 (fun _ k_ => q_callp (gM) k_ (ha := (cac (et rfl) (sees_slc rfl rfl (cut_h hl)) ca0))) ?_
    refine G20 (fun _ k_ => q_stw k_) ?_
    refine gend ?_
    refine awp_ret ?_
    exact fpc (t := 35) (a := 4) (hn := by exact (mapc_length ..).trans hR)
  refine awp_skip ?_
  refine awp_seq ?_
  refine awp_block ?_
  refine rdln [8, 9] [0, 0, 0, 0, 0, 0, 0, 0, 0, 1, 2] [1, 0, 0, 0, 0, 0, 0, 0, 1, 2, 2] ?_
  refine Dp (fun _ => q_mv (s := .v (.c _)) ⟨rfl, rfl⟩) ?_
  refine Dp (fun _ => q_mv (s := .v (.c _)) ⟨rfl, rfl⟩) ?_
  refine Dp (fun _ => q_ixp1 ⟨rfl, rfl⟩) ?_
  refine DLp ?_
  refine Dp (fun _ => q_mv (s := .v (.c _)) ⟨rfl, rfl⟩) ?_
  refine Dp (fun _ => q_ixp1 ⟨rfl, rfl⟩) ?_
  refine DLp ?_
  refine Dp (fun _ => q_add64 ⟨rfl, rfl⟩) ?_
  refine De2 (fun _ k_ => q_bsl (fkc rfl (et rfl) rfl (Nat.le_of_ble_eq_true rfl) (fk0 k_))) ?_
  refine De2 (fun _ k_ => q_app  k_ (eA := el_slc (xs := u64s (sml A B i.1)) rfl (by rw [mapc_length]; omega) (cut_h hl)) (eB := el_slc (xs := [_]) rfl (Nat.le_refl 1) rfl)) ?_
  refine Dp (fun _ => q_as (s := .v (.c _)) ⟨rfl, rfl⟩) ?_
  refine dend ?_
  refine rln ?_
  refine Mv ?_
  refine G (q_addn (y := 1) ?_)
  refine As ?_
  refine gend ?_
  exact ⟨⟨i.1 + 1, by omega⟩, by show 16 - (i.1 + 1) < 16 - i.1; omega, sle_view [0, 1, 2, 5] (fun p h => absurd h (Nat.not_lt_zero _)) (by decide) ⟨rfl, rfl, rfl, rfl, rfl, trivial⟩ (vh4 (pick_m rfl) (pick_m rfl) (pick_m rfl) (pick_m (congrArg (fun z => some (some z)) ((app1 _ _).trans (congrArg u64s (sml_succ A B i.1))))))⟩   -- endloop 1
set_option maxHeartbeats 800000 in
/-- escutcheonref02.Neg -/
theorem neg_ (x : F) : Good Try.prog 31 [.a (u64s (de x))] [] (sa (u64s (de (-x)))) [] := by
  have hx := F_lt x
  have hv := dg_v x.val (F_q x)
  have bx : Bd (dg x.val) 9223372036854775808 := (dgk_bd 16 x.val).mono (by decide)
  have g1 := mod16_ (dg x.val) (dg_len _) bx (by rw [hv, show (65536 : Nat) ^ 17 = 65536 * 115792089237316195423570985008687907853269984665640564039457584007913129639936 by decide]; omega)
  rw [hv, Nat.mod_eq_of_lt x.isLt] at g1
  have g2 := minus_ P x.val (by decide) (Nat.le_of_lt x.isLt)
  have g3 := all_ (dg (P - x.val)) (dg_len _)
  have hP := P_val
  have hv2 := dg_v (P - x.val) (by omega)
  have g4 := mod16_ (dg (P - x.val)) (dg_len _) ((dgk_bd 16 _).mono (by decide)) (by rw [hv2, show (65536 : Nat) ^ 17 = 65536 * 115792089237316195423570985008687907853269984665640564039457584007913129639936 by decide]; omega)
  rw [hv2] at g4
  rw [show de (-x) = dg ((P - x.val) % P) from rfl]
  have hA : (dg x.val).length = 16 := dg_len _
  have hB := dg_len (P - x.val)
  have hC := dg_len ((P - x.val) % P)
  generalize dg ((P - x.val) % P) = C at g4 hC ⊢
  generalize dg (P - x.val) = B at g2 g3 g4 hB
  have hA' : (de x).length = 16 := hA
  refine good_frm 10 Try.func31 rfl rfl rfl rfl rfl rfl ?_
  refine awp_seq ?_
  refine rln ?_
  refine G2 (fun _ k_ => q_boxa k_) ?_
  refine G2 (fun _ k_ => q_al k_) ?_
  refine gend ?_
  refine awp_seq ?_
  refine rln ?_
  refine G (q_slp_no ?_)
  refine G2 (fun _ k_ => q_callp (g1) k_ (ha := (cac (et rfl) (sees_slc rfl rfl (cut_h hA)) ca0))) ?_
  refine G20 (fun _ k_ => q_stw k_) ?_
  refine gend ?_
  refine awp_seq ?_
  refine rdln [0, 2, 3, 4, 5] [0, 0, 1, 2, 3, 4] [1, 1, 2, 3, 4, 5] ?_
  refine De2 (fun _ k_ => q_callp (prime_) k_) ?_
  refine DLw ?_
  refine De2 (fun _ k_ => q_callp (g2) k_) ?_
  refine De2 (fun _ k_ => q_calln g3 k_) ?_
  refine De2 (fun _ k_ => q_callp (g4) k_ (ha := (cac (et rfl) (sees_slc rfl rfl (cut_h hB)) ca0))) ?_
  refine De20 (fun _ k_ => q_stw k_) ?_
  refine dend ?_
  refine awp_ret ?_
  exact fpc (t := 35) (a := 2) (hn := by exact (mapc_length ..).trans hC)
theorem add_e (x y : F) : Good Try.prog 18 [.a (u64s (de x)), .a (u64s (de y))] [] (sa (u64s (de (x + y)))) [] := by
  have := add_ x.val y.val (F_q x) (F_q y)
  rwa [← Fin.val_add] at this
/-- escutcheonref02.Sub -/
theorem sub_e (x y : F) : Good Try.prog 20 [.a (u64s (de x)), .a (u64s (de y))] [] (sa (u64s (de (x - y)))) [] := by
  rw [show x - y = x + -y by grind]
  have hx := de_len x
  have hy := de_len y
  have hz := de_len (x + -y)
  refine good_frm 9 Try.func20 rfl rfl rfl rfl rfl rfl ?_
  refine awp_seq ?_
  refine rln ?_
  refine G2 (fun _ k_ => q_boxa k_) ?_
  refine G2 (fun _ k_ => q_boxa k_) ?_
  refine G2 (fun _ k_ => q_al k_) ?_
  refine gend ?_
  refine awp_seq ?_
  refine rdln [2, 3, 4] [0, 0, 0, 1, 2] [1, 0, 1, 2, 3] ?_
  refine DLw ?_
  refine DLw ?_
  refine De2 (fun _ k_ => q_callp (neg_ y) k_) ?_
  refine De2 (fun _ k_ => q_callp (add_e x (-y)) k_) ?_
  refine De20 (fun _ k_ => q_stw k_) ?_
  refine dend ?_
  refine awp_ret ?_
  exact fpc (t := 35) (a := 4) (hn := by exact (mapc_length ..).trans hz)
set_option maxHeartbeats 800000 in
/-- escutcheonref02.Mul -/
theorem mul_ (m n : Nat) (hm : m < 115792089237316195423570985008687907853269984665640564039457584007913129639936) (hn : n < 115792089237316195423570985008687907853269984665640564039457584007913129639936) : Good Try.prog 21 [.a (u64s (dg m)), .a (u64s (dg n))] [] (sa (u64s (dg (m * n % P)))) [] := by
  obtain ⟨p1, p2, p3, p4, p5⟩ := prod_ok hm hn
  have gC := car_ (pout (dg m) (dg n) 16) 31 (pout_len ..) (by decide) p1 p2
  have gM := modL_ (carL (pout (dg m) (dg n) 16)) (m * n % P) p3 p4 (by rw [p5])
  have hA := dg_len m
  have hB := dg_len n
  have hbA : Bd (dg m) 65535 := dgk_bd 16 m
  have hR := dg_len (m * n % P)
  generalize dg (m * n % P) = R at gM hR ⊢
  generalize dg m = A at hA gM gC p4 ⊢
  generalize dg n = B at hB gM gC p4 ⊢
  refine good_frm 39 Try.func21 rfl rfl rfl rfl rfl rfl ?_
  refine awp_seq ?_
  refine rln ?_
  refine G2 (fun _ k_ => q_boxa k_) ?_
  refine G2 (fun _ k_ => q_boxa k_) ?_
  refine G2 (fun _ k_ => q_al k_) ?_
  refine gend ?_
  refine awp_seq ?_
  refine rln ?_
  refine G2 (fun _ k_ => q_mks k_) ?_
  refine As ?_
  refine gend ?_
  refine awp_seq ?_
  refine awp_seq ?_
  refine rln ?_
  refine G (q_as (s := sc (cn 0)) ?_)
  refine gend ?_
  refine awp_block ?_
  refine awp_loop (fun i : {i : Nat // i ≤ 16} => ⟨frm 39 [(2, sc (.ptr 0 0)), (3, sc (.ptr 1 0)), (4, sc (.ptr 2 0)), (5, sc (.slc 3 0 31 1)), (6, sc (cn i.1))], [some (u64s A), some (u64s B), some (u64s (List.replicate 16 0)), some (u64s (pout A B i.1))]⟩) (fun i => 16 - i.1) ⟨0, Nat.zero_le _⟩ (sle_sub ⟨rfl, rfl, rfl, rfl, rfl, trivial⟩ (by rw [show pout A B 0 = List.replicate 31 0 from rfl, ← rep31])) fun i => ?_   -- live: [2, 3, 5, 6]
  have hl := pout_len A B i.1
  refine awp_seq ?_
  refine awp_seq ?_
  refine rln ?_
  refine Mv ?_
  refine G (q_lssn (y := 16) ?_)
  refine gend ?_
  refine cnd (fun hc1 => ?_) (fun hc1 => ?_); rotate_left
  · refine awp_exit ?_
    rw [show i.1 = 16 from (by have := i.2; omega)]
    have hl := pout_len A B 16
    generalize hW : pout A B 16 = W at hl gC gM p4 ⊢
    generalize hC : carL W = C at gC gM p4
    refine awp_seq ?_
    refine rln ?_
    refine Mv ?_
    refine G2 (fun _ k_ => q_callv [3] [none] [some (u64s C)] (gC) k_ (ha := (cac (et rfl) rfl ca0)) (e2 := pl1 rfl sees_m pl0) (eL := mln ml0) (eM := (ml1 sees_m ml0)) (e3 := rfl)) ?_
    refine G2 (fun _ k_ => q_callv [4] [none] [] (gM) k_ (ha := (cac (et rfl) rfl ca0)) (e2 := pl1 rfl sees_m pl0) (eL := mln ml0) (eM := ml0) (e3 := rs_m)) ?_
    refine G20 (fun _ k_ => q_stw k_) ?_
    refine gend ?_
    refine awp_ret ?_
    exact fpc (t := 35) (a := 4) (hn := by exact (mapc_length ..).trans hR)
  refine awp_skip ?_
  refine awp_seq ?_
  refine awp_block ?_
  refine awp_seq ?_
  refine rln ?_
  refine G (q_as (s := sc (cn 0)) ?_)
  refine gend ?_
  refine awp_block ?_
  refine awp_loop (fun k : {i : Nat // i ≤ 16} => ⟨frm 39 [(2, sc (.ptr 0 0)), (3, sc (.ptr 1 0)), (4, sc (.ptr 2 0)), (5, sc (.slc 3 0 31 1)), (6, sc (cn i.1)), (7, sc (cn k.1))], [some (u64s A), some (u64s B), some (u64s (List.replicate 16 0)), some (u64s (pin A B i.1 (pout A B i.1) k.1))]⟩) (fun k => 16 - k.1) ⟨0, Nat.zero_le _⟩ (sle_sub ⟨rfl, rfl, rfl, rfl, rfl, rfl, trivial⟩ rfl) fun k => ?_   -- live: [2, 3, 5, 6, 7]
  have hl2 := (pin_len A B i.1 (pout A B i.1) k.1).trans hl
  refine awp_seq ?_
  refine awp_seq ?_
  refine rln ?_
  refine Mv ?_
  refine G (q_lssn (y := 16) ?_)
  refine gend ?_
  refine cnd (fun hc2 => ?_) (fun hc2 => ?_); rotate_left
  · refine awp_exit ?_
    rw [show k.1 = 16 from (by have := k.2; omega)]
    refine rln ?_
    refine Mv ?_
    refine G (q_addn (y := 1) ?_)
    refine As ?_
    refine gend ?_
    exact ⟨⟨i.1 + 1, by omega⟩, by show 16 - (i.1 + 1) < 16 - i.1; omega, sle_sub ⟨rfl, rfl, rfl, rfl, rfl, trivial⟩ rfl⟩   -- endloop 1
  refine awp_skip ?_
  refine awp_seq ?_
  refine awp_block ?_
  refine rdln [19] [] [0, 0, 0, 0, 0, 0, 0, 0, 0, 0, 0, 0, 0, 0, 0, 0, 0, 0, 0, 1] ?_
  refine Dp (fun _ => q_mv (s := .v (.c _)) ⟨rfl, rfl⟩) ?_
  refine Dp (fun _ => q_mv (s := .v (.c _)) ⟨rfl, rfl⟩) ?_
  refine Dp (fun _ => q_mv (s := .v (.c _)) ⟨rfl, rfl⟩) ?_
  refine Dp (fun _ => q_addn ⟨rfl, rfl⟩) ?_
  refine Dp (fun _ => q_mv (s := .v (.c _)) ⟨rfl, rfl⟩) ?_
  refine Dp (fun _ => q_mv (s := .v (.c _)) ⟨rfl, rfl⟩) ?_
  refine Dp (fun _ => q_mv (s := .v (.c _)) ⟨rfl, rfl⟩) ?_
  refine Dp (fun _ => q_addn ⟨rfl, rfl⟩) ?_
  refine Dp (fun _ => q_ixs1 ⟨rfl, rfl⟩) ?_
  refine DLp ?_
  refine Dp (fun _ => q_mv (s := .v (.c _)) ⟨rfl, rfl⟩) ?_
  refine Dp (fun _ => q_ixp1 ⟨rfl, rfl⟩) ?_
  refine DLp ?_
  refine Dp (fun _ => q_mv (s := .v (.c _)) ⟨rfl, rfl⟩) ?_
  refine Dp (fun _ => q_ixp1 ⟨rfl, rfl⟩) ?_
  refine DLp ?_
  refine Dp (fun _ => q_mul64 ⟨rfl, rfl⟩) ?_
  refine Dp (fun _ => q_add64 ⟨rfl, rfl⟩) ?_
  refine Dp (fun _ => q_ixs1 ⟨rfl, rfl⟩) ?_
  refine De20 (fun _ k_ => q_stm k_) ?_
  refine dend ?_
  refine rln ?_
  refine Mv ?_
  refine G (q_addn (y := 1) ?_)
  refine As ?_
  refine gend ?_
  exact ⟨⟨k.1 + 1, by omega⟩, by show 16 - (k.1 + 1) < 16 - k.1; omega, sle_sub ⟨rfl, rfl, rfl, rfl, rfl, rfl, trivial⟩ rfl⟩   -- endloop 2
theorem mul_e (x y : F) : Good Try.prog 21 [.a (u64s (de x)), .a (u64s (de y))] [] (sa (u64s (de (x * y)))) [] := by
  have := mul_ x.val y.val (F_q x) (F_q y)
  rwa [← Fin.val_mul] at this
theorem small_1 : Good Try.prog 16 [.c (c64 1)] [] (sa (u64s (de 1))) [] := small_ 1
theorem small_2 : Good Try.prog 16 [.c (c64 2)] [] (sa (u64s (de 2))) [] := small_ 2
end Go.Proofs.Ytlidpcjinillfaa.Rn

/- What functions of the program do, walked over the abstract machine. -/
namespace Go.Proofs.Ytlidpcjinillfaa.Rn
open Go Go.Abs Go.Proofs

open Go.Nt Fd
end Go.Proofs.Ytlidpcjinillfaa.Rn

/- What functions of the program do, walked over the abstract machine. -/
namespace Go.Proofs.Ytlidpcjinillfaa.Ld
open Go Go.Abs Go.Proofs Go.Proofs.Ytlidpcjinillfaa.Fd Go.Proofs.Ytlidpcjinillfaa.Rn

open Go.Nt Fd
/-- A state's words. -/
def sl (s : Ls) : List UInt64 := el s.a ++ (el s.b ++ (el s.c ++ el s.d))
/-- A secret, as it is used. -/
def clamp (k : List UInt8) : List UInt8 := (k.set 0 (k.getD 0 0 &&& ~~~7)).set 31 (((k.set 0 (k.getD 0 0 &&& ~~~7)).getD 31 0 &&& 127) ||| 64)
theorem clamp_len (k : List UInt8) : (clamp k).length = k.length := by simp [clamp]
theorem tbit (k : List UInt8) (j : Nat) (h : j < 256) : decide (shr8n (k.getD (j / 8) 0) (j % 8) &&& 1 = 1) = (bv k).testBit j := by
  rw [Nat.testBit_eq_decide_div_mod_eq, decide_eq_decide]
  constructor
  · intro e; exact bit_one h e
  · intro e; exact Classical.byContradiction fun hn => by have := bit_zero h hn; omega
theorem swap_t (x y : F) : Good Try.prog 36 [.a (u64s (el x)), .a (u64s (el y)), .c (.bool true)] [] (.t [.a (u64s (el y)), .a (u64s (el x))]) [] := swap_e x y true
theorem swap_f (x y : F) : Good Try.prog 36 [.a (u64s (el x)), .a (u64s (el y)), .c (.bool false)] [] (.t [.a (u64s (el x)), .a (u64s (el y))]) [] := swap_e x y false
set_option maxHeartbeats 800000 in
/-- (*ladder.state).swap -/
theorem sswap_t (s : Ls) : Good Try.prog 25 [.c (.ptr 0 0), .c (.bool true)] [some (u64s (sl s))] (.t []) [some (u64s (sl (lswap true s)))] := by
  refine good_frm 42 Try.func25 rfl rfl rfl rfl rfl rfl ?_
  refine awp_seq ?_
  refine rdln [11, 17, 20] [0, 0, 0, 0, 0, 0, 0, 0, 0, 0, 0, 0, 1, 1, 1, 1, 1, 1, 2, 2, 2] [1, 2, 0, 0, 0, 0, 0, 0, 0, 0, 0, 1, 1, 1, 2, 1, 1, 2, 2, 2, 3] ?_
  refine Dp (fun _ => q_mv (s := .v (.c _)) ⟨rfl, rfl⟩) ?_
  refine Dp (fun _ => q_mv (s := .v (.c _)) ⟨rfl, rfl⟩) ?_
  refine Dp (fun _ => q_mv (s := .v (.c _)) ⟨rfl, rfl⟩) ?_
  refine Dp (fun _ => q_ncp ⟨rfl, rfl⟩) ?_
  refine Dp (fun _ => q_fap ⟨rfl, rfl⟩) ?_
  refine DLa (xs := u64s (el s.a))  ?_ (hc := rfl)
  refine Dp (fun _ => q_mv (s := .v (.c _)) ⟨rfl, rfl⟩) ?_
  refine Dp (fun _ => q_ncp ⟨rfl, rfl⟩) ?_
  refine Dp (fun _ => q_fap ⟨rfl, rfl⟩) ?_
  refine DLa (xs := u64s (el s.c))  ?_ (hc := rfl)
  refine Dp (fun _ => q_mv (s := .v (.c _)) ⟨rfl, rfl⟩) ?_
  refine De2 (fun _ k_ => q_callp (swap_t s.a s.c) k_) ?_
  refine Dp (fun _ => q_mv (s := .t _) ⟨rfl, rfl⟩) ?_
  refine Dp (fun _ => q_ext (y := .a _) ⟨rfl, rfl⟩) ?_
  refine Dp (fun _ => q_ext (y := .a _) ⟨rfl, rfl⟩) ?_
  refine Dp (fun _ => q_ncp ⟨rfl, rfl⟩) ?_
  refine Dp (fun _ => q_fap ⟨rfl, rfl⟩) ?_
  refine De20 (fun _ k_ => q_sta k_) ?_
  refine Dp (fun _ => q_ncp ⟨rfl, rfl⟩) ?_
  refine Dp (fun _ => q_fap ⟨rfl, rfl⟩) ?_
  refine De20 (fun _ k_ => q_sta k_) ?_
  refine dend ?_
  refine rdln [11, 17, 20] [0, 0, 0, 0, 0, 0, 0, 0, 0, 0, 0, 0, 1, 1, 1, 1, 1, 1, 2, 2, 2] [1, 2, 0, 0, 0, 0, 0, 0, 0, 0, 0, 1, 1, 1, 2, 1, 1, 2, 2, 2, 3] ?_
  refine Dp (fun _ => q_mv (s := .v (.c _)) ⟨rfl, rfl⟩) ?_
  refine Dp (fun _ => q_mv (s := .v (.c _)) ⟨rfl, rfl⟩) ?_
  refine Dp (fun _ => q_mv (s := .v (.c _)) ⟨rfl, rfl⟩) ?_
  refine Dp (fun _ => q_ncp ⟨rfl, rfl⟩) ?_
  refine Dp (fun _ => q_fap ⟨rfl, rfl⟩) ?_
  refine DLa (xs := u64s (el s.b))  ?_ (hc := rfl)
  refine Dp (fun _ => q_mv (s := .v (.c _)) ⟨rfl, rfl⟩) ?_
  refine Dp (fun _ => q_ncp ⟨rfl, rfl⟩) ?_
  refine Dp (fun _ => q_fap ⟨rfl, rfl⟩) ?_
  refine DLa (xs := u64s (el s.d))  ?_ (hc := rfl)
  refine Dp (fun _ => q_mv (s := .v (.c _)) ⟨rfl, rfl⟩) ?_
  refine De2 (fun _ k_ => q_callp (swap_t s.b s.d) k_) ?_
  refine Dp (fun _ => q_mv (s := .t _) ⟨rfl, rfl⟩) ?_
  refine Dp (fun _ => q_ext (y := .a _) ⟨rfl, rfl⟩) ?_
  refine Dp (fun _ => q_ext (y := .a _) ⟨rfl, rfl⟩) ?_
  refine Dp (fun _ => q_ncp ⟨rfl, rfl⟩) ?_
  refine Dp (fun _ => q_fap ⟨rfl, rfl⟩) ?_
  refine De20 (fun _ k_ => q_sta k_) ?_
  refine Dp (fun _ => q_ncp ⟨rfl, rfl⟩) ?_
  refine Dp (fun _ => q_fap ⟨rfl, rfl⟩) ?_
  refine De20 (fun _ k_ => q_sta k_) ?_
  refine dend ?_
  exact fx0 [0] (hH := rfl) (hn := pi1)
set_option maxHeartbeats 800000 in
/-- (*ladder.state).swap -/
theorem sswap_f (s : Ls) : Good Try.prog 25 [.c (.ptr 0 0), .c (.bool false)] [some (u64s (sl s))] (.t []) [some (u64s (sl (lswap false s)))] := by
  refine good_frm 42 Try.func25 rfl rfl rfl rfl rfl rfl ?_
  refine awp_seq ?_
  refine rdln [11, 17, 20] [0, 0, 0, 0, 0, 0, 0, 0, 0, 0, 0, 0, 1, 1, 1, 1, 1, 1, 2, 2, 2] [1, 2, 0, 0, 0, 0, 0, 0, 0, 0, 0, 1, 1, 1, 2, 1, 1, 2, 2, 2, 3] ?_
  refine Dp (fun _ => q_mv (s := .v (.c _)) ⟨rfl, rfl⟩) ?_
  refine Dp (fun _ => q_mv (s := .v (.c _)) ⟨rfl, rfl⟩) ?_
  refine Dp (fun _ => q_mv (s := .v (.c _)) ⟨rfl, rfl⟩) ?_
  refine Dp (fun _ => q_ncp ⟨rfl, rfl⟩) ?_
  refine Dp (fun _ => q_fap ⟨rfl, rfl⟩) ?_
  refine DLa (xs := u64s (el s.a))  ?_ (hc := rfl)
  refine Dp (fun _ => q_mv (s := .v (.c _)) ⟨rfl, rfl⟩) ?_
  refine Dp (fun _ => q_ncp ⟨rfl, rfl⟩) ?_
  refine Dp (fun _ => q_fap ⟨rfl, rfl⟩) ?_
  refine DLa (xs := u64s (el s.c))  ?_ (hc := rfl)
  refine Dp (fun _ => q_mv (s := .v (.c _)) ⟨rfl, rfl⟩) ?_
  refine De2 (fun _ k_ => q_callp (swap_f s.a s.c) k_) ?_
  refine Dp (fun _ => q_mv (s := .t _) ⟨rfl, rfl⟩) ?_
  refine Dp (fun _ => q_ext (y := .a _) ⟨rfl, rfl⟩) ?_
  refine Dp (fun _ => q_ext (y := .a _) ⟨rfl, rfl⟩) ?_
  refine Dp (fun _ => q_ncp ⟨rfl, rfl⟩) ?_
  refine Dp (fun _ => q_fap ⟨rfl, rfl⟩) ?_
  refine De20 (fun _ k_ => q_sta k_) ?_
  refine Dp (fun _ => q_ncp ⟨rfl, rfl⟩) ?_
  refine Dp (fun _ => q_fap ⟨rfl, rfl⟩) ?_
  refine De20 (fun _ k_ => q_sta k_) ?_
  refine dend ?_
  refine rdln [11, 17, 20] [0, 0, 0, 0, 0, 0, 0, 0, 0, 0, 0, 0, 1, 1, 1, 1, 1, 1, 2, 2, 2] [1, 2, 0, 0, 0, 0, 0, 0, 0, 0, 0, 1, 1, 1, 2, 1, 1, 2, 2, 2, 3] ?_
  refine Dp (fun _ => q_mv (s := .v (.c _)) ⟨rfl, rfl⟩) ?_
  refine Dp (fun _ => q_mv (s := .v (.c _)) ⟨rfl, rfl⟩) ?_
  refine Dp (fun _ => q_mv (s := .v (.c _)) ⟨rfl, rfl⟩) ?_
  refine Dp (fun _ => q_ncp ⟨rfl, rfl⟩) ?_
  refine Dp (fun _ => q_fap ⟨rfl, rfl⟩) ?_
  refine DLa (xs := u64s (el s.b))  ?_ (hc := rfl)
  refine Dp (fun _ => q_mv (s := .v (.c _)) ⟨rfl, rfl⟩) ?_
  refine Dp (fun _ => q_ncp ⟨rfl, rfl⟩) ?_
  refine Dp (fun _ => q_fap ⟨rfl, rfl⟩) ?_
  refine DLa (xs := u64s (el s.d))  ?_ (hc := rfl)
  refine Dp (fun _ => q_mv (s := .v (.c _)) ⟨rfl, rfl⟩) ?_
  refine De2 (fun _ k_ => q_callp (swap_f s.b s.d) k_) ?_
  refine Dp (fun _ => q_mv (s := .t _) ⟨rfl, rfl⟩) ?_
  refine Dp (fun _ => q_ext (y := .a _) ⟨rfl, rfl⟩) ?_
  refine Dp (fun _ => q_ext (y := .a _) ⟨rfl, rfl⟩) ?_
  refine Dp (fun _ => q_ncp ⟨rfl, rfl⟩) ?_
  refine Dp (fun _ => q_fap ⟨rfl, rfl⟩) ?_
  refine De20 (fun _ k_ => q_sta k_) ?_
  refine Dp (fun _ => q_ncp ⟨rfl, rfl⟩) ?_
  refine Dp (fun _ => q_fap ⟨rfl, rfl⟩) ?_
  refine De20 (fun _ k_ => q_sta k_) ?_
  refine dend ?_
  exact fx0 [0] (hH := rfl) (hn := pi1)
theorem sswap_ (s : Ls) (k : Bool) : Good Try.prog 25 [.c (.ptr 0 0), .c (.bool k)] [some (u64s (sl s))] (.t []) [some (u64s (sl (lswap k s)))] := by
  cases k
  · exact sswap_f s
  · exact sswap_t s
end Go.Proofs.Ytlidpcjinillfaa.Ld

/- What functions of the program do, walked over the abstract machine. -/
namespace Go.Proofs.Ytlidpcjinillfaa.Ld
open Go Go.Abs Go.Proofs Go.Proofs.Ytlidpcjinillfaa.Fd Go.Proofs.Ytlidpcjinillfaa.Rn

open Go.Nt Fd
theorem small_k : Good Try.prog 24 [.c (c64 121665)] [] (sa (u64s (el 121665))) [] := small_e 121665
set_option maxHeartbeats 3200000 in
/-- (*ladder.state).step -/
theorem sstep_g (s : Ls) (x sum dif u v e mm nn : F) (h1 : s.a + s.b = sum) (h2 : s.a - s.b = dif) (h3 : sum * sum = u) (h4 : dif * dif = v) (h5 : u - v = e) (h6 : (s.c + s.d) * dif = mm) (h7 : (s.c - s.d) * sum = nn) : Good Try.prog 26 [.c (.ptr 0 0), .a (u64s (el x))] [some (u64s (sl s))] (.t []) [some (u64s (sl ⟨u * v, e * (u + 121665 * e), (mm + nn) * (mm + nn), x * ((mm - nn) * (mm - nn))⟩))] := by
  have g1 := Fd.add_e s.a s.b
  have g2 := Fd.sub_e s.a s.b
  have g3 := square_e sum
  have g4 := square_e dif
  have g5 := Fd.sub_e u v
  have g6 := Fd.mul_e (s.c + s.d) dif
  have g7 := Fd.mul_e (s.c - s.d) sum
  rw [h1] at g1
  rw [h2] at g2
  rw [h3] at g3
  rw [h4] at g4
  rw [h5] at g5
  rw [h6] at g6
  rw [h7] at g7
  refine good_frm 90 Try.func26 rfl rfl rfl rfl rfl rfl ?_
  refine awp_seq ?_
  refine rln ?_
  refine G2 (fun _ k_ => q_boxa k_) ?_
  refine gend ?_
  refine awp_mid ⟨frm 90 [(0, sc (.ptr 0 0)), (3, sc (.ptr 1 0)), (4, sc (.ptr 2 0)), (5, sc (.ptr 3 0))], [some (u64s (sl s)), some (u64s (el x)), some (u64s (el sum)), some (u64s (el dif))]⟩ ?_ ?_
  · refine rdm [8, 17, 18, 19, 20, 21] [⟨[0, 1, 2, 3, 4, 5, 6, 7, 8, 9, 10, 11, 12, 13, 14, 15, 16, 17, 18, 19, 20, 21], [8, 17, 18, 19, 20, 21], [8, 17, 18, 19, 20, 21], [0, 0, 0, 0, 0, 0, 0, 0, 0, 0, 0, 0, 0, 0, 0, 0, 0, 1, 2, 3, 4, 5], [0, 0, 0, 0, 0, 0, 0, 0, 1, 1, 1, 1, 1, 1, 1, 1, 1, 2, 3, 4, 5, 6]⟩, ⟨[0, 1, 2, 3, 4, 5, 6, 7, 8, 9, 10, 11, 12, 13, 14, 15, 16, 17, 19, 18, 20, 21], [8, 17, 19, 18, 20, 21], [8, 17, 18, 19, 20, 21], [0, 0, 0, 0, 0, 0, 0, 0, 0, 0, 0, 0, 0, 0, 0, 0, 0, 1, 2, 3, 4, 5], [0, 0, 0, 0, 0, 0, 0, 0, 1, 1, 1, 1, 1, 1, 1, 1, 1, 2, 3, 4, 5, 6]⟩, ⟨[0, 1, 2, 3, 4, 5, 6, 7, 8, 9, 10, 11, 12, 13, 14, 15, 16, 18, 17, 19, 20, 21], [8, 18, 17, 19, 20, 21], [8, 17, 18, 19, 20, 21], [0, 0, 0, 0, 0, 0, 0, 0, 0, 0, 0, 0, 0, 0, 0, 0, 0, 1, 2, 3, 4, 5], [0, 0, 0, 0, 0, 0, 0, 0, 1, 2, 2, 2, 2, 2, 2, 2, 2, 2, 3, 4, 5, 6]⟩, ⟨[0, 1, 2, 3, 4, 5, 6, 7, 8, 9, 10, 11, 12, 13, 14, 15, 16, 18, 19, 17, 20, 21], [8, 18, 19, 17, 20, 21], [8, 17, 18, 19, 20, 21], [0, 0, 0, 0, 0, 0, 0, 0, 0, 0, 0, 0, 0, 0, 0, 0, 0, 1, 2, 3, 4, 5], [0, 0, 0, 0, 0, 0, 0, 0, 1, 3, 3, 3, 3, 3, 3, 3, 3, 2, 3, 4, 5, 6]⟩, ⟨[0, 1, 2, 3, 4, 5, 6, 7, 8, 9, 10, 11, 12, 13, 14, 15, 16, 19, 17, 18, 20, 21], [8, 19, 17, 18, 20, 21], [8, 17, 18, 19, 20, 21], [0, 0, 0, 0, 0, 0, 0, 0, 0, 0, 0, 0, 0, 0, 0, 0, 0, 1, 2, 3, 4, 5], [0, 0, 0, 0, 0, 0, 0, 0, 1, 2, 2, 2, 2, 2, 2, 2, 2, 2, 3, 4, 5, 6]⟩, ⟨[0, 1, 2, 3, 4, 5, 6, 7, 8, 9, 10, 11, 12, 13, 14, 15, 16, 19, 18, 17, 20, 21], [8, 19, 18, 17, 20, 21], [8, 17, 18, 19, 20, 21], [0, 0, 0, 0, 0, 0, 0, 0, 0, 0, 0, 0, 0, 0, 0, 0, 0, 1, 2, 3, 4, 5], [0, 0, 0, 0, 0, 0, 0, 0, 1, 3, 3, 3, 3, 3, 3, 3, 3, 2, 3, 4, 5, 6]⟩, ⟨[0, 1, 2, 3, 4, 5, 6, 7, 9, 10, 11, 12, 13, 14, 15, 16, 18, 8, 17, 19, 20, 21], [18, 8, 17, 19, 20, 21], [16, 17, 18, 19, 20, 21], [0, 0, 0, 0, 0, 0, 0, 0, 0, 0, 0, 0, 0, 0, 0, 0, 0, 1, 2, 3, 4, 5], [1, 1, 1, 1, 1, 1, 1, 1, 2, 2, 2, 2, 2, 2, 2, 2, 1, 2, 3, 4, 5, 6]⟩, ⟨[0, 1, 2, 3, 4, 5, 6, 7, 9, 10, 11, 12, 13, 14, 15, 16, 18, 8, 19, 17, 20, 21], [18, 8, 19, 17, 20, 21], [16, 17, 18, 19, 20, 21], [0, 0, 0, 0, 0, 0, 0, 0, 0, 0, 0, 0, 0, 0, 0, 0, 0, 1, 2, 3, 4, 5], [1, 1, 1, 1, 1, 1, 1, 1, 3, 3, 3, 3, 3, 3, 3, 3, 1, 2, 3, 4, 5, 6]⟩, ⟨[0, 1, 2, 3, 4, 5, 6, 7, 9, 10, 11, 12, 13, 14, 15, 16, 18, 19, 8, 17, 20, 21], [18, 19, 8, 17, 20, 21], [16, 17, 18, 19, 20, 21], [0, 0, 0, 0, 0, 0, 0, 0, 0, 0, 0, 0, 0, 0, 0, 0, 0, 1, 2, 3, 4, 5], [2, 2, 2, 2, 2, 2, 2, 2, 3, 3, 3, 3, 3, 3, 3, 3, 1, 2, 3, 4, 5, 6]⟩, ⟨[0, 1, 2, 3, 4, 5, 6, 7, 9, 10, 11, 12, 13, 14, 15, 16, 19, 8, 17, 18, 20, 21], [19, 8, 17, 18, 20, 21], [16, 17, 18, 19, 20, 21], [0, 0, 0, 0, 0, 0, 0, 0, 0, 0, 0, 0, 0, 0, 0, 0, 0, 1, 2, 3, 4, 5], [1, 1, 1, 1, 1, 1, 1, 1, 2, 2, 2, 2, 2, 2, 2, 2, 1, 2, 3, 4, 5, 6]⟩, ⟨[0, 1, 2, 3, 4, 5, 6, 7, 9, 10, 11, 12, 13, 14, 15, 16, 19, 8, 18, 17, 20, 21], [19, 8, 18, 17, 20, 21], [16, 17, 18, 19, 20, 21], [0, 0, 0, 0, 0, 0, 0, 0, 0, 0, 0, 0, 0, 0, 0, 0, 0, 1, 2, 3, 4, 5], [1, 1, 1, 1, 1, 1, 1, 1, 3, 3, 3, 3, 3, 3, 3, 3, 1, 2, 3, 4, 5, 6]⟩, ⟨[0, 1, 2, 3, 4, 5, 6, 7, 9, 10, 11, 12, 13, 14, 15, 16, 19, 18, 8, 17, 20, 21], [19, 18, 8, 17, 20, 21], [16, 17, 18, 19, 20, 21], [0, 0, 0, 0, 0, 0, 0, 0, 0, 0, 0, 0, 0, 0, 0, 0, 0, 1, 2, 3, 4, 5], [2, 2, 2, 2, 2, 2, 2, 2, 3, 3, 3, 3, 3, 3, 3, 3, 1, 2, 3, 4, 5, 6]⟩] ⟨?_, ?_, ?_, ?_, ?_, ?_, ?_, ?_, ?_, ?_, ?_, ?_, trivial⟩   -- region 1
    · refine Dp (fun _ => q_mv (s := .v (.c _)) ⟨rfl, rfl⟩) ?_
      refine Dp (fun _ => q_ncp ⟨rfl, rfl⟩) ?_
      refine Dp (fun _ => q_fap ⟨rfl, rfl⟩) ?_
      refine DLa (xs := u64s (el s.a))  ?_ (hc := rfl)
      refine Dp (fun _ => q_mv (s := .v (.c _)) ⟨rfl, rfl⟩) ?_
      refine Dp (fun _ => q_ncp ⟨rfl, rfl⟩) ?_
      refine Dp (fun _ => q_fap ⟨rfl, rfl⟩) ?_
      refine DLa (xs := u64s (el s.b))  ?_ (hc := rfl)
      refine De2 (fun _ k_ => q_callp (g1) k_) ?_
      refine Dp (fun _ => q_mv (s := .v (.c _)) ⟨rfl, rfl⟩) ?_
      refine Dp (fun _ => q_ncp ⟨rfl, rfl⟩) ?_
      refine Dp (fun _ => q_fap ⟨rfl, rfl⟩) ?_
      refine DLa (xs := u64s (el s.a))  ?_ (hc := rfl)
      refine Dp (fun _ => q_mv (s := .v (.c _)) ⟨rfl, rfl⟩) ?_
      refine Dp (fun _ => q_ncp ⟨rfl, rfl⟩) ?_
      refine Dp (fun _ => q_fap ⟨rfl, rfl⟩) ?_
      refine DLa (xs := u64s (el s.b))  ?_ (hc := rfl)
      refine De2 (fun _ k_ => q_callp (g2) k_) ?_
      refine De2 (fun _ k_ => q_al k_) ?_
      refine De2 (fun _ k_ => q_al k_) ?_
      refine De20 (fun _ k_ => q_stw k_) ?_
      refine De20 (fun _ k_ => q_stw k_) ?_
      refine dend ?_
      exact sle_sub ⟨rfl, rfl, rfl, rfl, trivial⟩ rfl
    · refine Dp (fun _ => q_mv (s := .v (.c _)) ⟨rfl, rfl⟩) ?_
      refine Dp (fun _ => q_ncp ⟨rfl, rfl⟩) ?_
      refine Dp (fun _ => q_fap ⟨rfl, rfl⟩) ?_
      refine DLa (xs := u64s (el s.a))  ?_ (hc := rfl)
      refine Dp (fun _ => q_mv (s := .v (.c _)) ⟨rfl, rfl⟩) ?_
      refine Dp (fun _ => q_ncp ⟨rfl, rfl⟩) ?_
      refine Dp (fun _ => q_fap ⟨rfl, rfl⟩) ?_
      refine DLa (xs := u64s (el s.b))  ?_ (hc := rfl)
      refine De2 (fun _ k_ => q_callp (g1) k_) ?_
      refine Dp (fun _ => q_mv (s := .v (.c _)) ⟨rfl, rfl⟩) ?_
      refine Dp (fun _ => q_ncp ⟨rfl, rfl⟩) ?_
      refine Dp (fun _ => q_fap ⟨rfl, rfl⟩) ?_
      refine DLa (xs := u64s (el s.a))  ?_ (hc := rfl)
      refine Dp (fun _ => q_mv (s := .v (.c _)) ⟨rfl, rfl⟩) ?_
      refine Dp (fun _ => q_ncp ⟨rfl, rfl⟩) ?_
      refine Dp (fun _ => q_fap ⟨rfl, rfl⟩) ?_
      refine DLa (xs := u64s (el s.b))  ?_ (hc := rfl)
      refine De2 (fun _ k_ => q_callp (g2) k_) ?_
      refine De2 (fun _ k_ => q_al k_) ?_
      refine De2 (fun _ k_ => q_al k_) ?_
      refine De20 (fun _ k_ => q_stw k_) ?_
      refine De20 (fun _ k_ => q_stw k_) ?_
      refine dend ?_
      exact sle_view [0, 1, 3, 2] pi1 (by decide) ⟨rfl, rfl, rfl, rfl, trivial⟩ (Eq.symm (pl1 rfl sees_m (pl1 rfl sees_m (pl1 rfl sees_m (pl1 rfl sees_m pl0)))))
    · refine Dp (fun _ => q_mv (s := .v (.c _)) ⟨rfl, rfl⟩) ?_
      refine Dp (fun _ => q_ncp ⟨rfl, rfl⟩) ?_
      refine Dp (fun _ => q_fap ⟨rfl, rfl⟩) ?_
      refine DLa (xs := u64s (el s.a))  ?_ (hc := rfl)
      refine Dp (fun _ => q_mv (s := .v (.c _)) ⟨rfl, rfl⟩) ?_
      refine Dp (fun _ => q_ncp ⟨rfl, rfl⟩) ?_
      refine Dp (fun _ => q_fap ⟨rfl, rfl⟩) ?_
      refine DLa (xs := u64s (el s.b))  ?_ (hc := rfl)
      refine De2 (fun _ k_ => q_callp (g1) k_) ?_
      refine Dp (fun _ => q_mv (s := .v (.c _)) ⟨rfl, rfl⟩) ?_
      refine Dp (fun _ => q_ncp ⟨rfl, rfl⟩) ?_
      refine Dp (fun _ => q_fap ⟨rfl, rfl⟩) ?_
      refine DLa (xs := u64s (el s.a))  ?_ (hc := rfl)
      refine Dp (fun _ => q_mv (s := .v (.c _)) ⟨rfl, rfl⟩) ?_
      refine Dp (fun _ => q_ncp ⟨rfl, rfl⟩) ?_
      refine Dp (fun _ => q_fap ⟨rfl, rfl⟩) ?_
      refine DLa (xs := u64s (el s.b))  ?_ (hc := rfl)
      refine De2 (fun _ k_ => q_al k_) ?_
      refine De2 (fun _ k_ => q_callp (g2) k_) ?_
      refine De2 (fun _ k_ => q_al k_) ?_
      refine De20 (fun _ k_ => q_stw k_) ?_
      refine De20 (fun _ k_ => q_stw k_) ?_
      refine dend ?_
      exact sle_sub ⟨rfl, rfl, rfl, rfl, trivial⟩ rfl
    · refine Dp (fun _ => q_mv (s := .v (.c _)) ⟨rfl, rfl⟩) ?_
      refine Dp (fun _ => q_ncp ⟨rfl, rfl⟩) ?_
      refine Dp (fun _ => q_fap ⟨rfl, rfl⟩) ?_
      refine DLa (xs := u64s (el s.a))  ?_ (hc := rfl)
      refine Dp (fun _ => q_mv (s := .v (.c _)) ⟨rfl, rfl⟩) ?_
      refine Dp (fun _ => q_ncp ⟨rfl, rfl⟩) ?_
      refine Dp (fun _ => q_fap ⟨rfl, rfl⟩) ?_
      refine DLa (xs := u64s (el s.b))  ?_ (hc := rfl)
      refine De2 (fun _ k_ => q_callp (g1) k_) ?_
      refine Dp (fun _ => q_mv (s := .v (.c _)) ⟨rfl, rfl⟩) ?_
      refine Dp (fun _ => q_ncp ⟨rfl, rfl⟩) ?_
      refine Dp (fun _ => q_fap ⟨rfl, rfl⟩) ?_
      refine DLa (xs := u64s (el s.a))  ?_ (hc := rfl)
      refine Dp (fun _ => q_mv (s := .v (.c _)) ⟨rfl, rfl⟩) ?_
      refine Dp (fun _ => q_ncp ⟨rfl, rfl⟩) ?_
      refine Dp (fun _ => q_fap ⟨rfl, rfl⟩) ?_
      refine DLa (xs := u64s (el s.b))  ?_ (hc := rfl)
      refine De2 (fun _ k_ => q_al k_) ?_
      refine De2 (fun _ k_ => q_al k_) ?_
      refine De2 (fun _ k_ => q_callp (g2) k_) ?_
      refine De20 (fun _ k_ => q_stw k_) ?_
      refine De20 (fun _ k_ => q_stw k_) ?_
      refine dend ?_
      exact sle_sub ⟨rfl, rfl, rfl, rfl, trivial⟩ rfl
    · refine Dp (fun _ => q_mv (s := .v (.c _)) ⟨rfl, rfl⟩) ?_
      refine Dp (fun _ => q_ncp ⟨rfl, rfl⟩) ?_
      refine Dp (fun _ => q_fap ⟨rfl, rfl⟩) ?_
      refine DLa (xs := u64s (el s.a))  ?_ (hc := rfl)
      refine Dp (fun _ => q_mv (s := .v (.c _)) ⟨rfl, rfl⟩) ?_
      refine Dp (fun _ => q_ncp ⟨rfl, rfl⟩) ?_
      refine Dp (fun _ => q_fap ⟨rfl, rfl⟩) ?_
      refine DLa (xs := u64s (el s.b))  ?_ (hc := rfl)
      refine De2 (fun _ k_ => q_callp (g1) k_) ?_
      refine Dp (fun _ => q_mv (s := .v (.c _)) ⟨rfl, rfl⟩) ?_
      refine Dp (fun _ => q_ncp ⟨rfl, rfl⟩) ?_
      refine Dp (fun _ => q_fap ⟨rfl, rfl⟩) ?_
      refine DLa (xs := u64s (el s.a))  ?_ (hc := rfl)
      refine Dp (fun _ => q_mv (s := .v (.c _)) ⟨rfl, rfl⟩) ?_
      refine Dp (fun _ => q_ncp ⟨rfl, rfl⟩) ?_
      refine Dp (fun _ => q_fap ⟨rfl, rfl⟩) ?_
      refine DLa (xs := u64s (el s.b))  ?_ (hc := rfl)
      refine De2 (fun _ k_ => q_al k_) ?_
      refine De2 (fun _ k_ => q_callp (g2) k_) ?_
      refine De2 (fun _ k_ => q_al k_) ?_
      refine De20 (fun _ k_ => q_stw k_) ?_
      refine De20 (fun _ k_ => q_stw k_) ?_
      refine dend ?_
      exact sle_view [0, 1, 3, 2] pi1 (by decide) ⟨rfl, rfl, rfl, rfl, trivial⟩ (Eq.symm (pl1 rfl sees_m (pl1 rfl sees_m (pl1 rfl sees_m (pl1 rfl sees_m pl0)))))
    · refine Dp (fun _ => q_mv (s := .v (.c _)) ⟨rfl, rfl⟩) ?_
      refine Dp (fun _ => q_ncp ⟨rfl, rfl⟩) ?_
      refine Dp (fun _ => q_fap ⟨rfl, rfl⟩) ?_
      refine DLa (xs := u64s (el s.a))  ?_ (hc := rfl)
      refine Dp (fun _ => q_mv (s := .v (.c _)) ⟨rfl, rfl⟩) ?_
      refine Dp (fun _ => q_ncp ⟨rfl, rfl⟩) ?_
      refine Dp (fun _ => q_fap ⟨rfl, rfl⟩) ?_
      refine DLa (xs := u64s (el s.b))  ?_ (hc := rfl)
      refine De2 (fun _ k_ => q_callp (g1) k_) ?_
      refine Dp (fun _ => q_mv (s := .v (.c _)) ⟨rfl, rfl⟩) ?_
      refine Dp (fun _ => q_ncp ⟨rfl, rfl⟩) ?_
      refine Dp (fun _ => q_fap ⟨rfl, rfl⟩) ?_
      refine DLa (xs := u64s (el s.a))  ?_ (hc := rfl)
      refine Dp (fun _ => q_mv (s := .v (.c _)) ⟨rfl, rfl⟩) ?_
      refine Dp (fun _ => q_ncp ⟨rfl, rfl⟩) ?_
      refine Dp (fun _ => q_fap ⟨rfl, rfl⟩) ?_
      refine DLa (xs := u64s (el s.b))  ?_ (hc := rfl)
      refine De2 (fun _ k_ => q_al k_) ?_
      refine De2 (fun _ k_ => q_al k_) ?_
      refine De2 (fun _ k_ => q_callp (g2) k_) ?_
      refine De20 (fun _ k_ => q_stw k_) ?_
      refine De20 (fun _ k_ => q_stw k_) ?_
      refine dend ?_
      exact sle_view [0, 1, 3, 2] pi1 (by decide) ⟨rfl, rfl, rfl, rfl, trivial⟩ (Eq.symm (pl1 rfl sees_m (pl1 rfl sees_m (pl1 rfl sees_m (pl1 rfl sees_m pl0)))))
    · refine Dp (fun _ => q_mv (s := .v (.c _)) ⟨rfl, rfl⟩) ?_
      refine Dp (fun _ => q_ncp ⟨rfl, rfl⟩) ?_
      refine Dp (fun _ => q_fap ⟨rfl, rfl⟩) ?_
      refine DLa (xs := u64s (el s.a))  ?_ (hc := rfl)
      refine Dp (fun _ => q_mv (s := .v (.c _)) ⟨rfl, rfl⟩) ?_
      refine Dp (fun _ => q_ncp ⟨rfl, rfl⟩) ?_
      refine Dp (fun _ => q_fap ⟨rfl, rfl⟩) ?_
      refine DLa (xs := u64s (el s.b))  ?_ (hc := rfl)
      refine Dp (fun _ => q_mv (s := .v (.c _)) ⟨rfl, rfl⟩) ?_
      refine Dp (fun _ => q_ncp ⟨rfl, rfl⟩) ?_
      refine Dp (fun _ => q_fap ⟨rfl, rfl⟩) ?_
      refine DLa (xs := u64s (el s.a))  ?_ (hc := rfl)
      refine Dp (fun _ => q_mv (s := .v (.c _)) ⟨rfl, rfl⟩) ?_
      refine Dp (fun _ => q_ncp ⟨rfl, rfl⟩) ?_
      refine Dp (fun _ => q_fap ⟨rfl, rfl⟩) ?_
      refine DLa (xs := u64s (el s.b))  ?_ (hc := rfl)
      refine De2 (fun _ k_ => q_al k_) ?_
      refine De2 (fun _ k_ => q_callp (g1) k_) ?_
      refine De2 (fun _ k_ => q_callp (g2) k_) ?_
      refine De2 (fun _ k_ => q_al k_) ?_
      refine De20 (fun _ k_ => q_stw k_) ?_
      refine De20 (fun _ k_ => q_stw k_) ?_
      refine dend ?_
      exact sle_sub ⟨rfl, rfl, rfl, rfl, trivial⟩ rfl
    · refine Dp (fun _ => q_mv (s := .v (.c _)) ⟨rfl, rfl⟩) ?_
      refine Dp (fun _ => q_ncp ⟨rfl, rfl⟩) ?_
      refine Dp (fun _ => q_fap ⟨rfl, rfl⟩) ?_
      refine DLa (xs := u64s (el s.a))  ?_ (hc := rfl)
      refine Dp (fun _ => q_mv (s := .v (.c _)) ⟨rfl, rfl⟩) ?_
      refine Dp (fun _ => q_ncp ⟨rfl, rfl⟩) ?_
      refine Dp (fun _ => q_fap ⟨rfl, rfl⟩) ?_
      refine DLa (xs := u64s (el s.b))  ?_ (hc := rfl)
      refine Dp (fun _ => q_mv (s := .v (.c _)) ⟨rfl, rfl⟩) ?_
      refine Dp (fun _ => q_ncp ⟨rfl, rfl⟩) ?_
      refine Dp (fun _ => q_fap ⟨rfl, rfl⟩) ?_
      refine DLa (xs := u64s (el s.a))  ?_ (hc := rfl)
      refine Dp (fun _ => q_mv (s := .v (.c _)) ⟨rfl, rfl⟩) ?_
      refine Dp (fun _ => q_ncp ⟨rfl, rfl⟩) ?_
      refine Dp (fun _ => q_fap ⟨rfl, rfl⟩) ?_
      refine DLa (xs := u64s (el s.b))  ?_ (hc := rfl)
      refine De2 (fun _ k_ => q_al k_) ?_
      refine De2 (fun _ k_ => q_callp (g1) k_) ?_
      refine De2 (fun _ k_ => q_al k_) ?_
      refine De2 (fun _ k_ => q_callp (g2) k_) ?_
      refine De20 (fun _ k_ => q_stw k_) ?_
      refine De20 (fun _ k_ => q_stw k_) ?_
      refine dend ?_
      exact sle_sub ⟨rfl, rfl, rfl, rfl, trivial⟩ rfl
    · refine Dp (fun _ => q_mv (s := .v (.c _)) ⟨rfl, rfl⟩) ?_
      refine Dp (fun _ => q_ncp ⟨rfl, rfl⟩) ?_
      refine Dp (fun _ => q_fap ⟨rfl, rfl⟩) ?_
      refine DLa (xs := u64s (el s.a))  ?_ (hc := rfl)
      refine Dp (fun _ => q_mv (s := .v (.c _)) ⟨rfl, rfl⟩) ?_
      refine Dp (fun _ => q_ncp ⟨rfl, rfl⟩) ?_
      refine Dp (fun _ => q_fap ⟨rfl, rfl⟩) ?_
      refine DLa (xs := u64s (el s.b))  ?_ (hc := rfl)
      refine Dp (fun _ => q_mv (s := .v (.c _)) ⟨rfl, rfl⟩) ?_
      refine Dp (fun _ => q_ncp ⟨rfl, rfl⟩) ?_
      refine Dp (fun _ => q_fap ⟨rfl, rfl⟩) ?_
      refine DLa (xs := u64s (el s.a))  ?_ (hc := rfl)
      refine Dp (fun _ => q_mv (s := .v (.c _)) ⟨rfl, rfl⟩) ?_
      refine Dp (fun _ => q_ncp ⟨rfl, rfl⟩) ?_
      refine Dp (fun _ => q_fap ⟨rfl, rfl⟩) ?_
      refine DLa (xs := u64s (el s.b))  ?_ (hc := rfl)
      refine De2 (fun _ k_ => q_al k_) ?_
      refine De2 (fun _ k_ => q_al k_) ?_
      refine De2 (fun _ k_ => q_callp (g1) k_) ?_
      refine De2 (fun _ k_ => q_callp (g2) k_) ?_
      refine De20 (fun _ k_ => q_stw k_) ?_
      refine De20 (fun _ k_ => q_stw k_) ?_
      refine dend ?_
      exact sle_sub ⟨rfl, rfl, rfl, rfl, trivial⟩ rfl
    · refine Dp (fun _ => q_mv (s := .v (.c _)) ⟨rfl, rfl⟩) ?_
      refine Dp (fun _ => q_ncp ⟨rfl, rfl⟩) ?_
      refine Dp (fun _ => q_fap ⟨rfl, rfl⟩) ?_
      refine DLa (xs := u64s (el s.a))  ?_ (hc := rfl)
      refine Dp (fun _ => q_mv (s := .v (.c _)) ⟨rfl, rfl⟩) ?_
      refine Dp (fun _ => q_ncp ⟨rfl, rfl⟩) ?_
      refine Dp (fun _ => q_fap ⟨rfl, rfl⟩) ?_
      refine DLa (xs := u64s (el s.b))  ?_ (hc := rfl)
      refine Dp (fun _ => q_mv (s := .v (.c _)) ⟨rfl, rfl⟩) ?_
      refine Dp (fun _ => q_ncp ⟨rfl, rfl⟩) ?_
      refine Dp (fun _ => q_fap ⟨rfl, rfl⟩) ?_
      refine DLa (xs := u64s (el s.a))  ?_ (hc := rfl)
      refine Dp (fun _ => q_mv (s := .v (.c _)) ⟨rfl, rfl⟩) ?_
      refine Dp (fun _ => q_ncp ⟨rfl, rfl⟩) ?_
      refine Dp (fun _ => q_fap ⟨rfl, rfl⟩) ?_
      refine DLa (xs := u64s (el s.b))  ?_ (hc := rfl)
      refine De2 (fun _ k_ => q_al k_) ?_
      refine De2 (fun _ k_ => q_callp (g1) k_) ?_
      refine De2 (fun _ k_ => q_callp (g2) k_) ?_
      refine De2 (fun _ k_ => q_al k_) ?_
      refine De20 (fun _ k_ => q_stw k_) ?_
      refine De20 (fun _ k_ => q_stw k_) ?_
      refine dend ?_
      exact sle_view [0, 1, 3, 2] pi1 (by decide) ⟨rfl, rfl, rfl, rfl, trivial⟩ (Eq.symm (pl1 rfl sees_m (pl1 rfl sees_m (pl1 rfl sees_m (pl1 rfl sees_m pl0)))))
    · refine Dp (fun _ => q_mv (s := .v (.c _)) ⟨rfl, rfl⟩) ?_
      refine Dp (fun _ => q_ncp ⟨rfl, rfl⟩) ?_
      refine Dp (fun _ => q_fap ⟨rfl, rfl⟩) ?_
      refine DLa (xs := u64s (el s.a))  ?_ (hc := rfl)
      refine Dp (fun _ => q_mv (s := .v (.c _)) ⟨rfl, rfl⟩) ?_
      refine Dp (fun _ => q_ncp ⟨rfl, rfl⟩) ?_
      refine Dp (fun _ => q_fap ⟨rfl, rfl⟩) ?_
      refine DLa (xs := u64s (el s.b))  ?_ (hc := rfl)
      refine Dp (fun _ => q_mv (s := .v (.c _)) ⟨rfl, rfl⟩) ?_
      refine Dp (fun _ => q_ncp ⟨rfl, rfl⟩) ?_
      refine Dp (fun _ => q_fap ⟨rfl, rfl⟩) ?_
      refine DLa (xs := u64s (el s.a))  ?_ (hc := rfl)
      refine Dp (fun _ => q_mv (s := .v (.c _)) ⟨rfl, rfl⟩) ?_
      refine Dp (fun _ => q_ncp ⟨rfl, rfl⟩) ?_
      refine Dp (fun _ => q_fap ⟨rfl, rfl⟩) ?_
      refine DLa (xs := u64s (el s.b))  ?_ (hc := rfl)
      refine De2 (fun _ k_ => q_al k_) ?_
      refine De2 (fun _ k_ => q_callp (g1) k_) ?_
      refine De2 (fun _ k_ => q_al k_) ?_
      refine De2 (fun _ k_ => q_callp (g2) k_) ?_
      refine De20 (fun _ k_ => q_stw k_) ?_
      refine De20 (fun _ k_ => q_stw k_) ?_
      refine dend ?_
      exact sle_view [0, 1, 3, 2] pi1 (by decide) ⟨rfl, rfl, rfl, rfl, trivial⟩ (Eq.symm (pl1 rfl sees_m (pl1 rfl sees_m (pl1 rfl sees_m (pl1 rfl sees_m pl0)))))
    refine Dp (fun _ => q_mv (s := .v (.c _)) ⟨rfl, rfl⟩) ?_
    refine Dp (fun _ => q_ncp ⟨rfl, rfl⟩) ?_
    refine Dp (fun _ => q_fap ⟨rfl, rfl⟩) ?_
    refine DLa (xs := u64s (el s.a))  ?_ (hc := rfl)
    refine Dp (fun _ => q_mv (s := .v (.c _)) ⟨rfl, rfl⟩) ?_
    refine Dp (fun _ => q_ncp ⟨rfl, rfl⟩) ?_
    refine Dp (fun _ => q_fap ⟨rfl, rfl⟩) ?_
    refine DLa (xs := u64s (el s.b))  ?_ (hc := rfl)
    refine Dp (fun _ => q_mv (s := .v (.c _)) ⟨rfl, rfl⟩) ?_
    refine Dp (fun _ => q_ncp ⟨rfl, rfl⟩) ?_
    refine Dp (fun _ => q_fap ⟨rfl, rfl⟩) ?_
    refine DLa (xs := u64s (el s.a))  ?_ (hc := rfl)
    refine Dp (fun _ => q_mv (s := .v (.c _)) ⟨rfl, rfl⟩) ?_
    refine Dp (fun _ => q_ncp ⟨rfl, rfl⟩) ?_
    refine Dp (fun _ => q_fap ⟨rfl, rfl⟩) ?_
    refine DLa (xs := u64s (el s.b))  ?_ (hc := rfl)
    refine De2 (fun _ k_ => q_al k_) ?_
    refine De2 (fun _ k_ => q_al k_) ?_
    refine De2 (fun _ k_ => q_callp (g1) k_) ?_
    refine De2 (fun _ k_ => q_callp (g2) k_) ?_
    refine De20 (fun _ k_ => q_stw k_) ?_
    refine De20 (fun _ k_ => q_stw k_) ?_
    refine dend ?_
    exact sle_view [0, 1, 3, 2] pi1 (by decide) ⟨rfl, rfl, rfl, rfl, trivial⟩ (Eq.symm (pl1 rfl sees_m (pl1 rfl sees_m (pl1 rfl sees_m (pl1 rfl sees_m pl0)))))
  refine awp_mid ⟨frm 90 [(0, sc (.ptr 0 0)), (3, sc (.ptr 1 0)), (4, sc (.ptr 2 0)), (5, sc (.ptr 3 0)), (6, sc (.ptr 4 0)), (7, sc (.ptr 5 0))], [some (u64s (sl s)), some (u64s (el x)), some (u64s (el sum)), some (u64s (el dif)), some (u64s (el u)), some (u64s (el v))]⟩ ?_ ?_
  · refine rdm [1, 3, 4, 5, 6, 7] [⟨[0, 1, 2, 3, 4, 5, 6, 7], [1, 3, 4, 5, 6, 7], [1, 3, 4, 5, 6, 7], [0, 0, 0, 1, 2, 3, 4, 5], [0, 1, 1, 2, 3, 4, 5, 6]⟩, ⟨[0, 1, 2, 3, 5, 4, 6, 7], [1, 3, 5, 4, 6, 7], [1, 3, 4, 5, 6, 7], [0, 0, 0, 1, 2, 3, 4, 5], [0, 1, 1, 2, 3, 4, 5, 6]⟩, ⟨[0, 1, 2, 4, 3, 5, 6, 7], [1, 4, 3, 5, 6, 7], [1, 3, 4, 5, 6, 7], [0, 0, 0, 1, 2, 3, 4, 5], [0, 1, 2, 2, 3, 4, 5, 6]⟩, ⟨[0, 1, 2, 4, 5, 3, 6, 7], [1, 4, 5, 3, 6, 7], [1, 3, 4, 5, 6, 7], [0, 0, 0, 1, 2, 3, 4, 5], [0, 1, 3, 2, 3, 4, 5, 6]⟩, ⟨[0, 1, 2, 5, 3, 4, 6, 7], [1, 5, 3, 4, 6, 7], [1, 3, 4, 5, 6, 7], [0, 0, 0, 1, 2, 3, 4, 5], [0, 1, 2, 2, 3, 4, 5, 6]⟩, ⟨[0, 1, 2, 5, 4, 3, 6, 7], [1, 5, 4, 3, 6, 7], [1, 3, 4, 5, 6, 7], [0, 0, 0, 1, 2, 3, 4, 5], [0, 1, 3, 2, 3, 4, 5, 6]⟩, ⟨[0, 2, 4, 1, 3, 5, 6, 7], [4, 1, 3, 5, 6, 7], [2, 3, 4, 5, 6, 7], [0, 0, 0, 1, 2, 3, 4, 5], [1, 2, 1, 2, 3, 4, 5, 6]⟩, ⟨[0, 2, 4, 1, 5, 3, 6, 7], [4, 1, 5, 3, 6, 7], [2, 3, 4, 5, 6, 7], [0, 0, 0, 1, 2, 3, 4, 5], [1, 3, 1, 2, 3, 4, 5, 6]⟩, ⟨[0, 2, 4, 5, 1, 3, 6, 7], [4, 5, 1, 3, 6, 7], [2, 3, 4, 5, 6, 7], [0, 0, 0, 1, 2, 3, 4, 5], [2, 3, 1, 2, 3, 4, 5, 6]⟩, ⟨[0, 2, 5, 1, 3, 4, 6, 7], [5, 1, 3, 4, 6, 7], [2, 3, 4, 5, 6, 7], [0, 0, 0, 1, 2, 3, 4, 5], [1, 2, 1, 2, 3, 4, 5, 6]⟩, ⟨[0, 2, 5, 1, 4, 3, 6, 7], [5, 1, 4, 3, 6, 7], [2, 3, 4, 5, 6, 7], [0, 0, 0, 1, 2, 3, 4, 5], [1, 3, 1, 2, 3, 4, 5, 6]⟩, ⟨[0, 2, 5, 4, 1, 3, 6, 7], [5, 4, 1, 3, 6, 7], [2, 3, 4, 5, 6, 7], [0, 0, 0, 1, 2, 3, 4, 5], [2, 3, 1, 2, 3, 4, 5, 6]⟩] ⟨?_, ?_, ?_, ?_, ?_, ?_, ?_, ?_, ?_, ?_, ?_, ?_, trivial⟩   -- region 2
    · refine DLw ?_
      refine De2 (fun _ k_ => q_callp (g3) k_) ?_
      refine DLw ?_
      refine De2 (fun _ k_ => q_callp (g4) k_) ?_
      refine De2 (fun _ k_ => q_al k_) ?_
      refine De2 (fun _ k_ => q_al k_) ?_
      refine De20 (fun _ k_ => q_stw k_) ?_
      refine De20 (fun _ k_ => q_stw k_) ?_
      refine dend ?_
      exact sle_sub ⟨rfl, rfl, rfl, rfl, rfl, rfl, trivial⟩ rfl
    · refine DLw ?_
      refine De2 (fun _ k_ => q_callp (g3) k_) ?_
      refine DLw ?_
      refine De2 (fun _ k_ => q_callp (g4) k_) ?_
      refine De2 (fun _ k_ => q_al k_) ?_
      refine De2 (fun _ k_ => q_al k_) ?_
      refine De20 (fun _ k_ => q_stw k_) ?_
      refine De20 (fun _ k_ => q_stw k_) ?_
      refine dend ?_
      exact sle_view [0, 1, 2, 3, 5, 4] pi1 (by decide) ⟨rfl, rfl, rfl, rfl, rfl, rfl, trivial⟩ (Eq.symm (pl1 rfl sees_m (pl1 rfl sees_m (pl1 rfl sees_m (pl1 rfl sees_m (pl1 rfl sees_m (pl1 rfl sees_m pl0)))))))
    · refine DLw ?_
      refine De2 (fun _ k_ => q_callp (g3) k_) ?_
      refine DLw ?_
      refine De2 (fun _ k_ => q_al k_) ?_
      refine De2 (fun _ k_ => q_callp (g4) k_) ?_
      refine De2 (fun _ k_ => q_al k_) ?_
      refine De20 (fun _ k_ => q_stw k_) ?_
      refine De20 (fun _ k_ => q_stw k_) ?_
      refine dend ?_
      exact sle_sub ⟨rfl, rfl, rfl, rfl, rfl, rfl, trivial⟩ rfl
    · refine DLw ?_
      refine De2 (fun _ k_ => q_callp (g3) k_) ?_
      refine DLw ?_
      refine De2 (fun _ k_ => q_al k_) ?_
      refine De2 (fun _ k_ => q_al k_) ?_
      refine De2 (fun _ k_ => q_callp (g4) k_) ?_
      refine De20 (fun _ k_ => q_stw k_) ?_
      refine De20 (fun _ k_ => q_stw k_) ?_
      refine dend ?_
      exact sle_sub ⟨rfl, rfl, rfl, rfl, rfl, rfl, trivial⟩ rfl
    · refine DLw ?_
      refine De2 (fun _ k_ => q_callp (g3) k_) ?_
      refine DLw ?_
      refine De2 (fun _ k_ => q_al k_) ?_
      refine De2 (fun _ k_ => q_callp (g4) k_) ?_
      refine De2 (fun _ k_ => q_al k_) ?_
      refine De20 (fun _ k_ => q_stw k_) ?_
      refine De20 (fun _ k_ => q_stw k_) ?_
      refine dend ?_
      exact sle_view [0, 1, 2, 3, 5, 4] pi1 (by decide) ⟨rfl, rfl, rfl, rfl, rfl, rfl, trivial⟩ (Eq.symm (pl1 rfl sees_m (pl1 rfl sees_m (pl1 rfl sees_m (pl1 rfl sees_m (pl1 rfl sees_m (pl1 rfl sees_m pl0)))))))
    · refine DLw ?_
      refine De2 (fun _ k_ => q_callp (g3) k_) ?_
      refine DLw ?_
      refine De2 (fun _ k_ => q_al k_) ?_
      refine De2 (fun _ k_ => q_al k_) ?_
      refine De2 (fun _ k_ => q_callp (g4) k_) ?_
      refine De20 (fun _ k_ => q_stw k_) ?_
      refine De20 (fun _ k_ => q_stw k_) ?_
      refine dend ?_
      exact sle_view [0, 1, 2, 3, 5, 4] pi1 (by decide) ⟨rfl, rfl, rfl, rfl, rfl, rfl, trivial⟩ (Eq.symm (pl1 rfl sees_m (pl1 rfl sees_m (pl1 rfl sees_m (pl1 rfl sees_m (pl1 rfl sees_m (pl1 rfl sees_m pl0)))))))
    · refine DLw ?_
      refine DLw ?_
      refine De2 (fun _ k_ => q_al k_) ?_
      refine De2 (fun _ k_ => q_callp (g3) k_) ?_
      refine De2 (fun _ k_ => q_callp (g4) k_) ?_
      refine De2 (fun _ k_ => q_al k_) ?_
      refine De20 (fun _ k_ => q_stw k_) ?_
      refine De20 (fun _ k_ => q_stw k_) ?_
      refine dend ?_
      exact sle_sub ⟨rfl, rfl, rfl, rfl, rfl, rfl, trivial⟩ rfl
    · refine DLw ?_
      refine DLw ?_
      refine De2 (fun _ k_ => q_al k_) ?_
      refine De2 (fun _ k_ => q_callp (g3) k_) ?_
      refine De2 (fun _ k_ => q_al k_) ?_
      refine De2 (fun _ k_ => q_callp (g4) k_) ?_
      refine De20 (fun _ k_ => q_stw k_) ?_
      refine De20 (fun _ k_ => q_stw k_) ?_
      refine dend ?_
      exact sle_sub ⟨rfl, rfl, rfl, rfl, rfl, rfl, trivial⟩ rfl
    · refine DLw ?_
      refine DLw ?_
      refine De2 (fun _ k_ => q_al k_) ?_
      refine De2 (fun _ k_ => q_al k_) ?_
      refine De2 (fun _ k_ => q_callp (g3) k_) ?_
      refine De2 (fun _ k_ => q_callp (g4) k_) ?_
      refine De20 (fun _ k_ => q_stw k_) ?_
      refine De20 (fun _ k_ => q_stw k_) ?_
      refine dend ?_
      exact sle_sub ⟨rfl, rfl, rfl, rfl, rfl, rfl, trivial⟩ rfl
    · refine DLw ?_
      refine DLw ?_
      refine De2 (fun _ k_ => q_al k_) ?_
      refine De2 (fun _ k_ => q_callp (g3) k_) ?_
      refine De2 (fun _ k_ => q_callp (g4) k_) ?_
      refine De2 (fun _ k_ => q_al k_) ?_
      refine De20 (fun _ k_ => q_stw k_) ?_
      refine De20 (fun _ k_ => q_stw k_) ?_
      refine dend ?_
      exact sle_view [0, 1, 2, 3, 5, 4] pi1 (by decide) ⟨rfl, rfl, rfl, rfl, rfl, rfl, trivial⟩ (Eq.symm (pl1 rfl sees_m (pl1 rfl sees_m (pl1 rfl sees_m (pl1 rfl sees_m (pl1 rfl sees_m (pl1 rfl sees_m pl0)))))))
    · refine DLw ?_
      refine DLw ?_
      refine De2 (fun _ k_ => q_al k_) ?_
      refine De2 (fun _ k_ => q_callp (g3) k_) ?_
      refine De2 (fun _ k_ => q_al k_) ?_
      refine De2 (fun _ k_ => q_callp (g4) k_) ?_
      refine De20 (fun _ k_ => q_stw k_) ?_
      refine De20 (fun _ k_ => q_stw k_) ?_
      refine dend ?_
      exact sle_view [0, 1, 2, 3, 5, 4] pi1 (by decide) ⟨rfl, rfl, rfl, rfl, rfl, rfl, trivial⟩ (Eq.symm (pl1 rfl sees_m (pl1 rfl sees_m (pl1 rfl sees_m (pl1 rfl sees_m (pl1 rfl sees_m (pl1 rfl sees_m pl0)))))))
    refine DLw ?_
    refine DLw ?_
    refine De2 (fun _ k_ => q_al k_) ?_
    refine De2 (fun _ k_ => q_al k_) ?_
    refine De2 (fun _ k_ => q_callp (g3) k_) ?_
    refine De2 (fun _ k_ => q_callp (g4) k_) ?_
    refine De20 (fun _ k_ => q_stw k_) ?_
    refine De20 (fun _ k_ => q_stw k_) ?_
    refine dend ?_
    exact sle_view [0, 1, 2, 3, 5, 4] pi1 (by decide) ⟨rfl, rfl, rfl, rfl, rfl, rfl, trivial⟩ (Eq.symm (pl1 rfl sees_m (pl1 rfl sees_m (pl1 rfl sees_m (pl1 rfl sees_m (pl1 rfl sees_m (pl1 rfl sees_m pl0)))))))
  refine awp_seq ?_
  refine rln ?_
  refine G (q_ldw ?_)
  refine G (q_ldw ?_)
  refine G2 (fun _ k_ => q_callp (g5) k_) ?_
  refine G2 (fun _ k_ => q_al k_) ?_
  refine G20 (fun _ k_ => q_stw k_) ?_
  refine gend ?_
  refine awp_mid ⟨frm 90 [(0, sc (.ptr 0 0)), (3, sc (.ptr 1 0)), (6, sc (.ptr 4 0)), (7, sc (.ptr 5 0)), (8, sc (.ptr 6 0)), (9, sc (.ptr 7 0)), (10, sc (.ptr 8 0))], [some (u64s (sl s)), some (u64s (el x)), some (u64s (el sum)), some (u64s (el dif)), some (u64s (el u)), some (u64s (el v)), some (u64s (el e)), some (u64s (el mm)), some (u64s (el nn))]⟩ ?_ ?_
  · refine rdm [8, 10, 19, 21, 22, 23, 24, 25] [⟨[0, 1, 2, 3, 4, 5, 6, 7, 8, 9, 10, 11, 12, 13, 14, 15, 16, 17, 18, 19, 20, 21, 22, 23, 24, 25], [8, 10, 19, 21, 22, 23, 24, 25], [8, 10, 19, 21, 22, 23, 24, 25], [0, 0, 0, 0, 0, 0, 0, 0, 0, 0, 1, 0, 0, 0, 0, 0, 0, 0, 0, 2, 0, 3, 4, 5, 6, 7], [0, 0, 0, 0, 0, 0, 0, 0, 1, 1, 2, 2, 2, 2, 2, 2, 2, 2, 2, 3, 3, 4, 5, 6, 7, 8]⟩, ⟨[0, 1, 2, 3, 4, 5, 6, 7, 8, 9, 10, 11, 12, 13, 14, 15, 16, 17, 18, 19, 20, 21, 23, 22, 24, 25], [8, 10, 19, 21, 23, 22, 24, 25], [8, 10, 19, 21, 22, 23, 24, 25], [0, 0, 0, 0, 0, 0, 0, 0, 0, 0, 1, 0, 0, 0, 0, 0, 0, 0, 0, 2, 0, 3, 4, 5, 6, 7], [0, 0, 0, 0, 0, 0, 0, 0, 1, 1, 2, 2, 2, 2, 2, 2, 2, 2, 2, 3, 3, 4, 5, 6, 7, 8]⟩, ⟨[0, 1, 2, 3, 4, 5, 6, 7, 8, 9, 10, 11, 12, 13, 14, 15, 16, 17, 18, 19, 20, 22, 21, 23, 24, 25], [8, 10, 19, 22, 21, 23, 24, 25], [8, 10, 19, 21, 22, 23, 24, 25], [0, 0, 0, 0, 0, 0, 0, 0, 0, 0, 1, 0, 0, 0, 0, 0, 0, 0, 0, 2, 0, 3, 4, 5, 6, 7], [0, 0, 0, 0, 0, 0, 0, 0, 1, 1, 2, 2, 2, 2, 2, 2, 2, 2, 2, 3, 4, 4, 5, 6, 7, 8]⟩, ⟨[0, 1, 2, 3, 4, 5, 6, 7, 8, 9, 10, 11, 12, 13, 14, 15, 16, 17, 18, 19, 20, 22, 23, 21, 24, 25], [8, 10, 19, 22, 23, 21, 24, 25], [8, 10, 19, 21, 22, 23, 24, 25], [0, 0, 0, 0, 0, 0, 0, 0, 0, 0, 1, 0, 0, 0, 0, 0, 0, 0, 0, 2, 0, 3, 4, 5, 6, 7], [0, 0, 0, 0, 0, 0, 0, 0, 1, 1, 2, 2, 2, 2, 2, 2, 2, 2, 2, 3, 5, 4, 5, 6, 7, 8]⟩, ⟨[0, 1, 2, 3, 4, 5, 6, 7, 8, 9, 10, 11, 12, 13, 14, 15, 16, 17, 18, 19, 20, 23, 21, 22, 24, 25], [8, 10, 19, 23, 21, 22, 24, 25], [8, 10, 19, 21, 22, 23, 24, 25], [0, 0, 0, 0, 0, 0, 0, 0, 0, 0, 1, 0, 0, 0, 0, 0, 0, 0, 0, 2, 0, 3, 4, 5, 6, 7], [0, 0, 0, 0, 0, 0, 0, 0, 1, 1, 2, 2, 2, 2, 2, 2, 2, 2, 2, 3, 4, 4, 5, 6, 7, 8]⟩, ⟨[0, 1, 2, 3, 4, 5, 6, 7, 8, 9, 10, 11, 12, 13, 14, 15, 16, 17, 18, 19, 20, 23, 22, 21, 24, 25], [8, 10, 19, 23, 22, 21, 24, 25], [8, 10, 19, 21, 22, 23, 24, 25], [0, 0, 0, 0, 0, 0, 0, 0, 0, 0, 1, 0, 0, 0, 0, 0, 0, 0, 0, 2, 0, 3, 4, 5, 6, 7], [0, 0, 0, 0, 0, 0, 0, 0, 1, 1, 2, 2, 2, 2, 2, 2, 2, 2, 2, 3, 5, 4, 5, 6, 7, 8]⟩, ⟨[0, 1, 2, 3, 4, 5, 6, 7, 8, 9, 10, 11, 12, 13, 14, 15, 16, 17, 18, 20, 22, 19, 21, 23, 24, 25], [8, 10, 22, 19, 21, 23, 24, 25], [8, 10, 20, 21, 22, 23, 24, 25], [0, 0, 0, 0, 0, 0, 0, 0, 0, 0, 1, 0, 0, 0, 0, 0, 0, 0, 0, 0, 2, 3, 4, 5, 6, 7], [0, 0, 0, 0, 0, 0, 0, 0, 1, 1, 2, 3, 3, 3, 3, 3, 3, 3, 3, 4, 3, 4, 5, 6, 7, 8]⟩, ⟨[0, 1, 2, 3, 4, 5, 6, 7, 8, 9, 10, 11, 12, 13, 14, 15, 16, 17, 18, 20, 22, 19, 23, 21, 24, 25], [8, 10, 22, 19, 23, 21, 24, 25], [8, 10, 20, 21, 22, 23, 24, 25], [0, 0, 0, 0, 0, 0, 0, 0, 0, 0, 1, 0, 0, 0, 0, 0, 0, 0, 0, 0, 2, 3, 4, 5, 6, 7], [0, 0, 0, 0, 0, 0, 0, 0, 1, 1, 2, 3, 3, 3, 3, 3, 3, 3, 3, 5, 3, 4, 5, 6, 7, 8]⟩, ⟨[0, 1, 2, 3, 4, 5, 6, 7, 8, 9, 10, 11, 12, 13, 14, 15, 16, 17, 18, 20, 22, 23, 19, 21, 24, 25], [8, 10, 22, 23, 19, 21, 24, 25], [8, 10, 20, 21, 22, 23, 24, 25], [0, 0, 0, 0, 0, 0, 0, 0, 0, 0, 1, 0, 0, 0, 0, 0, 0, 0, 0, 0, 2, 3, 4, 5, 6, 7], [0, 0, 0, 0, 0, 0, 0, 0, 1, 1, 2, 4, 4, 4, 4, 4, 4, 4, 4, 5, 3, 4, 5, 6, 7, 8]⟩, ⟨[0, 1, 2, 3, 4, 5, 6, 7, 8, 9, 10, 11, 12, 13, 14, 15, 16, 17, 18, 20, 23, 19, 21, 22, 24, 25], [8, 10, 23, 19, 21, 22, 24, 25], [8, 10, 20, 21, 22, 23, 24, 25], [0, 0, 0, 0, 0, 0, 0, 0, 0, 0, 1, 0, 0, 0, 0, 0, 0, 0, 0, 0, 2, 3, 4, 5, 6, 7], [0, 0, 0, 0, 0, 0, 0, 0, 1, 1, 2, 3, 3, 3, 3, 3, 3, 3, 3, 4, 3, 4, 5, 6, 7, 8]⟩, ⟨[0, 1, 2, 3, 4, 5, 6, 7, 8, 9, 10, 11, 12, 13, 14, 15, 16, 17, 18, 20, 23, 19, 22, 21, 24, 25], [8, 10, 23, 19, 22, 21, 24, 25], [8, 10, 20, 21, 22, 23, 24, 25], [0, 0, 0, 0, 0, 0, 0, 0, 0, 0, 1, 0, 0, 0, 0, 0, 0, 0, 0, 0, 2, 3, 4, 5, 6, 7], [0, 0, 0, 0, 0, 0, 0, 0, 1, 1, 2, 3, 3, 3, 3, 3, 3, 3, 3, 5, 3, 4, 5, 6, 7, 8]⟩, ⟨[0, 1, 2, 3, 4, 5, 6, 7, 8, 9, 10, 11, 12, 13, 14, 15, 16, 17, 18, 20, 23, 22, 19, 21, 24, 25], [8, 10, 23, 22, 19, 21, 24, 25], [8, 10, 20, 21, 22, 23, 24, 25], [0, 0, 0, 0, 0, 0, 0, 0, 0, 0, 1, 0, 0, 0, 0, 0, 0, 0, 0, 0, 2, 3, 4, 5, 6, 7], [0, 0, 0, 0, 0, 0, 0, 0, 1, 1, 2, 4, 4, 4, 4, 4, 4, 4, 4, 5, 3, 4, 5, 6, 7, 8]⟩, ⟨[0, 1, 2, 3, 4, 5, 6, 7, 8, 9, 11, 12, 13, 14, 15, 16, 17, 18, 20, 22, 10, 19, 21, 23, 24, 25], [8, 22, 10, 19, 21, 23, 24, 25], [8, 19, 20, 21, 22, 23, 24, 25], [0, 0, 0, 0, 0, 0, 0, 0, 0, 0, 0, 0, 0, 0, 0, 0, 0, 0, 0, 1, 2, 3, 4, 5, 6, 7], [0, 0, 0, 0, 0, 0, 0, 0, 1, 2, 3, 3, 3, 3, 3, 3, 3, 3, 4, 2, 3, 4, 5, 6, 7, 8]⟩, ⟨[0, 1, 2, 3, 4, 5, 6, 7, 8, 9, 11, 12, 13, 14, 15, 16, 17, 18, 20, 22, 10, 19, 23, 21, 24, 25], [8, 22, 10, 19, 23, 21, 24, 25], [8, 19, 20, 21, 22, 23, 24, 25], [0, 0, 0, 0, 0, 0, 0, 0, 0, 0, 0, 0, 0, 0, 0, 0, 0, 0, 0, 1, 2, 3, 4, 5, 6, 7], [0, 0, 0, 0, 0, 0, 0, 0, 1, 2, 3, 3, 3, 3, 3, 3, 3, 3, 5, 2, 3, 4, 5, 6, 7, 8]⟩, ⟨[0, 1, 2, 3, 4, 5, 6, 7, 8, 9, 11, 12, 13, 14, 15, 16, 17, 18, 20, 22, 10, 23, 19, 21, 24, 25], [8, 22, 10, 23, 19, 21, 24, 25], [8, 19, 20, 21, 22, 23, 24, 25], [0, 0, 0, 0, 0, 0, 0, 0, 0, 0, 0, 0, 0, 0, 0, 0, 0, 0, 0, 1, 2, 3, 4, 5, 6, 7], [0, 0, 0, 0, 0, 0, 0, 0, 1, 2, 4, 4, 4, 4, 4, 4, 4, 4, 5, 2, 3, 4, 5, 6, 7, 8]⟩, ⟨[0, 1, 2, 3, 4, 5, 6, 7, 8, 9, 11, 12, 13, 14, 15, 16, 17, 18, 20, 22, 23, 10, 19, 21, 24, 25], [8, 22, 23, 10, 19, 21, 24, 25], [8, 19, 20, 21, 22, 23, 24, 25], [0, 0, 0, 0, 0, 0, 0, 0, 0, 0, 0, 0, 0, 0, 0, 0, 0, 0, 0, 1, 2, 3, 4, 5, 6, 7], [0, 0, 0, 0, 0, 0, 0, 0, 1, 3, 4, 4, 4, 4, 4, 4, 4, 4, 5, 2, 3, 4, 5, 6, 7, 8]⟩, ⟨[0, 1, 2, 3, 4, 5, 6, 7, 8, 9, 11, 12, 13, 14, 15, 16, 17, 18, 20, 23, 10, 19, 21, 22, 24, 25], [8, 23, 10, 19, 21, 22, 24, 25], [8, 19, 20, 21, 22, 23, 24, 25], [0, 0, 0, 0, 0, 0, 0, 0, 0, 0, 0, 0, 0, 0, 0, 0, 0, 0, 0, 1, 2, 3, 4, 5, 6, 7], [0, 0, 0, 0, 0, 0, 0, 0, 1, 2, 3, 3, 3, 3, 3, 3, 3, 3, 4, 2, 3, 4, 5, 6, 7, 8]⟩, ⟨[0, 1, 2, 3, 4, 5, 6, 7, 8, 9, 11, 12, 13, 14, 15, 16, 17, 18, 20, 23, 10, 19, 22, 21, 24, 25], [8, 23, 10, 19, 22, 21, 24, 25], [8, 19, 20, 21, 22, 23, 24, 25], [0, 0, 0, 0, 0, 0, 0, 0, 0, 0, 0, 0, 0, 0, 0, 0, 0, 0, 0, 1, 2, 3, 4, 5, 6, 7], [0, 0, 0, 0, 0, 0, 0, 0, 1, 2, 3, 3, 3, 3, 3, 3, 3, 3, 5, 2, 3, 4, 5, 6, 7, 8]⟩, ⟨[0, 1, 2, 3, 4, 5, 6, 7, 8, 9, 11, 12, 13, 14, 15, 16, 17, 18, 20, 23, 10, 22, 19, 21, 24, 25], [8, 23, 10, 22, 19, 21, 24, 25], [8, 19, 20, 21, 22, 23, 24, 25], [0, 0, 0, 0, 0, 0, 0, 0, 0, 0, 0, 0, 0, 0, 0, 0, 0, 0, 0, 1, 2, 3, 4, 5, 6, 7], [0, 0, 0, 0, 0, 0, 0, 0, 1, 2, 4, 4, 4, 4, 4, 4, 4, 4, 5, 2, 3, 4, 5, 6, 7, 8]⟩, ⟨[0, 1, 2, 3, 4, 5, 6, 7, 8, 9, 11, 12, 13, 14, 15, 16, 17, 18, 20, 23, 22, 10, 19, 21, 24, 25], [8, 23, 22, 10, 19, 21, 24, 25], [8, 19, 20, 21, 22, 23, 24, 25], [0, 0, 0, 0, 0, 0, 0, 0, 0, 0, 0, 0, 0, 0, 0, 0, 0, 0, 0, 1, 2, 3, 4, 5, 6, 7], [0, 0, 0, 0, 0, 0, 0, 0, 1, 3, 4, 4, 4, 4, 4, 4, 4, 4, 5, 2, 3, 4, 5, 6, 7, 8]⟩, ⟨[0, 1, 2, 3, 4, 5, 6, 7, 9, 11, 12, 13, 14, 15, 16, 17, 18, 20, 22, 8, 10, 19, 21, 23, 24, 25], [22, 8, 10, 19, 21, 23, 24, 25], [18, 19, 20, 21, 22, 23, 24, 25], [0, 0, 0, 0, 0, 0, 0, 0, 0, 0, 0, 0, 0, 0, 0, 0, 0, 0, 0, 1, 2, 3, 4, 5, 6, 7], [1, 1, 1, 1, 1, 1, 1, 1, 2, 3, 3, 3, 3, 3, 3, 3, 3, 4, 1, 2, 3, 4, 5, 6, 7, 8]⟩, ⟨[0, 1, 2, 3, 4, 5, 6, 7, 9, 11, 12, 13, 14, 15, 16, 17, 18, 20, 22, 8, 10, 19, 23, 21, 24, 25], [22, 8, 10, 19, 23, 21, 24, 25], [18, 19, 20, 21, 22, 23, 24, 25], [0, 0, 0, 0, 0, 0, 0, 0, 0, 0, 0, 0, 0, 0, 0, 0, 0, 0, 0, 1, 2, 3, 4, 5, 6, 7], [1, 1, 1, 1, 1, 1, 1, 1, 2, 3, 3, 3, 3, 3, 3, 3, 3, 5, 1, 2, 3, 4, 5, 6, 7, 8]⟩, ⟨[0, 1, 2, 3, 4, 5, 6, 7, 9, 11, 12, 13, 14, 15, 16, 17, 18, 20, 22, 8, 10, 23, 19, 21, 24, 25], [22, 8, 10, 23, 19, 21, 24, 25], [18, 19, 20, 21, 22, 23, 24, 25], [0, 0, 0, 0, 0, 0, 0, 0, 0, 0, 0, 0, 0, 0, 0, 0, 0, 0, 0, 1, 2, 3, 4, 5, 6, 7], [1, 1, 1, 1, 1, 1, 1, 1, 2, 4, 4, 4, 4, 4, 4, 4, 4, 5, 1, 2, 3, 4, 5, 6, 7, 8]⟩, ⟨[0, 1, 2, 3, 4, 5, 6, 7, 9, 11, 12, 13, 14, 15, 16, 17, 18, 20, 22, 8, 23, 10, 19, 21, 24, 25], [22, 8, 23, 10, 19, 21, 24, 25], [18, 19, 20, 21, 22, 23, 24, 25], [0, 0, 0, 0, 0, 0, 0, 0, 0, 0, 0, 0, 0, 0, 0, 0, 0, 0, 0, 1, 2, 3, 4, 5, 6, 7], [1, 1, 1, 1, 1, 1, 1, 1, 3, 4, 4, 4, 4, 4, 4, 4, 4, 5, 1, 2, 3, 4, 5, 6, 7, 8]⟩, ⟨[0, 1, 2, 3, 4, 5, 6, 7, 9, 11, 12, 13, 14, 15, 16, 17, 18, 20, 22, 23, 8, 10, 19, 21, 24, 25], [22, 23, 8, 10, 19, 21, 24, 25], [18, 19, 20, 21, 22, 23, 24, 25], [0, 0, 0, 0, 0, 0, 0, 0, 0, 0, 0, 0, 0, 0, 0, 0, 0, 0, 0, 1, 2, 3, 4, 5, 6, 7], [2, 2, 2, 2, 2, 2, 2, 2, 3, 4, 4, 4, 4, 4, 4, 4, 4, 5, 1, 2, 3, 4, 5, 6, 7, 8]⟩, ⟨[0, 1, 2, 3, 4, 5, 6, 7, 9, 11, 12, 13, 14, 15, 16, 17, 18, 20, 23, 8, 10, 19, 21, 22, 24, 25], [23, 8, 10, 19, 21, 22, 24, 25], [18, 19, 20, 21, 22, 23, 24, 25], [0, 0, 0, 0, 0, 0, 0, 0, 0, 0, 0, 0, 0, 0, 0, 0, 0, 0, 0, 1, 2, 3, 4, 5, 6, 7], [1, 1, 1, 1, 1, 1, 1, 1, 2, 3, 3, 3, 3, 3, 3, 3, 3, 4, 1, 2, 3, 4, 5, 6, 7, 8]⟩, ⟨[0, 1, 2, 3, 4, 5, 6, 7, 9, 11, 12, 13, 14, 15, 16, 17, 18, 20, 23, 8, 10, 19, 22, 21, 24, 25], [23, 8, 10, 19, 22, 21, 24, 25], [18, 19, 20, 21, 22, 23, 24, 25], [0, 0, 0, 0, 0, 0, 0, 0, 0, 0, 0, 0, 0, 0, 0, 0, 0, 0, 0, 1, 2, 3, 4, 5, 6, 7], [1, 1, 1, 1, 1, 1, 1, 1, 2, 3, 3, 3, 3, 3, 3, 3, 3, 5, 1, 2, 3, 4, 5, 6, 7, 8]⟩, ⟨[0, 1, 2, 3, 4, 5, 6, 7, 9, 11, 12, 13, 14, 15, 16, 17, 18, 20, 23, 8, 10, 22, 19, 21, 24, 25], [23, 8, 10, 22, 19, 21, 24, 25], [18, 19, 20, 21, 22, 23, 24, 25], [0, 0, 0, 0, 0, 0, 0, 0, 0, 0, 0, 0, 0, 0, 0, 0, 0, 0, 0, 1, 2, 3, 4, 5, 6, 7], [1, 1, 1, 1, 1, 1, 1, 1, 2, 4, 4, 4, 4, 4, 4, 4, 4, 5, 1, 2, 3, 4, 5, 6, 7, 8]⟩, ⟨[0, 1, 2, 3, 4, 5, 6, 7, 9, 11, 12, 13, 14, 15, 16, 17, 18, 20, 23, 8, 22, 10, 19, 21, 24, 25], [23, 8, 22, 10, 19, 21, 24, 25], [18, 19, 20, 21, 22, 23, 24, 25], [0, 0, 0, 0, 0, 0, 0, 0, 0, 0, 0, 0, 0, 0, 0, 0, 0, 0, 0, 1, 2, 3, 4, 5, 6, 7], [1, 1, 1, 1, 1, 1, 1, 1, 3, 4, 4, 4, 4, 4, 4, 4, 4, 5, 1, 2, 3, 4, 5, 6, 7, 8]⟩, ⟨[0, 1, 2, 3, 4, 5, 6, 7, 9, 11, 12, 13, 14, 15, 16, 17, 18, 20, 23, 22, 8, 10, 19, 21, 24, 25], [23, 22, 8, 10, 19, 21, 24, 25], [18, 19, 20, 21, 22, 23, 24, 25], [0, 0, 0, 0, 0, 0, 0, 0, 0, 0, 0, 0, 0, 0, 0, 0, 0, 0, 0, 1, 2, 3, 4, 5, 6, 7], [2, 2, 2, 2, 2, 2, 2, 2, 3, 4, 4, 4, 4, 4, 4, 4, 4, 5, 1, 2, 3, 4, 5, 6, 7, 8]⟩] ⟨?_, ?_, ?_, ?_, ?_, ?_, ?_, ?_, ?_, ?_, ?_, ?_, ?_, ?_, ?_, ?_, ?_, ?_, ?_, ?_, ?_, ?_, ?_, ?_, ?_, ?_, ?_, ?_, ?_, ?_, trivial⟩   -- region 4
    · refine Dp (fun _ => q_mv (s := .v (.c _)) ⟨rfl, rfl⟩) ?_
      refine Dp (fun _ => q_ncp ⟨rfl, rfl⟩) ?_
      refine Dp (fun _ => q_fap ⟨rfl, rfl⟩) ?_
      refine DLa (xs := u64s (el s.c))  ?_ (hc := rfl)
      refine Dp (fun _ => q_mv (s := .v (.c _)) ⟨rfl, rfl⟩) ?_
      refine Dp (fun _ => q_ncp ⟨rfl, rfl⟩) ?_
      refine Dp (fun _ => q_fap ⟨rfl, rfl⟩) ?_
      refine DLa (xs := u64s (el s.d))  ?_ (hc := rfl)
      refine De2 (fun _ k_ => q_callp (Fd.add_e s.c s.d) k_) ?_
      refine DLw ?_
      refine De2 (fun _ k_ => q_callp (g6) k_) ?_
      refine Dp (fun _ => q_mv (s := .v (.c _)) ⟨rfl, rfl⟩) ?_
      refine Dp (fun _ => q_ncp ⟨rfl, rfl⟩) ?_
      refine Dp (fun _ => q_fap ⟨rfl, rfl⟩) ?_
      refine DLa (xs := u64s (el s.c))  ?_ (hc := rfl)
      refine Dp (fun _ => q_mv (s := .v (.c _)) ⟨rfl, rfl⟩) ?_
      refine Dp (fun _ => q_ncp ⟨rfl, rfl⟩) ?_
      refine Dp (fun _ => q_fap ⟨rfl, rfl⟩) ?_
      refine DLa (xs := u64s (el s.d))  ?_ (hc := rfl)
      refine De2 (fun _ k_ => q_callp (Fd.sub_e s.c s.d) k_) ?_
      refine DLw ?_
      refine De2 (fun _ k_ => q_callp (g7) k_) ?_
      refine De2 (fun _ k_ => q_al k_) ?_
      refine De2 (fun _ k_ => q_al k_) ?_
      refine De20 (fun _ k_ => q_stw k_) ?_
      refine De20 (fun _ k_ => q_stw k_) ?_
      refine dend ?_
      exact sle_sub ⟨rfl, rfl, rfl, rfl, rfl, rfl, rfl, trivial⟩ rfl
    · refine Dp (fun _ => q_mv (s := .v (.c _)) ⟨rfl, rfl⟩) ?_
      refine Dp (fun _ => q_ncp ⟨rfl, rfl⟩) ?_
      refine Dp (fun _ => q_fap ⟨rfl, rfl⟩) ?_
      refine DLa (xs := u64s (el s.c))  ?_ (hc := rfl)
      refine Dp (fun _ => q_mv (s := .v (.c _)) ⟨rfl, rfl⟩) ?_
      refine Dp (fun _ => q_ncp ⟨rfl, rfl⟩) ?_
      refine Dp (fun _ => q_fap ⟨rfl, rfl⟩) ?_
      refine DLa (xs := u64s (el s.d))  ?_ (hc := rfl)
      refine De2 (fun _ k_ => q_callp (Fd.add_e s.c s.d) k_) ?_
      refine DLw ?_
      refine De2 (fun _ k_ => q_callp (g6) k_) ?_
      refine Dp (fun _ => q_mv (s := .v (.c _)) ⟨rfl, rfl⟩) ?_
      refine Dp (fun _ => q_ncp ⟨rfl, rfl⟩) ?_
      refine Dp (fun _ => q_fap ⟨rfl, rfl⟩) ?_
      refine DLa (xs := u64s (el s.c))  ?_ (hc := rfl)
      refine Dp (fun _ => q_mv (s := .v (.c _)) ⟨rfl, rfl⟩) ?_
      refine Dp (fun _ => q_ncp ⟨rfl, rfl⟩) ?_
      refine Dp (fun _ => q_fap ⟨rfl, rfl⟩) ?_
      refine DLa (xs := u64s (el s.d))  ?_ (hc := rfl)
      refine De2 (fun _ k_ => q_callp (Fd.sub_e s.c s.d) k_) ?_
      refine DLw ?_
      refine De2 (fun _ k_ => q_callp (g7) k_) ?_
      refine De2 (fun _ k_ => q_al k_) ?_
      refine De2 (fun _ k_ => q_al k_) ?_
      refine De20 (fun _ k_ => q_stw k_) ?_
      refine De20 (fun _ k_ => q_stw k_) ?_
      refine dend ?_
      exact sle_view [0, 1, 2, 3, 4, 5, 6, 8, 7] pi1 (by decide) ⟨rfl, rfl, rfl, rfl, rfl, rfl, rfl, trivial⟩ (Eq.symm (pl1 rfl sees_m (pl1 rfl sees_m (pl1 rfl sees_m (pl1 rfl sees_m (pl1 rfl sees_m (pl1 rfl sees_m (pl1 rfl sees_m (pl1 rfl sees_m (pl1 rfl sees_m pl0))))))))))
    · refine Dp (fun _ => q_mv (s := .v (.c _)) ⟨rfl, rfl⟩) ?_
      refine Dp (fun _ => q_ncp ⟨rfl, rfl⟩) ?_
      refine Dp (fun _ => q_fap ⟨rfl, rfl⟩) ?_
      refine DLa (xs := u64s (el s.c))  ?_ (hc := rfl)
      refine Dp (fun _ => q_mv (s := .v (.c _)) ⟨rfl, rfl⟩) ?_
      refine Dp (fun _ => q_ncp ⟨rfl, rfl⟩) ?_
      refine Dp (fun _ => q_fap ⟨rfl, rfl⟩) ?_
      refine DLa (xs := u64s (el s.d))  ?_ (hc := rfl)
      refine De2 (fun _ k_ => q_callp (Fd.add_e s.c s.d) k_) ?_
      refine DLw ?_
      refine De2 (fun _ k_ => q_callp (g6) k_) ?_
      refine Dp (fun _ => q_mv (s := .v (.c _)) ⟨rfl, rfl⟩) ?_
      refine Dp (fun _ => q_ncp ⟨rfl, rfl⟩) ?_
      refine Dp (fun _ => q_fap ⟨rfl, rfl⟩) ?_
      refine DLa (xs := u64s (el s.c))  ?_ (hc := rfl)
      refine Dp (fun _ => q_mv (s := .v (.c _)) ⟨rfl, rfl⟩) ?_
      refine Dp (fun _ => q_ncp ⟨rfl, rfl⟩) ?_
      refine Dp (fun _ => q_fap ⟨rfl, rfl⟩) ?_
      refine DLa (xs := u64s (el s.d))  ?_ (hc := rfl)
      refine De2 (fun _ k_ => q_callp (Fd.sub_e s.c s.d) k_) ?_
      refine DLw ?_
      refine De2 (fun _ k_ => q_al k_) ?_
      refine De2 (fun _ k_ => q_callp (g7) k_) ?_
      refine De2 (fun _ k_ => q_al k_) ?_
      refine De20 (fun _ k_ => q_stw k_) ?_
      refine De20 (fun _ k_ => q_stw k_) ?_
      refine dend ?_
      exact sle_sub ⟨rfl, rfl, rfl, rfl, rfl, rfl, rfl, trivial⟩ rfl
    · refine Dp (fun _ => q_mv (s := .v (.c _)) ⟨rfl, rfl⟩) ?_
      refine Dp (fun _ => q_ncp ⟨rfl, rfl⟩) ?_
      refine Dp (fun _ => q_fap ⟨rfl, rfl⟩) ?_
      refine DLa (xs := u64s (el s.c))  ?_ (hc := rfl)
      refine Dp (fun _ => q_mv (s := .v (.c _)) ⟨rfl, rfl⟩) ?_
      refine Dp (fun _ => q_ncp ⟨rfl, rfl⟩) ?_
      refine Dp (fun _ => q_fap ⟨rfl, rfl⟩) ?_
      refine DLa (xs := u64s (el s.d))  ?_ (hc := rfl)
      refine De2 (fun _ k_ => q_callp (Fd.add_e s.c s.d) k_) ?_
      refine DLw ?_
      refine De2 (fun _ k_ => q_callp (g6) k_) ?_
      refine Dp (fun _ => q_mv (s := .v (.c _)) ⟨rfl, rfl⟩) ?_
      refine Dp (fun _ => q_ncp ⟨rfl, rfl⟩) ?_
      refine Dp (fun _ => q_fap ⟨rfl, rfl⟩) ?_
      refine DLa (xs := u64s (el s.c))  ?_ (hc := rfl)
      refine Dp (fun _ => q_mv (s := .v (.c _)) ⟨rfl, rfl⟩) ?_
      refine Dp (fun _ => q_ncp ⟨rfl, rfl⟩) ?_
      refine Dp (fun _ => q_fap ⟨rfl, rfl⟩) ?_
      refine DLa (xs := u64s (el s.d))  ?_ (hc := rfl)
      refine De2 (fun _ k_ => q_callp (Fd.sub_e s.c s.d) k_) ?_
      refine DLw ?_
      refine De2 (fun _ k_ => q_al k_) ?_
      refine De2 (fun _ k_ => q_al k_) ?_
      refine De2 (fun _ k_ => q_callp (g7) k_) ?_
      refine De20 (fun _ k_ => q_stw k_) ?_
      refine De20 (fun _ k_ => q_stw k_) ?_
      refine dend ?_
      exact sle_sub ⟨rfl, rfl, rfl, rfl, rfl, rfl, rfl, trivial⟩ rfl
    · refine Dp (fun _ => q_mv (s := .v (.c _)) ⟨rfl, rfl⟩) ?_
      refine Dp (fun _ => q_ncp ⟨rfl, rfl⟩) ?_
      refine Dp (fun _ => q_fap ⟨rfl, rfl⟩) ?_
      refine DLa (xs := u64s (el s.c))  ?_ (hc := rfl)
      refine Dp (fun _ => q_mv (s := .v (.c _)) ⟨rfl, rfl⟩) ?_
      refine Dp (fun _ => q_ncp ⟨rfl, rfl⟩) ?_
      refine Dp (fun _ => q_fap ⟨rfl, rfl⟩) ?_
      refine DLa (xs := u64s (el s.d))  ?_ (hc := rfl)
      refine De2 (fun _ k_ => q_callp (Fd.add_e s.c s.d) k_) ?_
      refine DLw ?_
      refine De2 (fun _ k_ => q_callp (g6) k_) ?_
      refine Dp (fun _ => q_mv (s := .v (.c _)) ⟨rfl, rfl⟩) ?_
      refine Dp (fun _ => q_ncp ⟨rfl, rfl⟩) ?_
      refine Dp (fun _ => q_fap ⟨rfl, rfl⟩) ?_
      refine DLa (xs := u64s (el s.c))  ?_ (hc := rfl)
      refine Dp (fun _ => q_mv (s := .v (.c _)) ⟨rfl, rfl⟩) ?_
      refine Dp (fun _ => q_ncp ⟨rfl, rfl⟩) ?_
      refine Dp (fun _ => q_fap ⟨rfl, rfl⟩) ?_
      refine DLa (xs := u64s (el s.d))  ?_ (hc := rfl)
      refine De2 (fun _ k_ => q_callp (Fd.sub_e s.c s.d) k_) ?_
      refine DLw ?_
      refine De2 (fun _ k_ => q_al k_) ?_
      refine De2 (fun _ k_ => q_callp (g7) k_) ?_
      refine De2 (fun _ k_ => q_al k_) ?_
      refine De20 (fun _ k_ => q_stw k_) ?_
      refine De20 (fun _ k_ => q_stw k_) ?_
      refine dend ?_
      exact sle_view [0, 1, 2, 3, 4, 5, 6, 8, 7] pi1 (by decide) ⟨rfl, rfl, rfl, rfl, rfl, rfl, rfl, trivial⟩ (Eq.symm (pl1 rfl sees_m (pl1 rfl sees_m (pl1 rfl sees_m (pl1 rfl sees_m (pl1 rfl sees_m (pl1 rfl sees_m (pl1 rfl sees_m (pl1 rfl sees_m (pl1 rfl sees_m pl0))))))))))
    · refine Dp (fun _ => q_mv (s := .v (.c _)) ⟨rfl, rfl⟩) ?_
      refine Dp (fun _ => q_ncp ⟨rfl, rfl⟩) ?_
      refine Dp (fun _ => q_fap ⟨rfl, rfl⟩) ?_
      refine DLa (xs := u64s (el s.c))  ?_ (hc := rfl)
      refine Dp (fun _ => q_mv (s := .v (.c _)) ⟨rfl, rfl⟩) ?_
      refine Dp (fun _ => q_ncp ⟨rfl, rfl⟩) ?_
      refine Dp (fun _ => q_fap ⟨rfl, rfl⟩) ?_
      refine DLa (xs := u64s (el s.d))  ?_ (hc := rfl)
      refine De2 (fun _ k_ => q_callp (Fd.add_e s.c s.d) k_) ?_
      refine DLw ?_
      refine De2 (fun _ k_ => q_callp (g6) k_) ?_
      refine Dp (fun _ => q_mv (s := .v (.c _)) ⟨rfl, rfl⟩) ?_
      refine Dp (fun _ => q_ncp ⟨rfl, rfl⟩) ?_
      refine Dp (fun _ => q_fap ⟨rfl, rfl⟩) ?_
      refine DLa (xs := u64s (el s.c))  ?_ (hc := rfl)
      refine Dp (fun _ => q_mv (s := .v (.c _)) ⟨rfl, rfl⟩) ?_
      refine Dp (fun _ => q_ncp ⟨rfl, rfl⟩) ?_
      refine Dp (fun _ => q_fap ⟨rfl, rfl⟩) ?_
      refine DLa (xs := u64s (el s.d))  ?_ (hc := rfl)
      refine De2 (fun _ k_ => q_callp (Fd.sub_e s.c s.d) k_) ?_
      refine DLw ?_
      refine De2 (fun _ k_ => q_al k_) ?_
      refine De2 (fun _ k_ => q_al k_) ?_
      refine De2 (fun _ k_ => q_callp (g7) k_) ?_
      refine De20 (fun _ k_ => q_stw k_) ?_
      refine De20 (fun _ k_ => q_stw k_) ?_
      refine dend ?_
      exact sle_view [0, 1, 2, 3, 4, 5, 6, 8, 7] pi1 (by decide) ⟨rfl, rfl, rfl, rfl, rfl, rfl, rfl, trivial⟩ (Eq.symm (pl1 rfl sees_m (pl1 rfl sees_m (pl1 rfl sees_m (pl1 rfl sees_m (pl1 rfl sees_m (pl1 rfl sees_m (pl1 rfl sees_m (pl1 rfl sees_m (pl1 rfl sees_m pl0))))))))))
    · refine Dp (fun _ => q_mv (s := .v (.c _)) ⟨rfl, rfl⟩) ?_
      refine Dp (fun _ => q_ncp ⟨rfl, rfl⟩) ?_
      refine Dp (fun _ => q_fap ⟨rfl, rfl⟩) ?_
      refine DLa (xs := u64s (el s.c))  ?_ (hc := rfl)
      refine Dp (fun _ => q_mv (s := .v (.c _)) ⟨rfl, rfl⟩) ?_
      refine Dp (fun _ => q_ncp ⟨rfl, rfl⟩) ?_
      refine Dp (fun _ => q_fap ⟨rfl, rfl⟩) ?_
      refine DLa (xs := u64s (el s.d))  ?_ (hc := rfl)
      refine De2 (fun _ k_ => q_callp (Fd.add_e s.c s.d) k_) ?_
      refine DLw ?_
      refine De2 (fun _ k_ => q_callp (g6) k_) ?_
      refine Dp (fun _ => q_mv (s := .v (.c _)) ⟨rfl, rfl⟩) ?_
      refine Dp (fun _ => q_ncp ⟨rfl, rfl⟩) ?_
      refine Dp (fun _ => q_fap ⟨rfl, rfl⟩) ?_
      refine DLa (xs := u64s (el s.c))  ?_ (hc := rfl)
      refine Dp (fun _ => q_mv (s := .v (.c _)) ⟨rfl, rfl⟩) ?_
      refine Dp (fun _ => q_ncp ⟨rfl, rfl⟩) ?_
      refine Dp (fun _ => q_fap ⟨rfl, rfl⟩) ?_
      refine DLa (xs := u64s (el s.d))  ?_ (hc := rfl)
      refine DLw ?_
      refine De2 (fun _ k_ => q_al k_) ?_
      refine De2 (fun _ k_ => q_callp (Fd.sub_e s.c s.d) k_) ?_
      refine De2 (fun _ k_ => q_callp (g7) k_) ?_
      refine De2 (fun _ k_ => q_al k_) ?_
      refine De20 (fun _ k_ => q_stw k_) ?_
      refine De20 (fun _ k_ => q_stw k_) ?_
      refine dend ?_
      exact sle_sub ⟨rfl, rfl, rfl, rfl, rfl, rfl, rfl, trivial⟩ rfl
    · refine Dp (fun _ => q_mv (s := .v (.c _)) ⟨rfl, rfl⟩) ?_
      refine Dp (fun _ => q_ncp ⟨rfl, rfl⟩) ?_
      refine Dp (fun _ => q_fap ⟨rfl, rfl⟩) ?_
      refine DLa (xs := u64s (el s.c))  ?_ (hc := rfl)
      refine Dp (fun _ => q_mv (s := .v (.c _)) ⟨rfl, rfl⟩) ?_
      refine Dp (fun _ => q_ncp ⟨rfl, rfl⟩) ?_
      refine Dp (fun _ => q_fap ⟨rfl, rfl⟩) ?_
      refine DLa (xs := u64s (el s.d))  ?_ (hc := rfl)
      refine De2 (fun _ k_ => q_callp (Fd.add_e s.c s.d) k_) ?_
      refine DLw ?_
      refine De2 (fun _ k_ => q_callp (g6) k_) ?_
      refine Dp (fun _ => q_mv (s := .v (.c _)) ⟨rfl, rfl⟩) ?_
      refine Dp (fun _ => q_ncp ⟨rfl, rfl⟩) ?_
      refine Dp (fun _ => q_fap ⟨rfl, rfl⟩) ?_
      refine DLa (xs := u64s (el s.c))  ?_ (hc := rfl)
      refine Dp (fun _ => q_mv (s := .v (.c _)) ⟨rfl, rfl⟩) ?_
      refine Dp (fun _ => q_ncp ⟨rfl, rfl⟩) ?_
      refine Dp (fun _ => q_fap ⟨rfl, rfl⟩) ?_
      refine DLa (xs := u64s (el s.d))  ?_ (hc := rfl)
      refine DLw ?_
      refine De2 (fun _ k_ => q_al k_) ?_
      refine De2 (fun _ k_ => q_callp (Fd.sub_e s.c s.d) k_) ?_
      refine De2 (fun _ k_ => q_al k_) ?_
      refine De2 (fun _ k_ => q_callp (g7) k_) ?_
      refine De20 (fun _ k_ => q_stw k_) ?_
      refine De20 (fun _ k_ => q_stw k_) ?_
      refine dend ?_
      exact sle_sub ⟨rfl, rfl, rfl, rfl, rfl, rfl, rfl, trivial⟩ rfl
    · refine Dp (fun _ => q_mv (s := .v (.c _)) ⟨rfl, rfl⟩) ?_
      refine Dp (fun _ => q_ncp ⟨rfl, rfl⟩) ?_
      refine Dp (fun _ => q_fap ⟨rfl, rfl⟩) ?_
      refine DLa (xs := u64s (el s.c))  ?_ (hc := rfl)
      refine Dp (fun _ => q_mv (s := .v (.c _)) ⟨rfl, rfl⟩) ?_
      refine Dp (fun _ => q_ncp ⟨rfl, rfl⟩) ?_
      refine Dp (fun _ => q_fap ⟨rfl, rfl⟩) ?_
      refine DLa (xs := u64s (el s.d))  ?_ (hc := rfl)
      refine De2 (fun _ k_ => q_callp (Fd.add_e s.c s.d) k_) ?_
      refine DLw ?_
      refine De2 (fun _ k_ => q_callp (g6) k_) ?_
      refine Dp (fun _ => q_mv (s := .v (.c _)) ⟨rfl, rfl⟩) ?_
      refine Dp (fun _ => q_ncp ⟨rfl, rfl⟩) ?_
      refine Dp (fun _ => q_fap ⟨rfl, rfl⟩) ?_
      refine DLa (xs := u64s (el s.c))  ?_ (hc := rfl)
      refine Dp (fun _ => q_mv (s := .v (.c _)) ⟨rfl, rfl⟩) ?_
      refine Dp (fun _ => q_ncp ⟨rfl, rfl⟩) ?_
      refine Dp (fun _ => q_fap ⟨rfl, rfl⟩) ?_
      refine DLa (xs := u64s (el s.d))  ?_ (hc := rfl)
      refine DLw ?_
      refine De2 (fun _ k_ => q_al k_) ?_
      refine De2 (fun _ k_ => q_al k_) ?_
      refine De2 (fun _ k_ => q_callp (Fd.sub_e s.c s.d) k_) ?_
      refine De2 (fun _ k_ => q_callp (g7) k_) ?_
      refine De20 (fun _ k_ => q_stw k_) ?_
      refine De20 (fun _ k_ => q_stw k_) ?_
      refine dend ?_
      exact sle_sub ⟨rfl, rfl, rfl, rfl, rfl, rfl, rfl, trivial⟩ rfl
    · refine Dp (fun _ => q_mv (s := .v (.c _)) ⟨rfl, rfl⟩) ?_
      refine Dp (fun _ => q_ncp ⟨rfl, rfl⟩) ?_
      refine Dp (fun _ => q_fap ⟨rfl, rfl⟩) ?_
      refine DLa (xs := u64s (el s.c))  ?_ (hc := rfl)
      refine Dp (fun _ => q_mv (s := .v (.c _)) ⟨rfl, rfl⟩) ?_
      refine Dp (fun _ => q_ncp ⟨rfl, rfl⟩) ?_
      refine Dp (fun _ => q_fap ⟨rfl, rfl⟩) ?_
      refine DLa (xs := u64s (el s.d))  ?_ (hc := rfl)
      refine De2 (fun _ k_ => q_callp (Fd.add_e s.c s.d) k_) ?_
      refine DLw ?_
      refine De2 (fun _ k_ => q_callp (g6) k_) ?_
      refine Dp (fun _ => q_mv (s := .v (.c _)) ⟨rfl, rfl⟩) ?_
      refine Dp (fun _ => q_ncp ⟨rfl, rfl⟩) ?_
      refine Dp (fun _ => q_fap ⟨rfl, rfl⟩) ?_
      refine DLa (xs := u64s (el s.c))  ?_ (hc := rfl)
      refine Dp (fun _ => q_mv (s := .v (.c _)) ⟨rfl, rfl⟩) ?_
      refine Dp (fun _ => q_ncp ⟨rfl, rfl⟩) ?_
      refine Dp (fun _ => q_fap ⟨rfl, rfl⟩) ?_
      refine DLa (xs := u64s (el s.d))  ?_ (hc := rfl)
      refine DLw ?_
      refine De2 (fun _ k_ => q_al k_) ?_
      refine De2 (fun _ k_ => q_callp (Fd.sub_e s.c s.d) k_) ?_
      refine De2 (fun _ k_ => q_callp (g7) k_) ?_
      refine De2 (fun _ k_ => q_al k_) ?_
      refine De20 (fun _ k_ => q_stw k_) ?_
      refine De20 (fun _ k_ => q_stw k_) ?_
      refine dend ?_
      exact sle_view [0, 1, 2, 3, 4, 5, 6, 8, 7] pi1 (by decide) ⟨rfl, rfl, rfl, rfl, rfl, rfl, rfl, trivial⟩ (Eq.symm (pl1 rfl sees_m (pl1 rfl sees_m (pl1 rfl sees_m (pl1 rfl sees_m (pl1 rfl sees_m (pl1 rfl sees_m (pl1 rfl sees_m (pl1 rfl sees_m (pl1 rfl sees_m pl0))))))))))
    · refine Dp (fun _ => q_mv (s := .v (.c _)) ⟨rfl, rfl⟩) ?_
      refine Dp (fun _ => q_ncp ⟨rfl, rfl⟩) ?_
      refine Dp (fun _ => q_fap ⟨rfl, rfl⟩) ?_
      refine DLa (xs := u64s (el s.c))  ?_ (hc := rfl)
      refine Dp (fun _ => q_mv (s := .v (.c _)) ⟨rfl, rfl⟩) ?_
      refine Dp (fun _ => q_ncp ⟨rfl, rfl⟩) ?_
      refine Dp (fun _ => q_fap ⟨rfl, rfl⟩) ?_
      refine DLa (xs := u64s (el s.d))  ?_ (hc := rfl)
      refine De2 (fun _ k_ => q_callp (Fd.add_e s.c s.d) k_) ?_
      refine DLw ?_
      refine De2 (fun _ k_ => q_callp (g6) k_) ?_
      refine Dp (fun _ => q_mv (s := .v (.c _)) ⟨rfl, rfl⟩) ?_
      refine Dp (fun _ => q_ncp ⟨rfl, rfl⟩) ?_
      refine Dp (fun _ => q_fap ⟨rfl, rfl⟩) ?_
      refine DLa (xs := u64s (el s.c))  ?_ (hc := rfl)
      refine Dp (fun _ => q_mv (s := .v (.c _)) ⟨rfl, rfl⟩) ?_
      refine Dp (fun _ => q_ncp ⟨rfl, rfl⟩) ?_
      refine Dp (fun _ => q_fap ⟨rfl, rfl⟩) ?_
      refine DLa (xs := u64s (el s.d))  ?_ (hc := rfl)
      refine DLw ?_
      refine De2 (fun _ k_ => q_al k_) ?_
      refine De2 (fun _ k_ => q_callp (Fd.sub_e s.c s.d) k_) ?_
      refine De2 (fun _ k_ => q_al k_) ?_
      refine De2 (fun _ k_ => q_callp (g7) k_) ?_
      refine De20 (fun _ k_ => q_stw k_) ?_
      refine De20 (fun _ k_ => q_stw k_) ?_
      refine dend ?_
      exact sle_view [0, 1, 2, 3, 4, 5, 6, 8, 7] pi1 (by decide) ⟨rfl, rfl, rfl, rfl, rfl, rfl, rfl, trivial⟩ (Eq.symm (pl1 rfl sees_m (pl1 rfl sees_m (pl1 rfl sees_m (pl1 rfl sees_m (pl1 rfl sees_m (pl1 rfl sees_m (pl1 rfl sees_m (pl1 rfl sees_m (pl1 rfl sees_m pl0))))))))))
    · refine Dp (fun _ => q_mv (s := .v (.c _)) ⟨rfl, rfl⟩) ?_
      refine Dp (fun _ => q_ncp ⟨rfl, rfl⟩) ?_
      refine Dp (fun _ => q_fap ⟨rfl, rfl⟩) ?_
      refine DLa (xs := u64s (el s.c))  ?_ (hc := rfl)
      refine Dp (fun _ => q_mv (s := .v (.c _)) ⟨rfl, rfl⟩) ?_
      refine Dp (fun _ => q_ncp ⟨rfl, rfl⟩) ?_
      refine Dp (fun _ => q_fap ⟨rfl, rfl⟩) ?_
      refine DLa (xs := u64s (el s.d))  ?_ (hc := rfl)
      refine De2 (fun _ k_ => q_callp (Fd.add_e s.c s.d) k_) ?_
      refine DLw ?_
      refine De2 (fun _ k_ => q_callp (g6) k_) ?_
      refine Dp (fun _ => q_mv (s := .v (.c _)) ⟨rfl, rfl⟩) ?_
      refine Dp (fun _ => q_ncp ⟨rfl, rfl⟩) ?_
      refine Dp (fun _ => q_fap ⟨rfl, rfl⟩) ?_
      refine DLa (xs := u64s (el s.c))  ?_ (hc := rfl)
      refine Dp (fun _ => q_mv (s := .v (.c _)) ⟨rfl, rfl⟩) ?_
      refine Dp (fun _ => q_ncp ⟨rfl, rfl⟩) ?_
      refine Dp (fun _ => q_fap ⟨rfl, rfl⟩) ?_
      refine DLa (xs := u64s (el s.d))  ?_ (hc := rfl)
      refine DLw ?_
      refine De2 (fun _ k_ => q_al k_) ?_
      refine De2 (fun _ k_ => q_al k_) ?_
      refine De2 (fun _ k_ => q_callp (Fd.sub_e s.c s.d) k_) ?_
      refine De2 (fun _ k_ => q_callp (g7) k_) ?_
      refine De20 (fun _ k_ => q_stw k_) ?_
      refine De20 (fun _ k_ => q_stw k_) ?_
      refine dend ?_
      exact sle_view [0, 1, 2, 3, 4, 5, 6, 8, 7] pi1 (by decide) ⟨rfl, rfl, rfl, rfl, rfl, rfl, rfl, trivial⟩ (Eq.symm (pl1 rfl sees_m (pl1 rfl sees_m (pl1 rfl sees_m (pl1 rfl sees_m (pl1 rfl sees_m (pl1 rfl sees_m (pl1 rfl sees_m (pl1 rfl sees_m (pl1 rfl sees_m pl0))))))))))
    · refine Dp (fun _ => q_mv (s := .v (.c _)) ⟨rfl, rfl⟩) ?_
      refine Dp (fun _ => q_ncp ⟨rfl, rfl⟩) ?_
      refine Dp (fun _ => q_fap ⟨rfl, rfl⟩) ?_
      refine DLa (xs := u64s (el s.c))  ?_ (hc := rfl)
      refine Dp (fun _ => q_mv (s := .v (.c _)) ⟨rfl, rfl⟩) ?_
      refine Dp (fun _ => q_ncp ⟨rfl, rfl⟩) ?_
      refine Dp (fun _ => q_fap ⟨rfl, rfl⟩) ?_
      refine DLa (xs := u64s (el s.d))  ?_ (hc := rfl)
      refine De2 (fun _ k_ => q_callp (Fd.add_e s.c s.d) k_) ?_
      refine DLw ?_
      refine Dp (fun _ => q_mv (s := .v (.c _)) ⟨rfl, rfl⟩) ?_
      refine Dp (fun _ => q_ncp ⟨rfl, rfl⟩) ?_
      refine Dp (fun _ => q_fap ⟨rfl, rfl⟩) ?_
      refine DLa (xs := u64s (el s.c))  ?_ (hc := rfl)
      refine Dp (fun _ => q_mv (s := .v (.c _)) ⟨rfl, rfl⟩) ?_
      refine Dp (fun _ => q_ncp ⟨rfl, rfl⟩) ?_
      refine Dp (fun _ => q_fap ⟨rfl, rfl⟩) ?_
      refine DLa (xs := u64s (el s.d))  ?_ (hc := rfl)
      refine DLw ?_
      refine De2 (fun _ k_ => q_al k_) ?_
      refine De2 (fun _ k_ => q_callp (g6) k_) ?_
      refine De2 (fun _ k_ => q_callp (Fd.sub_e s.c s.d) k_) ?_
      refine De2 (fun _ k_ => q_callp (g7) k_) ?_
      refine De2 (fun _ k_ => q_al k_) ?_
      refine De20 (fun _ k_ => q_stw k_) ?_
      refine De20 (fun _ k_ => q_stw k_) ?_
      refine dend ?_
      exact sle_sub ⟨rfl, rfl, rfl, rfl, rfl, rfl, rfl, trivial⟩ rfl
    · refine Dp (fun _ => q_mv (s := .v (.c _)) ⟨rfl, rfl⟩) ?_
      refine Dp (fun _ => q_ncp ⟨rfl, rfl⟩) ?_
      refine Dp (fun _ => q_fap ⟨rfl, rfl⟩) ?_
      refine DLa (xs := u64s (el s.c))  ?_ (hc := rfl)
      refine Dp (fun _ => q_mv (s := .v (.c _)) ⟨rfl, rfl⟩) ?_
      refine Dp (fun _ => q_ncp ⟨rfl, rfl⟩) ?_
      refine Dp (fun _ => q_fap ⟨rfl, rfl⟩) ?_
      refine DLa (xs := u64s (el s.d))  ?_ (hc := rfl)
      refine De2 (fun _ k_ => q_callp (Fd.add_e s.c s.d) k_) ?_
      refine DLw ?_
      refine Dp (fun _ => q_mv (s := .v (.c _)) ⟨rfl, rfl⟩) ?_
      refine Dp (fun _ => q_ncp ⟨rfl, rfl⟩) ?_
      refine Dp (fun _ => q_fap ⟨rfl, rfl⟩) ?_
      refine DLa (xs := u64s (el s.c))  ?_ (hc := rfl)
      refine Dp (fun _ => q_mv (s := .v (.c _)) ⟨rfl, rfl⟩) ?_
      refine Dp (fun _ => q_ncp ⟨rfl, rfl⟩) ?_
      refine Dp (fun _ => q_fap ⟨rfl, rfl⟩) ?_
      refine DLa (xs := u64s (el s.d))  ?_ (hc := rfl)
      refine DLw ?_
      refine De2 (fun _ k_ => q_al k_) ?_
      refine De2 (fun _ k_ => q_callp (g6) k_) ?_
      refine De2 (fun _ k_ => q_callp (Fd.sub_e s.c s.d) k_) ?_
      refine De2 (fun _ k_ => q_al k_) ?_
      refine De2 (fun _ k_ => q_callp (g7) k_) ?_
      refine De20 (fun _ k_ => q_stw k_) ?_
      refine De20 (fun _ k_ => q_stw k_) ?_
      refine dend ?_
      exact sle_sub ⟨rfl, rfl, rfl, rfl, rfl, rfl, rfl, trivial⟩ rfl
    · refine Dp (fun _ => q_mv (s := .v (.c _)) ⟨rfl, rfl⟩) ?_
      refine Dp (fun _ => q_ncp ⟨rfl, rfl⟩) ?_
      refine Dp (fun _ => q_fap ⟨rfl, rfl⟩) ?_
      refine DLa (xs := u64s (el s.c))  ?_ (hc := rfl)
      refine Dp (fun _ => q_mv (s := .v (.c _)) ⟨rfl, rfl⟩) ?_
      refine Dp (fun _ => q_ncp ⟨rfl, rfl⟩) ?_
      refine Dp (fun _ => q_fap ⟨rfl, rfl⟩) ?_
      refine DLa (xs := u64s (el s.d))  ?_ (hc := rfl)
      refine De2 (fun _ k_ => q_callp (Fd.add_e s.c s.d) k_) ?_
      refine DLw ?_
      refine Dp (fun _ => q_mv (s := .v (.c _)) ⟨rfl, rfl⟩) ?_
      refine Dp (fun _ => q_ncp ⟨rfl, rfl⟩) ?_
      refine Dp (fun _ => q_fap ⟨rfl, rfl⟩) ?_
      refine DLa (xs := u64s (el s.c))  ?_ (hc := rfl)
      refine Dp (fun _ => q_mv (s := .v (.c _)) ⟨rfl, rfl⟩) ?_
      refine Dp (fun _ => q_ncp ⟨rfl, rfl⟩) ?_
      refine Dp (fun _ => q_fap ⟨rfl, rfl⟩) ?_
      refine DLa (xs := u64s (el s.d))  ?_ (hc := rfl)
      refine DLw ?_
      refine De2 (fun _ k_ => q_al k_) ?_
      refine De2 (fun _ k_ => q_callp (g6) k_) ?_
      refine De2 (fun _ k_ => q_al k_) ?_
      refine De2 (fun _ k_ => q_callp (Fd.sub_e s.c s.d) k_) ?_
      refine De2 (fun _ k_ => q_callp (g7) k_) ?_
      refine De20 (fun _ k_ => q_stw k_) ?_
      refine De20 (fun _ k_ => q_stw k_) ?_
      refine dend ?_
      exact sle_sub ⟨rfl, rfl, rfl, rfl, rfl, rfl, rfl, trivial⟩ rfl
    · refine Dp (fun _ => q_mv (s := .v (.c _)) ⟨rfl, rfl⟩) ?_
      refine Dp (fun _ => q_ncp ⟨rfl, rfl⟩) ?_
      refine Dp (fun _ => q_fap ⟨rfl, rfl⟩) ?_
      refine DLa (xs := u64s (el s.c))  ?_ (hc := rfl)
      refine Dp (fun _ => q_mv (s := .v (.c _)) ⟨rfl, rfl⟩) ?_
      refine Dp (fun _ => q_ncp ⟨rfl, rfl⟩) ?_
      refine Dp (fun _ => q_fap ⟨rfl, rfl⟩) ?_
      refine DLa (xs := u64s (el s.d))  ?_ (hc := rfl)
      refine De2 (fun _ k_ => q_callp (Fd.add_e s.c s.d) k_) ?_
      refine DLw ?_
      refine Dp (fun _ => q_mv (s := .v (.c _)) ⟨rfl, rfl⟩) ?_
      refine Dp (fun _ => q_ncp ⟨rfl, rfl⟩) ?_
      refine Dp (fun _ => q_fap ⟨rfl, rfl⟩) ?_
      refine DLa (xs := u64s (el s.c))  ?_ (hc := rfl)
      refine Dp (fun _ => q_mv (s := .v (.c _)) ⟨rfl, rfl⟩) ?_
      refine Dp (fun _ => q_ncp ⟨rfl, rfl⟩) ?_
      refine Dp (fun _ => q_fap ⟨rfl, rfl⟩) ?_
      refine DLa (xs := u64s (el s.d))  ?_ (hc := rfl)
      refine DLw ?_
      refine De2 (fun _ k_ => q_al k_) ?_
      refine De2 (fun _ k_ => q_al k_) ?_
      refine De2 (fun _ k_ => q_callp (g6) k_) ?_
      refine De2 (fun _ k_ => q_callp (Fd.sub_e s.c s.d) k_) ?_
      refine De2 (fun _ k_ => q_callp (g7) k_) ?_
      refine De20 (fun _ k_ => q_stw k_) ?_
      refine De20 (fun _ k_ => q_stw k_) ?_
      refine dend ?_
      exact sle_sub ⟨rfl, rfl, rfl, rfl, rfl, rfl, rfl, trivial⟩ rfl
    · refine Dp (fun _ => q_mv (s := .v (.c _)) ⟨rfl, rfl⟩) ?_
      refine Dp (fun _ => q_ncp ⟨rfl, rfl⟩) ?_
      refine Dp (fun _ => q_fap ⟨rfl, rfl⟩) ?_
      refine DLa (xs := u64s (el s.c))  ?_ (hc := rfl)
      refine Dp (fun _ => q_mv (s := .v (.c _)) ⟨rfl, rfl⟩) ?_
      refine Dp (fun _ => q_ncp ⟨rfl, rfl⟩) ?_
      refine Dp (fun _ => q_fap ⟨rfl, rfl⟩) ?_
      refine DLa (xs := u64s (el s.d))  ?_ (hc := rfl)
      refine De2 (fun _ k_ => q_callp (Fd.add_e s.c s.d) k_) ?_
      refine DLw ?_
      refine Dp (fun _ => q_mv (s := .v (.c _)) ⟨rfl, rfl⟩) ?_
      refine Dp (fun _ => q_ncp ⟨rfl, rfl⟩) ?_
      refine Dp (fun _ => q_fap ⟨rfl, rfl⟩) ?_
      refine DLa (xs := u64s (el s.c))  ?_ (hc := rfl)
      refine Dp (fun _ => q_mv (s := .v (.c _)) ⟨rfl, rfl⟩) ?_
      refine Dp (fun _ => q_ncp ⟨rfl, rfl⟩) ?_
      refine Dp (fun _ => q_fap ⟨rfl, rfl⟩) ?_
      refine DLa (xs := u64s (el s.d))  ?_ (hc := rfl)
      refine DLw ?_
      refine De2 (fun _ k_ => q_al k_) ?_
      refine De2 (fun _ k_ => q_callp (g6) k_) ?_
      refine De2 (fun _ k_ => q_callp (Fd.sub_e s.c s.d) k_) ?_
      refine De2 (fun _ k_ => q_callp (g7) k_) ?_
      refine De2 (fun _ k_ => q_al k_) ?_
      refine De20 (fun _ k_ => q_stw k_) ?_
      refine De20 (fun _ k_ => q_stw k_) ?_
      refine dend ?_
      exact sle_view [0, 1, 2, 3, 4, 5, 6, 8, 7] pi1 (by decide) ⟨rfl, rfl, rfl, rfl, rfl, rfl, rfl, trivial⟩ (Eq.symm (pl1 rfl sees_m (pl1 rfl sees_m (pl1 rfl sees_m (pl1 rfl sees_m (pl1 rfl sees_m (pl1 rfl sees_m (pl1 rfl sees_m (pl1 rfl sees_m (pl1 rfl sees_m pl0))))))))))
    · refine Dp (fun _ => q_mv (s := .v (.c _)) ⟨rfl, rfl⟩) ?_
      refine Dp (fun _ => q_ncp ⟨rfl, rfl⟩) ?_
      refine Dp (fun _ => q_fap ⟨rfl, rfl⟩) ?_
      refine DLa (xs := u64s (el s.c))  ?_ (hc := rfl)
      refine Dp (fun _ => q_mv (s := .v (.c _)) ⟨rfl, rfl⟩) ?_
      refine Dp (fun _ => q_ncp ⟨rfl, rfl⟩) ?_
      refine Dp (fun _ => q_fap ⟨rfl, rfl⟩) ?_
      refine DLa (xs := u64s (el s.d))  ?_ (hc := rfl)
      refine De2 (fun _ k_ => q_callp (Fd.add_e s.c s.d) k_) ?_
      refine DLw ?_
      refine Dp (fun _ => q_mv (s := .v (.c _)) ⟨rfl, rfl⟩) ?_
      refine Dp (fun _ => q_ncp ⟨rfl, rfl⟩) ?_
      refine Dp (fun _ => q_fap ⟨rfl, rfl⟩) ?_
      refine DLa (xs := u64s (el s.c))  ?_ (hc := rfl)
      refine Dp (fun _ => q_mv (s := .v (.c _)) ⟨rfl, rfl⟩) ?_
      refine Dp (fun _ => q_ncp ⟨rfl, rfl⟩) ?_
      refine Dp (fun _ => q_fap ⟨rfl, rfl⟩) ?_
      refine DLa (xs := u64s (el s.d))  ?_ (hc := rfl)
      refine DLw ?_
      refine De2 (fun _ k_ => q_al k_) ?_
      refine De2 (fun _ k_ => q_callp (g6) k_) ?_
      refine De2 (fun _ k_ => q_callp (Fd.sub_e s.c s.d) k_) ?_
      refine De2 (fun _ k_ => q_al k_) ?_
      refine De2 (fun _ k_ => q_callp (g7) k_) ?_
      refine De20 (fun _ k_ => q_stw k_) ?_
      refine De20 (fun _ k_ => q_stw k_) ?_
      refine dend ?_
      exact sle_view [0, 1, 2, 3, 4, 5, 6, 8, 7] pi1 (by decide) ⟨rfl, rfl, rfl, rfl, rfl, rfl, rfl, trivial⟩ (Eq.symm (pl1 rfl sees_m (pl1 rfl sees_m (pl1 rfl sees_m (pl1 rfl sees_m (pl1 rfl sees_m (pl1 rfl sees_m (pl1 rfl sees_m (pl1 rfl sees_m (pl1 rfl sees_m pl0))))))))))
    · refine Dp (fun _ => q_mv (s := .v (.c _)) ⟨rfl, rfl⟩) ?_
      refine Dp (fun _ => q_ncp ⟨rfl, rfl⟩) ?_
      refine Dp (fun _ => q_fap ⟨rfl, rfl⟩) ?_
      refine DLa (xs := u64s (el s.c))  ?_ (hc := rfl)
      refine Dp (fun _ => q_mv (s := .v (.c _)) ⟨rfl, rfl⟩) ?_
      refine Dp (fun _ => q_ncp ⟨rfl, rfl⟩) ?_
      refine Dp (fun _ => q_fap ⟨rfl, rfl⟩) ?_
      refine DLa (xs := u64s (el s.d))  ?_ (hc := rfl)
      refine De2 (fun _ k_ => q_callp (Fd.add_e s.c s.d) k_) ?_
      refine DLw ?_
      refine Dp (fun _ => q_mv (s := .v (.c _)) ⟨rfl, rfl⟩) ?_
      refine Dp (fun _ => q_ncp ⟨rfl, rfl⟩) ?_
      refine Dp (fun _ => q_fap ⟨rfl, rfl⟩) ?_
      refine DLa (xs := u64s (el s.c))  ?_ (hc := rfl)
      refine Dp (fun _ => q_mv (s := .v (.c _)) ⟨rfl, rfl⟩) ?_
      refine Dp (fun _ => q_ncp ⟨rfl, rfl⟩) ?_
      refine Dp (fun _ => q_fap ⟨rfl, rfl⟩) ?_
      refine DLa (xs := u64s (el s.d))  ?_ (hc := rfl)
      refine DLw ?_
      refine De2 (fun _ k_ => q_al k_) ?_
      refine De2 (fun _ k_ => q_callp (g6) k_) ?_
      refine De2 (fun _ k_ => q_al k_) ?_
      refine De2 (fun _ k_ => q_callp (Fd.sub_e s.c s.d) k_) ?_
      refine De2 (fun _ k_ => q_callp (g7) k_) ?_
      refine De20 (fun _ k_ => q_stw k_) ?_
      refine De20 (fun _ k_ => q_stw k_) ?_
      refine dend ?_
      exact sle_view [0, 1, 2, 3, 4, 5, 6, 8, 7] pi1 (by decide) ⟨rfl, rfl, rfl, rfl, rfl, rfl, rfl, trivial⟩ (Eq.symm (pl1 rfl sees_m (pl1 rfl sees_m (pl1 rfl sees_m (pl1 rfl sees_m (pl1 rfl sees_m (pl1 rfl sees_m (pl1 rfl sees_m (pl1 rfl sees_m (pl1 rfl sees_m pl0))))))))))
    · refine Dp (fun _ => q_mv (s := .v (.c _)) ⟨rfl, rfl⟩) ?_
      refine Dp (fun _ => q_ncp ⟨rfl, rfl⟩) ?_
      refine Dp (fun _ => q_fap ⟨rfl, rfl⟩) ?_
      refine DLa (xs := u64s (el s.c))  ?_ (hc := rfl)
      refine Dp (fun _ => q_mv (s := .v (.c _)) ⟨rfl, rfl⟩) ?_
      refine Dp (fun _ => q_ncp ⟨rfl, rfl⟩) ?_
      refine Dp (fun _ => q_fap ⟨rfl, rfl⟩) ?_
      refine DLa (xs := u64s (el s.d))  ?_ (hc := rfl)
      refine De2 (fun _ k_ => q_callp (Fd.add_e s.c s.d) k_) ?_
      refine DLw ?_
      refine Dp (fun _ => q_mv (s := .v (.c _)) ⟨rfl, rfl⟩) ?_
      refine Dp (fun _ => q_ncp ⟨rfl, rfl⟩) ?_
      refine Dp (fun _ => q_fap ⟨rfl, rfl⟩) ?_
      refine DLa (xs := u64s (el s.c))  ?_ (hc := rfl)
      refine Dp (fun _ => q_mv (s := .v (.c _)) ⟨rfl, rfl⟩) ?_
      refine Dp (fun _ => q_ncp ⟨rfl, rfl⟩) ?_
      refine Dp (fun _ => q_fap ⟨rfl, rfl⟩) ?_
      refine DLa (xs := u64s (el s.d))  ?_ (hc := rfl)
      refine DLw ?_
      refine De2 (fun _ k_ => q_al k_) ?_
      refine De2 (fun _ k_ => q_al k_) ?_
      refine De2 (fun _ k_ => q_callp (g6) k_) ?_
      refine De2 (fun _ k_ => q_callp (Fd.sub_e s.c s.d) k_) ?_
      refine De2 (fun _ k_ => q_callp (g7) k_) ?_
      refine De20 (fun _ k_ => q_stw k_) ?_
      refine De20 (fun _ k_ => q_stw k_) ?_
      refine dend ?_
      exact sle_view [0, 1, 2, 3, 4, 5, 6, 8, 7] pi1 (by decide) ⟨rfl, rfl, rfl, rfl, rfl, rfl, rfl, trivial⟩ (Eq.symm (pl1 rfl sees_m (pl1 rfl sees_m (pl1 rfl sees_m (pl1 rfl sees_m (pl1 rfl sees_m (pl1 rfl sees_m (pl1 rfl sees_m (pl1 rfl sees_m (pl1 rfl sees_m pl0))))))))))
    · refine Dp (fun _ => q_mv (s := .v (.c _)) ⟨rfl, rfl⟩) ?_
      refine Dp (fun _ => q_ncp ⟨rfl, rfl⟩) ?_
      refine Dp (fun _ => q_fap ⟨rfl, rfl⟩) ?_
      refine DLa (xs := u64s (el s.c))  ?_ (hc := rfl)
      refine Dp (fun _ => q_mv (s := .v (.c _)) ⟨rfl, rfl⟩) ?_
      refine Dp (fun _ => q_ncp ⟨rfl, rfl⟩) ?_
      refine Dp (fun _ => q_fap ⟨rfl, rfl⟩) ?_
      refine DLa (xs := u64s (el s.d))  ?_ (hc := rfl)
      refine DLw ?_
      refine Dp (fun _ => q_mv (s := .v (.c _)) ⟨rfl, rfl⟩) ?_
      refine Dp (fun _ => q_ncp ⟨rfl, rfl⟩) ?_
      refine Dp (fun _ => q_fap ⟨rfl, rfl⟩) ?_
      refine DLa (xs := u64s (el s.c))  ?_ (hc := rfl)
      refine Dp (fun _ => q_mv (s := .v (.c _)) ⟨rfl, rfl⟩) ?_
      refine Dp (fun _ => q_ncp ⟨rfl, rfl⟩) ?_
      refine Dp (fun _ => q_fap ⟨rfl, rfl⟩) ?_
      refine DLa (xs := u64s (el s.d))  ?_ (hc := rfl)
      refine DLw ?_
      refine De2 (fun _ k_ => q_al k_) ?_
      refine De2 (fun _ k_ => q_callp (Fd.add_e s.c s.d) k_) ?_
      refine De2 (fun _ k_ => q_callp (g6) k_) ?_
      refine De2 (fun _ k_ => q_callp (Fd.sub_e s.c s.d) k_) ?_
      refine De2 (fun _ k_ => q_callp (g7) k_) ?_
      refine De2 (fun _ k_ => q_al k_) ?_
      refine De20 (fun _ k_ => q_stw k_) ?_
      refine De20 (fun _ k_ => q_stw k_) ?_
      refine dend ?_
      exact sle_sub ⟨rfl, rfl, rfl, rfl, rfl, rfl, rfl, trivial⟩ rfl
    · refine Dp (fun _ => q_mv (s := .v (.c _)) ⟨rfl, rfl⟩) ?_
      refine Dp (fun _ => q_ncp ⟨rfl, rfl⟩) ?_
      refine Dp (fun _ => q_fap ⟨rfl, rfl⟩) ?_
      refine DLa (xs := u64s (el s.c))  ?_ (hc := rfl)
      refine Dp (fun _ => q_mv (s := .v (.c _)) ⟨rfl, rfl⟩) ?_
      refine Dp (fun _ => q_ncp ⟨rfl, rfl⟩) ?_
      refine Dp (fun _ => q_fap ⟨rfl, rfl⟩) ?_
      refine DLa (xs := u64s (el s.d))  ?_ (hc := rfl)
      refine DLw ?_
      refine Dp (fun _ => q_mv (s := .v (.c _)) ⟨rfl, rfl⟩) ?_
      refine Dp (fun _ => q_ncp ⟨rfl, rfl⟩) ?_
      refine Dp (fun _ => q_fap ⟨rfl, rfl⟩) ?_
      refine DLa (xs := u64s (el s.c))  ?_ (hc := rfl)
      refine Dp (fun _ => q_mv (s := .v (.c _)) ⟨rfl, rfl⟩) ?_
      refine Dp (fun _ => q_ncp ⟨rfl, rfl⟩) ?_
      refine Dp (fun _ => q_fap ⟨rfl, rfl⟩) ?_
      refine DLa (xs := u64s (el s.d))  ?_ (hc := rfl)
      refine DLw ?_
      refine De2 (fun _ k_ => q_al k_) ?_
      refine De2 (fun _ k_ => q_callp (Fd.add_e s.c s.d) k_) ?_
      refine De2 (fun _ k_ => q_callp (g6) k_) ?_
      refine De2 (fun _ k_ => q_callp (Fd.sub_e s.c s.d) k_) ?_
      refine De2 (fun _ k_ => q_al k_) ?_
      refine De2 (fun _ k_ => q_callp (g7) k_) ?_
      refine De20 (fun _ k_ => q_stw k_) ?_
      refine De20 (fun _ k_ => q_stw k_) ?_
      refine dend ?_
      exact sle_sub ⟨rfl, rfl, rfl, rfl, rfl, rfl, rfl, trivial⟩ rfl
    · refine Dp (fun _ => q_mv (s := .v (.c _)) ⟨rfl, rfl⟩) ?_
      refine Dp (fun _ => q_ncp ⟨rfl, rfl⟩) ?_
      refine Dp (fun _ => q_fap ⟨rfl, rfl⟩) ?_
      refine DLa (xs := u64s (el s.c))  ?_ (hc := rfl)
      refine Dp (fun _ => q_mv (s := .v (.c _)) ⟨rfl, rfl⟩) ?_
      refine Dp (fun _ => q_ncp ⟨rfl, rfl⟩) ?_
      refine Dp (fun _ => q_fap ⟨rfl, rfl⟩) ?_
      refine DLa (xs := u64s (el s.d))  ?_ (hc := rfl)
      refine DLw ?_
      refine Dp (fun _ => q_mv (s := .v (.c _)) ⟨rfl, rfl⟩) ?_
      refine Dp (fun _ => q_ncp ⟨rfl, rfl⟩) ?_
      refine Dp (fun _ => q_fap ⟨rfl, rfl⟩) ?_
      refine DLa (xs := u64s (el s.c))  ?_ (hc := rfl)
      refine Dp (fun _ => q_mv (s := .v (.c _)) ⟨rfl, rfl⟩) ?_
      refine Dp (fun _ => q_ncp ⟨rfl, rfl⟩) ?_
      refine Dp (fun _ => q_fap ⟨rfl, rfl⟩) ?_
      refine DLa (xs := u64s (el s.d))  ?_ (hc := rfl)
      refine DLw ?_
      refine De2 (fun _ k_ => q_al k_) ?_
      refine De2 (fun _ k_ => q_callp (Fd.add_e s.c s.d) k_) ?_
      refine De2 (fun _ k_ => q_callp (g6) k_) ?_
      refine De2 (fun _ k_ => q_al k_) ?_
      refine De2 (fun _ k_ => q_callp (Fd.sub_e s.c s.d) k_) ?_
      refine De2 (fun _ k_ => q_callp (g7) k_) ?_
      refine De20 (fun _ k_ => q_stw k_) ?_
      refine De20 (fun _ k_ => q_stw k_) ?_
      refine dend ?_
      exact sle_sub ⟨rfl, rfl, rfl, rfl, rfl, rfl, rfl, trivial⟩ rfl
    · refine Dp (fun _ => q_mv (s := .v (.c _)) ⟨rfl, rfl⟩) ?_
      refine Dp (fun _ => q_ncp ⟨rfl, rfl⟩) ?_
      refine Dp (fun _ => q_fap ⟨rfl, rfl⟩) ?_
      refine DLa (xs := u64s (el s.c))  ?_ (hc := rfl)
      refine Dp (fun _ => q_mv (s := .v (.c _)) ⟨rfl, rfl⟩) ?_
      refine Dp (fun _ => q_ncp ⟨rfl, rfl⟩) ?_
      refine Dp (fun _ => q_fap ⟨rfl, rfl⟩) ?_
      refine DLa (xs := u64s (el s.d))  ?_ (hc := rfl)
      refine DLw ?_
      refine Dp (fun _ => q_mv (s := .v (.c _)) ⟨rfl, rfl⟩) ?_
      refine Dp (fun _ => q_ncp ⟨rfl, rfl⟩) ?_
      refine Dp (fun _ => q_fap ⟨rfl, rfl⟩) ?_
      refine DLa (xs := u64s (el s.c))  ?_ (hc := rfl)
      refine Dp (fun _ => q_mv (s := .v (.c _)) ⟨rfl, rfl⟩) ?_
      refine Dp (fun _ => q_ncp ⟨rfl, rfl⟩) ?_
      refine Dp (fun _ => q_fap ⟨rfl, rfl⟩) ?_
      refine DLa (xs := u64s (el s.d))  ?_ (hc := rfl)
      refine DLw ?_
      refine De2 (fun _ k_ => q_al k_) ?_
      refine De2 (fun _ k_ => q_callp (Fd.add_e s.c s.d) k_) ?_
      refine De2 (fun _ k_ => q_al k_) ?_
      refine De2 (fun _ k_ => q_callp (g6) k_) ?_
      refine De2 (fun _ k_ => q_callp (Fd.sub_e s.c s.d) k_) ?_
      refine De2 (fun _ k_ => q_callp (g7) k_) ?_
      refine De20 (fun _ k_ => q_stw k_) ?_
      refine De20 (fun _ k_ => q_stw k_) ?_
      refine dend ?_
      exact sle_sub ⟨rfl, rfl, rfl, rfl, rfl, rfl, rfl, trivial⟩ rfl
    · refine Dp (fun _ => q_mv (s := .v (.c _)) ⟨rfl, rfl⟩) ?_
      refine Dp (fun _ => q_ncp ⟨rfl, rfl⟩) ?_
      refine Dp (fun _ => q_fap ⟨rfl, rfl⟩) ?_
      refine DLa (xs := u64s (el s.c))  ?_ (hc := rfl)
      refine Dp (fun _ => q_mv (s := .v (.c _)) ⟨rfl, rfl⟩) ?_
      refine Dp (fun _ => q_ncp ⟨rfl, rfl⟩) ?_
      refine Dp (fun _ => q_fap ⟨rfl, rfl⟩) ?_
      refine DLa (xs := u64s (el s.d))  ?_ (hc := rfl)
      refine DLw ?_
      refine Dp (fun _ => q_mv (s := .v (.c _)) ⟨rfl, rfl⟩) ?_
      refine Dp (fun _ => q_ncp ⟨rfl, rfl⟩) ?_
      refine Dp (fun _ => q_fap ⟨rfl, rfl⟩) ?_
      refine DLa (xs := u64s (el s.c))  ?_ (hc := rfl)
      refine Dp (fun _ => q_mv (s := .v (.c _)) ⟨rfl, rfl⟩) ?_
      refine Dp (fun _ => q_ncp ⟨rfl, rfl⟩) ?_
      refine Dp (fun _ => q_fap ⟨rfl, rfl⟩) ?_
      refine DLa (xs := u64s (el s.d))  ?_ (hc := rfl)
      refine DLw ?_
      refine De2 (fun _ k_ => q_al k_) ?_
      refine De2 (fun _ k_ => q_al k_) ?_
      refine De2 (fun _ k_ => q_callp (Fd.add_e s.c s.d) k_) ?_
      refine De2 (fun _ k_ => q_callp (g6) k_) ?_
      refine De2 (fun _ k_ => q_callp (Fd.sub_e s.c s.d) k_) ?_
      refine De2 (fun _ k_ => q_callp (g7) k_) ?_
      refine De20 (fun _ k_ => q_stw k_) ?_
      refine De20 (fun _ k_ => q_stw k_) ?_
      refine dend ?_
      exact sle_sub ⟨rfl, rfl, rfl, rfl, rfl, rfl, rfl, trivial⟩ rfl
    · refine Dp (fun _ => q_mv (s := .v (.c _)) ⟨rfl, rfl⟩) ?_
      refine Dp (fun _ => q_ncp ⟨rfl, rfl⟩) ?_
      refine Dp (fun _ => q_fap ⟨rfl, rfl⟩) ?_
      refine DLa (xs := u64s (el s.c))  ?_ (hc := rfl)
      refine Dp (fun _ => q_mv (s := .v (.c _)) ⟨rfl, rfl⟩) ?_
      refine Dp (fun _ => q_ncp ⟨rfl, rfl⟩) ?_
      refine Dp (fun _ => q_fap ⟨rfl, rfl⟩) ?_
      refine DLa (xs := u64s (el s.d))  ?_ (hc := rfl)
      refine DLw ?_
      refine Dp (fun _ => q_mv (s := .v (.c _)) ⟨rfl, rfl⟩) ?_
      refine Dp (fun _ => q_ncp ⟨rfl, rfl⟩) ?_
      refine Dp (fun _ => q_fap ⟨rfl, rfl⟩) ?_
      refine DLa (xs := u64s (el s.c))  ?_ (hc := rfl)
      refine Dp (fun _ => q_mv (s := .v (.c _)) ⟨rfl, rfl⟩) ?_
      refine Dp (fun _ => q_ncp ⟨rfl, rfl⟩) ?_
      refine Dp (fun _ => q_fap ⟨rfl, rfl⟩) ?_
      refine DLa (xs := u64s (el s.d))  ?_ (hc := rfl)
      refine DLw ?_
      refine De2 (fun _ k_ => q_al k_) ?_
      refine De2 (fun _ k_ => q_callp (Fd.add_e s.c s.d) k_) ?_
      refine De2 (fun _ k_ => q_callp (g6) k_) ?_
      refine De2 (fun _ k_ => q_callp (Fd.sub_e s.c s.d) k_) ?_
      refine De2 (fun _ k_ => q_callp (g7) k_) ?_
      refine De2 (fun _ k_ => q_al k_) ?_
      refine De20 (fun _ k_ => q_stw k_) ?_
      refine De20 (fun _ k_ => q_stw k_) ?_
      refine dend ?_
      exact sle_view [0, 1, 2, 3, 4, 5, 6, 8, 7] pi1 (by decide) ⟨rfl, rfl, rfl, rfl, rfl, rfl, rfl, trivial⟩ (Eq.symm (pl1 rfl sees_m (pl1 rfl sees_m (pl1 rfl sees_m (pl1 rfl sees_m (pl1 rfl sees_m (pl1 rfl sees_m (pl1 rfl sees_m (pl1 rfl sees_m (pl1 rfl sees_m pl0))))))))))
    · refine Dp (fun _ => q_mv (s := .v (.c _)) ⟨rfl, rfl⟩) ?_
      refine Dp (fun _ => q_ncp ⟨rfl, rfl⟩) ?_
      refine Dp (fun _ => q_fap ⟨rfl, rfl⟩) ?_
      refine DLa (xs := u64s (el s.c))  ?_ (hc := rfl)
      refine Dp (fun _ => q_mv (s := .v (.c _)) ⟨rfl, rfl⟩) ?_
      refine Dp (fun _ => q_ncp ⟨rfl, rfl⟩) ?_
      refine Dp (fun _ => q_fap ⟨rfl, rfl⟩) ?_
      refine DLa (xs := u64s (el s.d))  ?_ (hc := rfl)
      refine DLw ?_
      refine Dp (fun _ => q_mv (s := .v (.c _)) ⟨rfl, rfl⟩) ?_
      refine Dp (fun _ => q_ncp ⟨rfl, rfl⟩) ?_
      refine Dp (fun _ => q_fap ⟨rfl, rfl⟩) ?_
      refine DLa (xs := u64s (el s.c))  ?_ (hc := rfl)
      refine Dp (fun _ => q_mv (s := .v (.c _)) ⟨rfl, rfl⟩) ?_
      refine Dp (fun _ => q_ncp ⟨rfl, rfl⟩) ?_
      refine Dp (fun _ => q_fap ⟨rfl, rfl⟩) ?_
      refine DLa (xs := u64s (el s.d))  ?_ (hc := rfl)
      refine DLw ?_
      refine De2 (fun _ k_ => q_al k_) ?_
      refine De2 (fun _ k_ => q_callp (Fd.add_e s.c s.d) k_) ?_
      refine De2 (fun _ k_ => q_callp (g6) k_) ?_
      refine De2 (fun _ k_ => q_callp (Fd.sub_e s.c s.d) k_) ?_
      refine De2 (fun _ k_ => q_al k_) ?_
      refine De2 (fun _ k_ => q_callp (g7) k_) ?_
      refine De20 (fun _ k_ => q_stw k_) ?_
      refine De20 (fun _ k_ => q_stw k_) ?_
      refine dend ?_
      exact sle_view [0, 1, 2, 3, 4, 5, 6, 8, 7] pi1 (by decide) ⟨rfl, rfl, rfl, rfl, rfl, rfl, rfl, trivial⟩ (Eq.symm (pl1 rfl sees_m (pl1 rfl sees_m (pl1 rfl sees_m (pl1 rfl sees_m (pl1 rfl sees_m (pl1 rfl sees_m (pl1 rfl sees_m (pl1 rfl sees_m (pl1 rfl sees_m pl0))))))))))
    · refine Dp (fun _ => q_mv (s := .v (.c _)) ⟨rfl, rfl⟩) ?_
      refine Dp (fun _ => q_ncp ⟨rfl, rfl⟩) ?_
      refine Dp (fun _ => q_fap ⟨rfl, rfl⟩) ?_
      refine DLa (xs := u64s (el s.c))  ?_ (hc := rfl)
      refine Dp (fun _ => q_mv (s := .v (.c _)) ⟨rfl, rfl⟩) ?_
      refine Dp (fun _ => q_ncp ⟨rfl, rfl⟩) ?_
      refine Dp (fun _ => q_fap ⟨rfl, rfl⟩) ?_
      refine DLa (xs := u64s (el s.d))  ?_ (hc := rfl)
      refine DLw ?_
      refine Dp (fun _ => q_mv (s := .v (.c _)) ⟨rfl, rfl⟩) ?_
      refine Dp (fun _ => q_ncp ⟨rfl, rfl⟩) ?_
      refine Dp (fun _ => q_fap ⟨rfl, rfl⟩) ?_
      refine DLa (xs := u64s (el s.c))  ?_ (hc := rfl)
      refine Dp (fun _ => q_mv (s := .v (.c _)) ⟨rfl, rfl⟩) ?_
      refine Dp (fun _ => q_ncp ⟨rfl, rfl⟩) ?_
      refine Dp (fun _ => q_fap ⟨rfl, rfl⟩) ?_
      refine DLa (xs := u64s (el s.d))  ?_ (hc := rfl)
      refine DLw ?_
      refine De2 (fun _ k_ => q_al k_) ?_
      refine De2 (fun _ k_ => q_callp (Fd.add_e s.c s.d) k_) ?_
      refine De2 (fun _ k_ => q_callp (g6) k_) ?_
      refine De2 (fun _ k_ => q_al k_) ?_
      refine De2 (fun _ k_ => q_callp (Fd.sub_e s.c s.d) k_) ?_
      refine De2 (fun _ k_ => q_callp (g7) k_) ?_
      refine De20 (fun _ k_ => q_stw k_) ?_
      refine De20 (fun _ k_ => q_stw k_) ?_
      refine dend ?_
      exact sle_view [0, 1, 2, 3, 4, 5, 6, 8, 7] pi1 (by decide) ⟨rfl, rfl, rfl, rfl, rfl, rfl, rfl, trivial⟩ (Eq.symm (pl1 rfl sees_m (pl1 rfl sees_m (pl1 rfl sees_m (pl1 rfl sees_m (pl1 rfl sees_m (pl1 rfl sees_m (pl1 rfl sees_m (pl1 rfl sees_m (pl1 rfl sees_m pl0))))))))))
    · refine Dp (fun _ => q_mv (s := .v (.c _)) ⟨rfl, rfl⟩) ?_
      refine Dp (fun _ => q_ncp ⟨rfl, rfl⟩) ?_
      refine Dp (fun _ => q_fap ⟨rfl, rfl⟩) ?_
      refine DLa (xs := u64s (el s.c))  ?_ (hc := rfl)
      refine Dp (fun _ => q_mv (s := .v (.c _)) ⟨rfl, rfl⟩) ?_
      refine Dp (fun _ => q_ncp ⟨rfl, rfl⟩) ?_
      refine Dp (fun _ => q_fap ⟨rfl, rfl⟩) ?_
      refine DLa (xs := u64s (el s.d))  ?_ (hc := rfl)
      refine DLw ?_
      refine Dp (fun _ => q_mv (s := .v (.c _)) ⟨rfl, rfl⟩) ?_
      refine Dp (fun _ => q_ncp ⟨rfl, rfl⟩) ?_
      refine Dp (fun _ => q_fap ⟨rfl, rfl⟩) ?_
      refine DLa (xs := u64s (el s.c))  ?_ (hc := rfl)
      refine Dp (fun _ => q_mv (s := .v (.c _)) ⟨rfl, rfl⟩) ?_
      refine Dp (fun _ => q_ncp ⟨rfl, rfl⟩) ?_
      refine Dp (fun _ => q_fap ⟨rfl, rfl⟩) ?_
      refine DLa (xs := u64s (el s.d))  ?_ (hc := rfl)
      refine DLw ?_
      refine De2 (fun _ k_ => q_al k_) ?_
      refine De2 (fun _ k_ => q_callp (Fd.add_e s.c s.d) k_) ?_
      refine De2 (fun _ k_ => q_al k_) ?_
      refine De2 (fun _ k_ => q_callp (g6) k_) ?_
      refine De2 (fun _ k_ => q_callp (Fd.sub_e s.c s.d) k_) ?_
      refine De2 (fun _ k_ => q_callp (g7) k_) ?_
      refine De20 (fun _ k_ => q_stw k_) ?_
      refine De20 (fun _ k_ => q_stw k_) ?_
      refine dend ?_
      exact sle_view [0, 1, 2, 3, 4, 5, 6, 8, 7] pi1 (by decide) ⟨rfl, rfl, rfl, rfl, rfl, rfl, rfl, trivial⟩ (Eq.symm (pl1 rfl sees_m (pl1 rfl sees_m (pl1 rfl sees_m (pl1 rfl sees_m (pl1 rfl sees_m (pl1 rfl sees_m (pl1 rfl sees_m (pl1 rfl sees_m (pl1 rfl sees_m pl0))))))))))
    refine Dp (fun _ => q_mv (s := .v (.c _)) ⟨rfl, rfl⟩) ?_
    refine Dp (fun _ => q_ncp ⟨rfl, rfl⟩) ?_
    refine Dp (fun _ => q_fap ⟨rfl, rfl⟩) ?_
    refine DLa (xs := u64s (el s.c))  ?_ (hc := rfl)
    refine Dp (fun _ => q_mv (s := .v (.c _)) ⟨rfl, rfl⟩) ?_
    refine Dp (fun _ => q_ncp ⟨rfl, rfl⟩) ?_
    refine Dp (fun _ => q_fap ⟨rfl, rfl⟩) ?_
    refine DLa (xs := u64s (el s.d))  ?_ (hc := rfl)
    refine DLw ?_
    refine Dp (fun _ => q_mv (s := .v (.c _)) ⟨rfl, rfl⟩) ?_
    refine Dp (fun _ => q_ncp ⟨rfl, rfl⟩) ?_
    refine Dp (fun _ => q_fap ⟨rfl, rfl⟩) ?_
    refine DLa (xs := u64s (el s.c))  ?_ (hc := rfl)
    refine Dp (fun _ => q_mv (s := .v (.c _)) ⟨rfl, rfl⟩) ?_
    refine Dp (fun _ => q_ncp ⟨rfl, rfl⟩) ?_
    refine Dp (fun _ => q_fap ⟨rfl, rfl⟩) ?_
    refine DLa (xs := u64s (el s.d))  ?_ (hc := rfl)
    refine DLw ?_
    refine De2 (fun _ k_ => q_al k_) ?_
    refine De2 (fun _ k_ => q_al k_) ?_
    refine De2 (fun _ k_ => q_callp (Fd.add_e s.c s.d) k_) ?_
    refine De2 (fun _ k_ => q_callp (g6) k_) ?_
    refine De2 (fun _ k_ => q_callp (Fd.sub_e s.c s.d) k_) ?_
    refine De2 (fun _ k_ => q_callp (g7) k_) ?_
    refine De20 (fun _ k_ => q_stw k_) ?_
    refine De20 (fun _ k_ => q_stw k_) ?_
    refine dend ?_
    exact sle_view [0, 1, 2, 3, 4, 5, 6, 8, 7] pi1 (by decide) ⟨rfl, rfl, rfl, rfl, rfl, rfl, rfl, trivial⟩ (Eq.symm (pl1 rfl sees_m (pl1 rfl sees_m (pl1 rfl sees_m (pl1 rfl sees_m (pl1 rfl sees_m (pl1 rfl sees_m (pl1 rfl sees_m (pl1 rfl sees_m (pl1 rfl sees_m pl0))))))))))
  refine awp_mid ⟨frm 90 [(0, sc (.ptr 0 0)), (3, sc (.ptr 1 0)), (9, sc (.ptr 7 0)), (10, sc (.ptr 8 0))], [some (u64s (sl ⟨u * v, e * (u + 121665 * e), s.c, s.d⟩)), some (u64s (el x)), some (u64s (el sum)), some (u64s (el dif)), some (u64s (el u)), some (u64s (el v)), some (u64s (el e)), some (u64s (el mm)), some (u64s (el nn))]⟩ ?_ ?_
  · refine rdln [4, 7, 9, 10, 11, 14, 17] [0, 0, 0, 0, 0, 0, 0, 1, 0, 2, 3, 4, 5, 5, 5, 6, 6, 6] [5, 6, 0, 0, 1, 4, 3, 2, 2, 3, 4, 5, 5, 5, 6, 6, 6, 7] ?_
    refine Dp (fun _ => q_mv (s := .v (.c _)) ⟨rfl, rfl⟩) ?_
    refine Dp (fun _ => q_mv (s := .v (.c _)) ⟨rfl, rfl⟩) ?_
    refine DLw ?_
    refine DLw ?_
    refine De2 (fun _ k_ => q_callp (Fd.mul_e u v) k_) ?_
    refine DLw ?_
    refine DLw ?_
    refine De2 (fun _ k_ => q_callp (small_k) k_ (ha := (cac rfl cm_int ca0))) ?_
    refine DLw ?_
    refine De2 (fun _ k_ => q_callp (Fd.mul_e 121665 e) k_) ?_
    refine De2 (fun _ k_ => q_callp (Fd.add_e u (121665 * e)) k_) ?_
    refine De2 (fun _ k_ => q_callp (Fd.mul_e e (u + 121665 * e)) k_) ?_
    refine Dp (fun _ => q_ncp ⟨rfl, rfl⟩) ?_
    refine Dp (fun _ => q_fap ⟨rfl, rfl⟩) ?_
    refine De20 (fun _ k_ => q_sta k_) ?_
    refine Dp (fun _ => q_ncp ⟨rfl, rfl⟩) ?_
    refine Dp (fun _ => q_fap ⟨rfl, rfl⟩) ?_
    refine De20 (fun _ k_ => q_sta k_) ?_
    refine dend ?_
    exact sle_sub ⟨rfl, rfl, rfl, rfl, trivial⟩ rfl
  refine rdln [4, 5, 9, 10, 11, 14, 17] [0, 0, 0, 0, 0, 1, 0, 0, 0, 2, 3, 4, 5, 5, 5, 6, 6, 6] [5, 6, 0, 0, 1, 2, 4, 2, 2, 3, 4, 5, 5, 5, 6, 6, 6, 7] ?_
  refine Dp (fun _ => q_mv (s := .v (.c _)) ⟨rfl, rfl⟩) ?_
  refine Dp (fun _ => q_mv (s := .v (.c _)) ⟨rfl, rfl⟩) ?_
  refine DLw ?_
  refine DLw ?_
  refine De2 (fun _ k_ => q_callp (Fd.add_e mm nn) k_) ?_
  refine De2 (fun _ k_ => q_callp (square_e (mm + nn)) k_) ?_
  refine DLw ?_
  refine DLw ?_
  refine DLw ?_
  refine De2 (fun _ k_ => q_callp (Fd.sub_e mm nn) k_) ?_
  refine De2 (fun _ k_ => q_callp (square_e (mm - nn)) k_) ?_
  refine De2 (fun _ k_ => q_callp (Fd.mul_e x ((mm - nn) * (mm - nn))) k_) ?_
  refine Dp (fun _ => q_ncp ⟨rfl, rfl⟩) ?_
  refine Dp (fun _ => q_fap ⟨rfl, rfl⟩) ?_
  refine De20 (fun _ k_ => q_sta k_) ?_
  refine Dp (fun _ => q_ncp ⟨rfl, rfl⟩) ?_
  refine Dp (fun _ => q_fap ⟨rfl, rfl⟩) ?_
  refine De20 (fun _ k_ => q_sta k_) ?_
  refine dend ?_
  exact fx0 [0] (hH := rfl) (hn := pi1)
theorem sstep_ (s : Ls) (x : F) : Good Try.prog 26 [.c (.ptr 0 0), .a (u64s (el x))] [some (u64s (sl s))] (.t []) [some (u64s (sl (lstep x s)))] :=
  sstep_g s x _ _ _ _ _ _ _ rfl rfl rfl rfl rfl rfl rfl
end Go.Proofs.Ytlidpcjinillfaa.Ld

/- What functions of the program do, walked over the abstract machine. -/
namespace Go.Proofs.Ytlidpcjinillfaa.Ld
open Go Go.Abs Go.Proofs Go.Proofs.Ytlidpcjinillfaa.Fd Go.Proofs.Ytlidpcjinillfaa.Rn

open Go.Nt Fd
theorem st0 (X : F) : splice (splice (splice (u64s (List.replicate 16 0)) 0 (u64s (el 1))) 8 (u64s (el X))) 12 (u64s (el 1)) = u64s (sl ⟨1, 0, X, 1⟩) := by
  rw [show List.replicate 16 (0 : UInt64) = el 0 ++ (el 0 ++ (el 0 ++ el 0)) from rfl]
  rfl
set_option maxHeartbeats 1600000 in
/-- ladder.Mul -/
theorem lmul_ (k x : List UInt8) (hk : k.length = 32) (hx : x.length = 32) : Good Try.prog 9 [.a (u8s k), .a (u8s x)] [] (sa (u8s (bye (ladder (bv (clamp k)) (fb x))))) [] := by
  have hK : (clamp k).length = 32 := (clamp_len k).trans hk
  have gX := of_e x hx
  generalize fb x = X at gX ⊢
  refine good_frm 61 Try.func9 rfl rfl rfl rfl rfl rfl ?_
  refine awp_seq ?_
  refine rln ?_
  refine G2 (fun _ k_ => q_boxa k_) ?_
  refine G2 (fun _ k_ => q_boxa k_) ?_
  refine G2 (fun _ k_ => q_al k_) ?_
  refine gend ?_
  refine awp_seq ?_
  refine rln ?_
  refine G (q_ixp1 ?_)
  refine G (q_ldp ?_)
  refine G (q_andNot8 (y := 7) ?_)
  refine G (q_ixp1 ?_)
  refine G20 (fun _ k_ => q_stm k_) ?_
  refine gend ?_
  refine awp_seq ?_
  refine rln ?_
  refine G (q_ixp1 ?_)
  refine G (q_ldp ?_)
  refine G (q_and8 (y := 127) ?_)
  refine G (q_or8 (y := 64) ?_)
  refine G (q_ixp1 ?_)
  refine G20 (fun _ k_ => q_stm k_) ?_
  refine gend ?_
  refine awp_seq ?_
  refine rln ?_
  refine G (q_ldw ?_)
  refine G2 (fun _ k_ => q_callp (gX) k_) ?_
  refine G2 (fun _ k_ => q_al k_) ?_
  refine G20 (fun _ k_ => q_stw k_) ?_
  refine gend ?_
  refine awp_seq ?_
  refine rdln [0, 2, 4] [0, 0, 1, 2, 2, 3] [1, 2, 2, 2, 3, 3] ?_
  refine De2 (fun _ k_ => q_callp (small_1) k_ (ha := (cac rfl cm_int ca0))) ?_
  refine DLw  ?_
  refine De2 (fun _ k_ => q_callp (small_1) k_ (ha := (cac rfl cm_int ca0))) ?_
  refine Dp (fun _ => q_bls (fka rfl (et rfl) rfl (Nat.le_of_ble_eq_true rfl) (fka rfl (et rfl) rfl (Nat.le_of_ble_eq_true rfl) (fka rfl (et rfl) rfl (Nat.le_of_ble_eq_true rfl) (fk0 ⟨rfl, rfl⟩))))) ?_
  refine De2 (fun _ k_ => q_boxa k_) ?_
  refine Dp (fun _ => q_as (s := .v (.c _)) ⟨rfl, rfl⟩) ?_
  refine dend ?_
  refine awp_seq ?_
  refine awp_seq ?_
  refine rln ?_
  refine G (q_mv (s := sc (cn 0)) ?_)
  refine gend ?_
  refine awp_block ?_
  refine awp_loop (fun i : {i : Nat // i ≤ 255} => ⟨frm 61 [(2, sc (.ptr 0 0)), (4, sc (.ptr 2 0)), (5, sc (.ptr 3 0)), (6, sc (.ptr 4 0)), (26, sc (cn i.1))], [some (u8s (clamp k)), some (u8s x), some (u8s (List.replicate 32 0)), some (u64s (el X)), some (u64s (sl (lad (bv (clamp k)) X i.1)))]⟩) (fun i => 255 - i.1) ⟨0, Nat.zero_le _⟩ (sle_sub ⟨rfl, rfl, rfl, rfl, rfl, trivial⟩ (congrArg (fun z => [some (u8s (clamp k)), some (u8s x), some (u8s (List.replicate 32 0)), some (u64s (el X)), some z]) (st0 X))) fun i => ?_   -- live: [2, 5, 6, 26]
  refine awp_seq ?_
  refine rln ?_
  refine G (q_lssn (y := 255) ?_)
  refine gend ?_
  refine awp_seq ?_
  refine cnd (fun hc1 => ?_) (fun hc1 => ?_); rotate_left
  · refine awp_exit ?_
    rw [show i.1 = 255 from (by have := i.2; omega)]
    have hZ := by32_len (ladder (bv (clamp k)) X).val
    refine awp_seq ?_
    refine rdln [8, 9, 10, 11] [0, 0, 0, 0, 0, 0, 0, 0, 0, 1, 2, 3] [1, 1, 1, 1, 0, 0, 0, 0, 1, 2, 3, 4] ?_
    refine Dp (fun _ => q_mv (s := .v (.c _)) ⟨rfl, rfl⟩) ?_
    refine Dp (fun _ => q_ncp ⟨rfl, rfl⟩) ?_
    refine Dp (fun _ => q_fap0 ⟨rfl, rfl⟩) ?_
    refine DLa (xs := u64s (el (lad (bv (clamp k)) X 255).a))  ?_ (hc := rfl)
    refine Dp (fun _ => q_mv (s := .v (.c _)) ⟨rfl, rfl⟩) ?_
    refine Dp (fun _ => q_ncp ⟨rfl, rfl⟩) ?_
    refine Dp (fun _ => q_fap0 ⟨rfl, rfl⟩) ?_
    refine DLa (xs := u64s (el (lad (bv (clamp k)) X 255).b))  ?_ (hc := rfl)
    refine De2 (fun _ k_ => q_callp (inv_e _) k_) ?_
    refine De2 (fun _ k_ => q_callp (Fd.mul_e _ _) k_) ?_
    refine De2 (fun _ k_ => q_callp (bytes_e _) k_) ?_
    refine De20 (fun _ k_ => q_stw k_) ?_
    refine dend ?_
    refine awp_ret ?_
    exact fpc (t := 23) (a := 4) (hn := by exact (mapc_length ..).trans hZ)
  refine awp_skip ?_
  refine awp_seq ?_
  refine awp_block ?_
  refine awp_seq ?_
  refine rln ?_
  refine Mv ?_
  refine As ?_
  refine gend ?_
  refine awp_seq ?_
  refine rln ?_
  refine Mv ?_
  have tb := tbit (clamp k) (254 - i.1) (by omega)
  have hl1 : lad (bv (clamp k)) X (i.1 + 1) = lswap ((bv (clamp k)).testBit (254 - i.1)) (lstep X (lswap ((bv (clamp k)).testBit (254 - i.1)) (lad (bv (clamp k)) X i.1))) := rfl
  refine G (q_subn (x := 254) ?_)
  refine As ?_
  refine gend ?_
  refine awp_seq ?_
  refine rln ?_
  refine Mv ?_
  refine G (q_quon (y := 8) ?_)
  refine G (q_ixp1 ?_)
  refine G (q_ldp ?_)
  refine Mv ?_
  refine G (q_remn (y := 8) ?_)
  refine G (q_shr8_0 ?_)
  refine G (q_and8 (y := 1) ?_)
  refine G (q_eql8 (y := 1) ?_)
  refine As ?_
  refine gend ?_
  refine awp_seq ?_
  refine rln ?_
  refine Mv ?_
  refine Mv ?_
  refine G2 (fun _ k_ => q_callv [4] [some (u64s (sl (lswap (decide (shr8n ((clamp k).getD ((254 - i.1) / 8) 0) ((254 - i.1) % 8) &&& 1 = 1)) (lad (bv (clamp k)) X i.1))))] [] (sswap_ _ _) k_ (ha := (cac (et rfl) rfl (cac (et rfl) cm_bool ca0))) (e2 := pl1 rfl sees_m pl0) (eL := ml1 sees_m ml0) (eM := ml0)) ?_
  refine gend ?_
  refine awp_seq ?_
  refine rln ?_
  refine Mv ?_
  refine G (q_ldw ?_)
  refine G2 (fun _ k_ => q_callv [4] [some (u64s (sl (lstep X (lswap (decide (shr8n ((clamp k).getD ((254 - i.1) / 8) 0) ((254 - i.1) % 8) &&& 1 = 1)) (lad (bv (clamp k)) X i.1)))))] [] (sstep_ _ X) k_ (ha := (cac (et rfl) rfl (caa (et rfl) sees_m ca0))) (e2 := pl1 rfl sees_m pl0) (eL := ml1 sees_m ml0) (eM := ml0)) ?_
  refine gend ?_
  refine rln ?_
  refine Mv ?_
  refine Mv ?_
  refine G2 (fun _ k_ => q_callv [4] [some (u64s (sl (lswap (decide (shr8n ((clamp k).getD ((254 - i.1) / 8) 0) ((254 - i.1) % 8) &&& 1 = 1)) (lstep X (lswap (decide (shr8n ((clamp k).getD ((254 - i.1) / 8) 0) ((254 - i.1) % 8) &&& 1 = 1)) (lad (bv (clamp k)) X i.1))))))] [] (sswap_ _ _) k_ (ha := (cac (et rfl) rfl (cac (et rfl) cm_bool ca0))) (e2 := pl1 rfl sees_m pl0) (eL := ml1 sees_m ml0) (eM := ml0)) ?_
  refine gend ?_
  refine rln ?_
  refine G (q_addn (y := 1) ?_)
  refine Mv ?_
  refine gend ?_
  exact ⟨⟨i.1 + 1, by omega⟩, by show 255 - (i.1 + 1) < 255 - i.1; omega, sle_sub ⟨rfl, rfl, rfl, rfl, rfl, trivial⟩ (congrArg (fun z => [some (u8s (clamp k)), some (u8s x), some (u8s (List.replicate 32 0)), some (u64s (el X)), some (u64s (sl z))]) (by rw [tb]; exact hl1.symm))⟩   -- endloop 1
end Go.Proofs.Ytlidpcjinillfaa.Ld

/- What functions of the program do, walked over the abstract machine. -/
namespace Go.Proofs.Ytlidpcjinillfaa.Ld
open Go Go.Abs Go.Proofs Go.Proofs.Ytlidpcjinillfaa.Fd Go.Proofs.Ytlidpcjinillfaa.Rn

open Go.Nt Fd Rn
end Go.Proofs.Ytlidpcjinillfaa.Ld

/- The ladder over plain numbers, to be reckoned. -/
namespace Go.Nt

def stN (x : Nat) (s : Nat × Nat × Nat × Nat) : Nat × Nat × Nat × Nat :=
  let sum := (s.1 + s.2.1) % P
  let dif := (P - s.2.1 + s.1) % P
  let u := sum * sum % P
  let v := dif * dif % P
  let e := (P - v + u) % P
  let m := (s.2.2.1 + s.2.2.2) % P * dif % P
  let n := (P - s.2.2.2 + s.2.2.1) % P * sum % P
  (u * v % P, e * ((u + 121665 * e % P) % P) % P, (m + n) % P * ((m + n) % P) % P, x * ((P - n + m) % P * ((P - n + m) % P) % P) % P)
def swN (k : Bool) (s : Nat × Nat × Nat × Nat) : Nat × Nat × Nat × Nat := if k then (s.2.2.1, s.2.2.2, s.1, s.2.1) else s
def laN (k x : Nat) : Nat → Nat × Nat × Nat × Nat
  | 0 => (1, 0, x, 1)
  | i + 1 => swN (k.testBit (254 - i)) (stN x (swN (k.testBit (254 - i)) (laN k x i)))
def vals (s : Ls) : Nat × Nat × Nat × Nat := (s.a.val, s.b.val, s.c.val, s.d.val)
theorem stN_eq (x : F) (s : Ls) : stN x.val (vals s) = vals (lstep x s) := by
  obtain ⟨a, b, c, d⟩ := s
  simp only [stN, vals, lstep, Fin.val_add, Fin.val_mul, Fin.sub_def, show (121665 : F).val = 121665 from by decide]
theorem swN_eq (k : Bool) (s : Ls) : swN k (vals s) = vals (lswap k s) := by
  cases k <;> rfl
theorem laN_eq (k : Nat) (x : F) : ∀ i, laN k x.val i = vals (lad k x i)
  | 0 => by
    show (1, 0, x.val, 1) = ((1 : F).val, (0 : F).val, x.val, (1 : F).val)
    rw [show (1 : F).val = 1 from by decide, show (0 : F).val = 0 from by decide]
  | i + 1 => by rw [laN, laN_eq k x i, swN_eq, stN_eq, swN_eq]; rfl
def outN (k x : Nat) : Nat := (laN k x 255).1 * (pwm P (laN k x 255).2.1 256 (P - 2) % P) % P
theorem outN_eq (k : Nat) (x : F) : outN k x.val = (ladder k x).val := by
  unfold outN
  rw [laN_eq, show pwm P (vals (lad k x 255)).2.1 256 (P - 2) % P = (vals (lad k x 255)).2.1 ^ (P - 2) % P from pwm_spec P 256 _ _ (by decide)]
  unfold ladder lout inv
  rw [Fin.val_mul, pw_val]
  rfl
theorem twice_ne : ladder (2 ^ 254) (ladder (2 ^ 254) 9) ≠ 0 := by
  intro h
  have h1 := congrArg Fin.val h
  rw [← outN_eq, ← outN_eq, show (9 : F).val = 9 from by decide] at h1
  have h2 : decide (outN (2 ^ 254) (outN (2 ^ 254) 9) = 0) = false := by decide +kernel
  exact absurd h1 (of_decide_eq_false h2)
end Go.Nt

/- What functions of the program do, walked over the abstract machine. -/
namespace Go.Proofs.Ytlidpcjinillfaa.Ld
open Go Go.Abs Go.Proofs Go.Proofs.Ytlidpcjinillfaa.Fd Go.Proofs.Ytlidpcjinillfaa.Rn

open Go.Nt Fd Rn
theorem bz (z : F) : bye z = List.replicate 32 0 ↔ z = 0 := by
  rw [show List.replicate 32 (0 : UInt8) = bye 0 by decide +kernel]
  exact ⟨fun h => bye_inj h, fun h => h ▸ rfl⟩
theorem fb_nine : fb ((List.replicate 32 0).set 0 9) = 9 := by decide +kernel
theorem fb_zero : fb (List.replicate 32 0) = 0 := by decide +kernel
/-- What a secret makes of a public. -/
abbrev lx (k : List UInt8) (z : F) : F := ladder (bv (clamp k)) z
/-- ladder.Public -/
theorem public_ (k : List UInt8) (hk : k.length = 32) : Good Try.prog 11 [.a (u8s k)] [] (sa (u8s (bye (lx k 9)))) [] := by
  have g := lmul_ k ((List.replicate 32 0).set 0 9) hk (by decide)
  rw [fb_nine] at g
  have hl := by32_len (lx k 9).val
  refine good_frm 6 Try.func11 rfl rfl rfl rfl rfl rfl ?_
  refine awp_seq ?_
  refine rln ?_
  refine G2 (fun _ k_ => q_boxa k_) ?_
  refine G2 (fun _ k_ => q_al k_) ?_
  refine gend ?_
  refine awp_seq ?_
  refine rln ?_
  refine G (q_ldw ?_)
  refine G  (q_bla (fkc (c := c8 9) rfl rfl rfl (Nat.le_of_ble_eq_true rfl) (fk0 ?_)))
  rw [show (u8s (List.replicate 32 0)).set (0 * 1) (c8 9) = u8s ((List.replicate 32 0).set 0 9) from rfl]
  refine G2 (fun _ k_ => q_callp (g) k_) ?_
  refine G20 (fun _ k_ => q_stw k_) ?_
  refine gend ?_
  refine awp_ret ?_
  exact fpc (t := 23) (a := 2) (hn := by exact (mapc_length ..).trans hl)
/-- ladder.Shared -/
theorem shared_z (k x : List UInt8) (z : F) (hk : k.length = 32) (hx : x.length = 32) (hz : lx k (fb x) = z) (h : z = 0) : Good Try.prog 8 [.a (u8s k), .a (u8s x)] [] (.t [.a (u8s (bye z)), .c (cn 8)]) [] := by
  have g := lmul_ k x hk hx
  rw [show ladder (bv (clamp k)) (fb x) = z from hz] at g
  have hl := by32_len z.val
  refine good_frm 15 Try.func8 rfl rfl rfl rfl rfl rfl ?_
  refine awp_seq ?_
  refine rln ?_
  refine G2 (fun _ k_ => q_boxa k_) ?_
  refine G2 (fun _ k_ => q_boxa k_) ?_
  refine G2 (fun _ k_ => q_al k_) ?_
  refine G (q_as (s := sc (cn 0)) ?_)
  refine gend ?_
  refine awp_seq ?_
  refine rln ?_
  refine G (q_ldw ?_)
  refine G (q_ldw ?_)
  refine G2 (fun _ k_ => q_callp (g) k_) ?_
  refine G2 (fun _ k_ => q_al k_) ?_
  refine G20 (fun _ k_ => q_stw k_) ?_
  refine gend ?_
  refine awp_seq ?_
  refine awp_seq ?_
  refine rln ?_
  refine G (q_ldw ?_)
  refine G (q_bla (fk0 ?_))
  refine G (q_eqa8 ?_)
  refine gend ?_
  refine cndY (fun hc1 => ?_) ?_; rotate_left
  · exact (bz z).2 h
  refine awp_seq ?_
  refine rln ?_
  refine G (q_ldw ?_)
  refine G20 (fun _ k_ => q_stw k_) ?_
  refine G (q_as (s := sc (cn 8)) ?_)
  refine gend ?_
  refine awp_ret ?_
  exact fpct (t := 23) (a := 4) (hd := by exact (mapc_length ..).trans hl)
/-- ladder.Shared -/
theorem shared_n (k x : List UInt8) (z : F) (hk : k.length = 32) (hx : x.length = 32) (hz : lx k (fb x) = z) (h : z ≠ 0) : Good Try.prog 8 [.a (u8s k), .a (u8s x)] [] (.t [.a (u8s (bye z)), .c (cn 0)]) [] := by
  have g := lmul_ k x hk hx
  rw [show ladder (bv (clamp k)) (fb x) = z from hz] at g
  have hl := by32_len z.val
  refine good_frm 15 Try.func8 rfl rfl rfl rfl rfl rfl ?_
  refine awp_seq ?_
  refine rln ?_
  refine G2 (fun _ k_ => q_boxa k_) ?_
  refine G2 (fun _ k_ => q_boxa k_) ?_
  refine G2 (fun _ k_ => q_al k_) ?_
  refine G (q_as (s := sc (cn 0)) ?_)
  refine gend ?_
  refine awp_seq ?_
  refine rln ?_
  refine G (q_ldw ?_)
  refine G (q_ldw ?_)
  refine G2 (fun _ k_ => q_callp (g) k_) ?_
  refine G2 (fun _ k_ => q_al k_) ?_
  refine G20 (fun _ k_ => q_stw k_) ?_
  refine gend ?_
  refine awp_seq ?_
  refine awp_seq ?_
  refine rln ?_
  refine G (q_ldw ?_)
  refine G (q_bla (fk0 ?_))
  refine G (q_eqa8 ?_)
  refine gend ?_
  refine cndN (fun hc1 => ?_) ?_; rotate_left
  · exact fun e => h ((bz z).1 e)
  refine awp_skip ?_
  refine awp_seq ?_
  refine rln ?_
  refine G (q_ldw ?_)
  refine G20 (fun _ k_ => q_stw k_) ?_
  refine G (q_as (s := sc (cn 0)) ?_)
  refine gend ?_
  refine awp_ret ?_
  exact fpct (t := 23) (a := 4) (hd := by exact (mapc_length ..).trans hl)
end Go.Proofs.Ytlidpcjinillfaa.Ld

/- What functions of the program do, walked over the abstract machine. -/
namespace Go.Proofs.Ytlidpcjinillfaa.Ld
open Go Go.Abs Go.Proofs Go.Proofs.Ytlidpcjinillfaa.Fd Go.Proofs.Ytlidpcjinillfaa.Rn

open Go.Nt Fd Rn
abbrev ky (v : UInt8) : List UInt8 := (List.replicate 32 0).set 0 v
theorem cl1 : bv (clamp (ky 1)) = 2 ^ 254 := by decide +kernel
theorem cl2 : bv (clamp (ky 2)) = 2 ^ 254 := by decide +kernel
theorem one_pub : lx (ky 1) (lx (ky 2) 9) = ladder (2 ^ 254) (ladder (2 ^ 254) 9) := by unfold lx; rw [cl1, cl2]
theorem two_pub : lx (ky 2) (lx (ky 1) 9) = ladder (2 ^ 254) (ladder (2 ^ 254) 9) := by unfold lx; rw [cl1, cl2]
set_option maxHeartbeats 800000 in
/-- escutcheonlaw04.known -/
theorem known_ : Good Try.prog 10 [] [] (sc (.bool true)) [] := by
  have g1 := shared_z (ky 7) (List.replicate 32 0) 0 (by decide) (by decide) (by rw [fb_zero]; exact ladder_zero _) rfl
  have p2 := public_ (ky 2) (by decide)
  have p1 := public_ (ky 1) (by decide)
  have g2 := shared_n (ky 1) (bye (lx (ky 2) 9)) _ (by decide) (by32_len _) (by rw [fb_bye]; exact one_pub) twice_ne
  have g3 := shared_n (ky 2) (bye (lx (ky 1) 9)) _ (by decide) (by32_len _) (by rw [fb_bye]; exact two_pub) twice_ne
  have l1 := by32_len (0 : F).val
  have l2 := by32_len (ladder (2 ^ 254) (ladder (2 ^ 254) 9)).val
  generalize ladder (2 ^ 254) (ladder (2 ^ 254) 9) = Z at g2 g3 l2
  have l3 := by32_len (lx (ky 2) 9).val
  have l4 := by32_len (lx (ky 1) 9).val
  generalize lx (ky 2) 9 = A at p2 g2 l3
  generalize lx (ky 1) 9 = B at p1 g3 l4
  refine good_frm 42 Try.func10 rfl rfl rfl rfl rfl rfl ?_
  refine awp_seq ?_
  refine rln ?_
  refine As ?_
  refine gend ?_
  refine awp_seq ?_
  refine rln ?_
  refine G  (q_bla (fkc (c := c8 7) rfl rfl rfl (Nat.le_of_ble_eq_true rfl) (fk0 ?_)))
  rw [show (u8s (List.replicate 32 0)).set (0 * 1) (c8 7) = u8s ((List.replicate 32 0).set 0 7) from rfl]
  refine G (q_bla (fk0 ?_))
  refine G2 (fun _ k_ => q_callp (g1) k_) ?_
  refine G (q_mv (s := .t _) ?_)
  refine G (q_ext (y := .a _) ?_)
  refine G (q_ext (y := .c _) ?_)
  refine G2 (fun _ k_ => q_al k_) ?_
  refine G20 (fun _ k_ => q_stw k_) ?_
  refine As ?_
  refine gend ?_
  refine awp_seq ?_
  refine rln ?_
  refine G  (q_bla (fkc (c := c8 1) rfl rfl rfl (Nat.le_of_ble_eq_true rfl) (fk0 ?_)))
  rw [show (u8s (List.replicate 32 0)).set (0 * 1) (c8 1) = u8s ((List.replicate 32 0).set 0 1) from rfl]
  refine G  (q_bla (fkc (c := c8 2) rfl rfl rfl (Nat.le_of_ble_eq_true rfl) (fk0 ?_)))
  rw [show (u8s (List.replicate 32 0)).set (0 * 1) (c8 2) = u8s ((List.replicate 32 0).set 0 2) from rfl]
  refine G2 (fun _ k_ => q_callp (p2) k_) ?_
  refine G2 (fun _ k_ => q_callp (g2) k_) ?_
  refine G (q_mv (s := .t _) ?_)
  refine G (q_ext (y := .a _) ?_)
  refine G (q_ext (y := .c _) ?_)
  refine G2 (fun _ k_ => q_al k_) ?_
  refine G20 (fun _ k_ => q_stw k_) ?_
  refine As ?_
  refine gend ?_
  refine awp_seq ?_
  refine rln ?_
  refine G  (q_bla (fkc (c := c8 2) rfl rfl rfl (Nat.le_of_ble_eq_true rfl) (fk0 ?_)))
  rw [show (u8s (List.replicate 32 0)).set (0 * 1) (c8 2) = u8s ((List.replicate 32 0).set 0 2) from rfl]
  refine G  (q_bla (fkc (c := c8 1) rfl rfl rfl (Nat.le_of_ble_eq_true rfl) (fk0 ?_)))
  rw [show (u8s (List.replicate 32 0)).set (0 * 1) (c8 1) = u8s ((List.replicate 32 0).set 0 1) from rfl]
  refine G2 (fun _ k_ => q_callp (p1) k_) ?_
  refine G2 (fun _ k_ => q_callp (g3) k_) ?_
  refine G (q_mv (s := .t _) ?_)
  refine G (q_ext (y := .a _) ?_)
  refine G (q_ext (y := .c _) ?_)
  refine G2 (fun _ k_ => q_al k_) ?_
  refine G20 (fun _ k_ => q_stw k_) ?_
  refine As ?_
  refine gend ?_
  refine awp_seq ?_
  refine rln ?_
  refine Mv ?_
  refine G (q_eqln (y := 8) ?_)
  refine Mv ?_
  refine Aknd 29 (fun hb3 => ?_) ?_; rotate_left
  · first | exact rfl | (simp; done)
  refine Gg (q_mv (s := .v (.c _)) ?_)
  refine Gg (q_eqln (y := 0) ?_)
  refine G (q_pkt ?_)
  refine Mv ?_
  refine Aknd 33 (fun hb7 => ?_) ?_; rotate_left
  · first | exact rfl | (simp; done)
  refine Gg (q_mv (s := .v (.c _)) ?_)
  refine Gg (q_eqln (y := 0) ?_)
  refine G (q_pkt ?_)
  refine Mv ?_
  refine Aknd 37 (fun hb11 => ?_) ?_; rotate_left
  · first | exact rfl | (simp; done)
  refine Gg (q_ldw ?_)
  refine Gg (q_ldw ?_)
  refine Gg (q_eqa8 ?_)
  refine G (q_pkt ?_)
  refine As ?_
  refine gend ?_
  refine awp_ret ?_
  exact fp1 (hv := by simp)
end Go.Proofs.Ytlidpcjinillfaa.Ld

/- What functions of the program do, walked over the abstract machine. -/
namespace Go.Proofs.Ytlidpcjinillfaa.Ld
open Go Go.Abs Go.Proofs Go.Proofs.Ytlidpcjinillfaa.Fd Go.Proofs.Ytlidpcjinillfaa.Rn

open Go.Nt Fd Rn
theorem bv_top (b : List UInt8) : bv b = Fv (fun i => b.getD i 0) 31 + 452312848583266388373324160190187140051835877600158453279131187530910662656 * (b.getD 31 0).toNat := by
  show Fv (fun i => b.getD i 0) 31 + 256 ^ 31 * (b.getD 31 0).toNat = _
  rw [show (256 : Nat) ^ 31 = 452312848583266388373324160190187140051835877600158453279131187530910662656 by decide +kernel]
theorem cl_top : ∀ x : UInt8, ((x &&& 127) ||| 64).toNat < 128 := by
  have h : ∀ i : Fin 256, ((UInt8.ofNat i.val &&& 127) ||| 64).toNat < 128 := by decide +kernel
  intro x
  have := h ⟨x.toNat, x.toNat_lt⟩
  simpa using this
theorem clamp_lt (k : List UInt8) (hk : k.length = 32) : bv (clamp k) < 2 ^ 255 := by
  have h31 : (clamp k).getD 31 0 = ((k.set 0 (k.getD 0 0 &&& ~~~7)).getD 31 0 &&& 127) ||| 64 := by
    simp [clamp, List.getD_eq_getElem?_getD, List.getElem?_set, hk]
  have h1 := cl_top ((k.set 0 (k.getD 0 0 &&& ~~~7)).getD 31 0)
  have h2 := Fv_lt (fun i => (clamp k).getD i 0) 31
  rw [bv_top, h31]
  rw [show (256 : Nat) ^ 31 = 452312848583266388373324160190187140051835877600158453279131187530910662656 by decide +kernel] at h2
  omega
theorem cl_low : ∀ x : UInt8, (x &&& ~~~7).toNat % 8 = 0 := by
  have h : ∀ i : Fin 256, (UInt8.ofNat i.val &&& ~~~7).toNat % 8 = 0 := by decide +kernel
  intro x
  have := h ⟨x.toNat, x.toNat_lt⟩
  simpa using this
theorem clamp_8 (k : List UInt8) (hk : k.length = 32) : ∃ m, bv (clamp k) = 8 * m := by
  have h0 : (clamp k).getD 0 0 = k.getD 0 0 &&& ~~~7 := by
    simp [clamp, List.getD_eq_getElem?_getD, List.getElem?_set, hk]
  have h1 := cl_low (k.getD 0 0)
  have h2 := Fv_add (fun i => (clamp k).getD i 0) 1 31
  have h3 : bv (clamp k) = Fv (fun i => (clamp k).getD i 0) (1 + 31) := rfl
  have h4 : Fv (fun i => (clamp k).getD i 0) 1 = (k.getD 0 0 &&& ~~~7).toNat := by
    show 0 + 256 ^ 0 * ((clamp k).getD 0 0).toNat = _
    rw [h0]; omega
  rw [h3, h2, h4]
  generalize Fv (fun i => (clamp k).getD (1 + i) 0) 31 = z
  exact ⟨((k.getD 0 0 &&& ~~~7).toNat + 256 * z) / 8, by omega⟩
theorem lx_low (k : List UInt8) (hk : k.length = 32) {x : F} (hx : x = 0 ∨ x = 1 ∨ x = -1) : lx k x = 0 := by
  obtain ⟨m, hm⟩ := clamp_8 k hk
  have := clamp_lt k hk
  unfold lx
  rw [hm] at this ⊢
  exact ladder_low hx m this
def twk (a : List UInt8) (b : UInt8) : List UInt8 := (a.set 0 (a.getD 0 0 ^^^ b % 8)).set 31 ((a.set 0 (a.getD 0 0 ^^^ b % 8)).getD 31 0 ^^^ b / 8 % 4 * 64)
def twx (x : List UInt8) (b : UInt8) : List UInt8 := x.set 31 (x.getD 31 0 ^^^ b / 128 * 128)
theorem low_0 : fb (List.replicate 32 0) = 0 := by decide +kernel
theorem low_1 : fb (ky 1) = 1 := by decide +kernel
theorem low_2 : fb (by32 (P - 1)) = -1 := by decide +kernel
theorem low_3 : fb (by32 P) = 0 := by decide +kernel
end Go.Proofs.Ytlidpcjinillfaa.Ld

/- What functions of the program do, walked over the abstract machine. -/
namespace Go.Proofs.Ytlidpcjinillfaa.Ld
open Go Go.Abs Go.Proofs Go.Proofs.Ytlidpcjinillfaa.Fd Go.Proofs.Ytlidpcjinillfaa.Rn

open Go.Nt Fd Rn
abbrev pts : List UInt8 := List.replicate 32 0 ++ (ky 1 ++ (by32 (P - 1) ++ by32 P))
theorem sp_mid (A X Y B : List Cell) {q : Nat} (hA : A.length = q) (h : X.length = Y.length) : splice (A ++ (X ++ B)) q Y = A ++ (Y ++ B) := by
  subst hA
  rw [splice, List.take_left, ← List.drop_drop, List.drop_left, ← h, List.drop_left]
theorem blk4 (z a b c d : List UInt8) (hZ : z = List.replicate 32 0) (ha : a.length = 32) (hb : b.length = 32) (hc : c.length = 32) (hd : d.length = 32) :
    splice (splice (splice (splice (rep 4 (u8s z)) (0 * 32) (u8s a)) (1 * 32) (u8s b)) (2 * 32) (u8s c)) (3 * 32) (u8s d) = u8s (a ++ (b ++ (c ++ d))) := by
  have hr : rep 4 (u8s z) = [] ++ (u8s z ++ (u8s z ++ (u8s z ++ (u8s z ++ [])))) := by subst hZ; rfl
  have hz : z.length = 32 := by subst hZ; rfl
  have e : ∀ l : List UInt8, (u8s l).length = l.length := fun l => mapc_length ..
  rw [hr, sp_mid (q := 0 * 32) [] (u8s z) (u8s a) _ rfl (by rw [e, e, hz, ha]), List.nil_append,
    sp_mid (q := 1 * 32) (u8s a) (u8s z) (u8s b) _ (by rw [e, ha]) (by rw [e, e, hz, hb]),
    ← List.append_assoc (u8s a), sp_mid (q := 2 * 32) (u8s a ++ u8s b) (u8s z) (u8s c) _ (by rw [List.length_append, e, e, ha, hb]) (by rw [e, e, hz, hc]),
    ← List.append_assoc (u8s a ++ u8s b), sp_mid (q := 3 * 32) (u8s a ++ u8s b ++ u8s c) (u8s z) (u8s d) _ (by rw [List.length_append, List.length_append, e, e, e, ha, hb, hc]) (by rw [e, e, hz, hd])]
  simp [mapc, List.append_assoc]
theorem cutu (l : List UInt8) (i n : Nat) : ((u8s l).drop i).take n = u8s ((l.drop i).take n) := by simp [mapc, List.map_take, List.map_drop]
theorem pts_0 : ((u8s pts).drop (0 * 32)).take 32 = u8s (List.replicate 32 0) := by rw [cutu, show (pts.drop (0 * 32)).take 32 = List.replicate 32 0 by decide +kernel]
theorem pts_1 : ((u8s pts).drop (1 * 32)).take 32 = u8s (ky 1) := by rw [cutu, show (pts.drop (1 * 32)).take 32 = ky 1 by decide +kernel]
theorem pts_2 : ((u8s pts).drop (2 * 32)).take 32 = u8s (by32 (P - 1)) := by rw [cutu, show (pts.drop (2 * 32)).take 32 = by32 (P - 1) by decide +kernel]
theorem pts_3 : ((u8s pts).drop (3 * 32)).take 32 = u8s (by32 P) := by rw [cutu, show (pts.drop (3 * 32)).take 32 = by32 P by decide +kernel]
theorem pts_len : (u8s pts).length = 128 := (mapc_length ..).trans (by decide +kernel)
set_option maxHeartbeats 800000 in
/-- escutcheonlaw04.LadderLow -/
theorem low_v0 (k : List UInt8) (x : Int) (hk : k.length = 32) (hj : (x.tmod 4 + 4).tmod 4 = (0 : Nat)) : Good Try.prog 6 [.a (u8s k), .c (ci x)] [] (sc (.bool true)) [] := by
  have hy : (List.replicate 32 0).length = 32 := by first | exact by32_len _ | decide
  have hz : lx k (fb (List.replicate 32 0)) = 0 := by rw [low_0]; exact lx_low k hk (.inl rfl)
  have g1 := shared_z k (List.replicate 32 0) 0 hk hy hz rfl
  have g2 := lmul_ k (List.replicate 32 0) hk hy
  rw [show ladder (bv (clamp k)) (fb (List.replicate 32 0)) = 0 from hz] at g2
  have hm := minus_ P 1 (by decide) (by decide)
  have p1 := by32_len (P - 1)
  have p2 := by32_len P
  have t1 := Int.tmod_lt_of_pos x (show (0 : Int) < 4 by decide)
  have t2 := Int.lt_tmod_of_pos x (show (0 : Int) < 4 by decide)
  have hb0 : -9223372036854775808 ≤ x.tmod 4 + 4 ∧ x.tmod 4 + 4 ≤ 9223372036854775807 := by omega
  refine good_frm 50 Try.func6 rfl rfl rfl rfl rfl rfl ?_
  refine awp_seq ?_
  refine rln ?_
  refine G2 (fun _ k_ => q_boxa k_) ?_
  refine As ?_
  refine gend ?_
  refine awp_seq ?_
  refine rln ?_
  refine G2 (fun _ k_ => q_callp (Rn.prime_) k_) ?_
  refine G2 (fun _ k_ => q_callp (Rn.small_1) k_) ?_
  refine G2 (fun _ k_ => q_callp (hm) k_) ?_
  refine G2 (fun _ k_ => q_callp (Rn.bytes_ _) k_) ?_
  refine G2 (fun _ k_ => q_al k_) ?_
  refine G20 (fun _ k_ => q_stw k_) ?_
  refine gend ?_
  refine awp_seq ?_
  refine rdln [3, 4, 5] [0, 0, 0, 0, 1, 2, 3] [2, 2, 2, 1, 2, 3, 3] ?_
  refine Dp (fun _ => q_bla (fk0 ⟨rfl, rfl⟩)) ?_
  refine Dp (fun _ => q_bla (fkc (c := c8 1) rfl rfl rfl (Nat.le_of_ble_eq_true rfl) (fk0 ⟨rfl, rfl⟩))) ?_
  refine DLw ?_
  refine De2 (fun _ k_ => q_callp (Rn.prime_) k_) ?_
  refine De2 (fun _ k_ => q_callp (Rn.bytes_ _) k_) ?_
  refine De2 (fun _ k_ => q_bsl (fka rfl (et rfl) (by first | exact (mapc_length ..).trans (by with_reducible assumption) | decide +kernel | decide) (by first | decide +kernel | decide) (fka rfl (et rfl) (by first | exact (mapc_length ..).trans (by with_reducible assumption) | decide +kernel | decide) (by first | decide +kernel | decide) (fka rfl (et rfl) (by first | exact (mapc_length ..).trans (by with_reducible assumption) | decide +kernel | decide) (by first | decide +kernel | decide) (fka rfl (et rfl) (by first | exact (mapc_length ..).trans (by with_reducible assumption) | decide +kernel | decide) (by first | decide +kernel | decide) (fk0 k_)))))) ?_
  refine Dp (fun _ => q_as (s := .v (.c _)) ⟨rfl, rfl⟩) ?_
  refine dend ?_
  refine awp_seq ?_
  refine reheap [(2, sc (.ptr 0 0)), (1, sc (ci x)), (6, .v (.c (.slc 2 0 4 32)))] [some (u8s k), some (u8s (by32 (P - 1))), some (u8s pts)] ?_ ⟨rfl, rfl, rfl, trivial⟩ (congrArg (fun z => [some (u8s k), some (u8s (by32 (P - 1))), some z]) (blk4 (List.replicate 32 0) (List.replicate 32 0) (ky 1) (by32 (P - 1)) (by32 P) rfl (by decide) (by decide) p1 p2))
  refine rln ?_
  refine Mv ?_
  refine Mv ?_
  refine G (q_remi (x := x) (y := 4) ?_)
  refine G (q_addi (x := x.tmod 4) (y := 4) ?_ (hb := hb0))
  refine G (q_remi (x := x.tmod 4 + 4) (y := 4) ?_)
  rw [hj]
  refine G (q_ixs ?_)
  refine G (q_lda (cs := u8s pts) (xs := u8s (List.replicate 32 0)) ?_ (hl := by rw [pts_len]; decide) (hc := pts_0))
  refine G2 (fun _ k_ => q_al k_) ?_
  refine G20 (fun _ k_ => q_stw k_) ?_
  refine gend ?_
  refine awp_seq ?_
  refine rln ?_
  refine G (q_ldw ?_)
  refine G (q_ldw ?_)
  refine G2 (fun _ k_ => q_callp (g1) k_) ?_
  refine G (q_mv (s := .t _) ?_)
  refine G (q_ext (y := .a _) ?_)
  refine G (q_ext (y := .c _) ?_)
  refine G2 (fun _ k_ => q_al k_) ?_
  refine G20 (fun _ k_ => q_stw k_) ?_
  refine As ?_
  refine gend ?_
  refine awp_seq ?_
  refine rln ?_
  refine Mv ?_
  refine G (q_eqln (y := 8) ?_)
  refine Mv ?_
  refine Aknd 35 (fun hb3 => ?_) ?_; rotate_left
  · first | exact rfl | (simp; done)
  refine Gg (q_ldw ?_)
  refine Gg (q_bla (fk0 ?_))
  refine Gg (q_eqa8 ?_)
  refine G (q_pkt ?_)
  refine Mv ?_
  refine Aknd 40 (fun hb8 => ?_) ?_; rotate_left
  · first | exact rfl | (simp; done)
  refine Gg (q_ldw ?_)
  refine Gg (q_ldw ?_)
  refine G2g (fun _ k_ => q_callp (g2) k_) ?_
  refine Gg (q_bla (fk0 ?_))
  refine Gg (q_eqa8 ?_)
  refine G (q_pkt ?_)
  refine Mv ?_
  refine Aknd 47 (fun hb15 => ?_) ?_; rotate_left
  · first | exact rfl | (simp; done)
  refine G2g (fun _ k_ => q_callp (known_) k_) ?_
  refine G (q_pkt ?_)
  refine As ?_
  refine gend ?_
  refine awp_ret ?_
  exact fp1
set_option maxHeartbeats 800000 in
/-- escutcheonlaw04.LadderLow -/
theorem low_v1 (k : List UInt8) (x : Int) (hk : k.length = 32) (hj : (x.tmod 4 + 4).tmod 4 = (1 : Nat)) : Good Try.prog 6 [.a (u8s k), .c (ci x)] [] (sc (.bool true)) [] := by
  have hy : (ky 1).length = 32 := by first | exact by32_len _ | decide
  have hz : lx k (fb (ky 1)) = 0 := by rw [low_1]; exact lx_low k hk (.inr (.inl rfl))
  have g1 := shared_z k (ky 1) 0 hk hy hz rfl
  have g2 := lmul_ k (ky 1) hk hy
  rw [show ladder (bv (clamp k)) (fb (ky 1)) = 0 from hz] at g2
  have hm := minus_ P 1 (by decide) (by decide)
  have p1 := by32_len (P - 1)
  have p2 := by32_len P
  have t1 := Int.tmod_lt_of_pos x (show (0 : Int) < 4 by decide)
  have t2 := Int.lt_tmod_of_pos x (show (0 : Int) < 4 by decide)
  have hb0 : -9223372036854775808 ≤ x.tmod 4 + 4 ∧ x.tmod 4 + 4 ≤ 9223372036854775807 := by omega
  refine good_frm 50 Try.func6 rfl rfl rfl rfl rfl rfl ?_
  refine awp_seq ?_
  refine rln ?_
  refine G2 (fun _ k_ => q_boxa k_) ?_
  refine As ?_
  refine gend ?_
  refine awp_seq ?_
  refine rln ?_
  refine G2 (fun _ k_ => q_callp (Rn.prime_) k_) ?_
  refine G2 (fun _ k_ => q_callp (Rn.small_1) k_) ?_
  refine G2 (fun _ k_ => q_callp (hm) k_) ?_
  refine G2 (fun _ k_ => q_callp (Rn.bytes_ _) k_) ?_
  refine G2 (fun _ k_ => q_al k_) ?_
  refine G20 (fun _ k_ => q_stw k_) ?_
  refine gend ?_
  refine awp_seq ?_
  refine rdln [3, 4, 5] [0, 0, 0, 0, 1, 2, 3] [2, 2, 2, 1, 2, 3, 3] ?_
  refine Dp (fun _ => q_bla (fk0 ⟨rfl, rfl⟩)) ?_
  refine Dp (fun _ => q_bla (fkc (c := c8 1) rfl rfl rfl (Nat.le_of_ble_eq_true rfl) (fk0 ⟨rfl, rfl⟩))) ?_
  refine DLw ?_
  refine De2 (fun _ k_ => q_callp (Rn.prime_) k_) ?_
  refine De2 (fun _ k_ => q_callp (Rn.bytes_ _) k_) ?_
  refine De2 (fun _ k_ => q_bsl (fka rfl (et rfl) (by first | exact (mapc_length ..).trans (by with_reducible assumption) | decide +kernel | decide) (by first | decide +kernel | decide) (fka rfl (et rfl) (by first | exact (mapc_length ..).trans (by with_reducible assumption) | decide +kernel | decide) (by first | decide +kernel | decide) (fka rfl (et rfl) (by first | exact (mapc_length ..).trans (by with_reducible assumption) | decide +kernel | decide) (by first | decide +kernel | decide) (fka rfl (et rfl) (by first | exact (mapc_length ..).trans (by with_reducible assumption) | decide +kernel | decide) (by first | decide +kernel | decide) (fk0 k_)))))) ?_
  refine Dp (fun _ => q_as (s := .v (.c _)) ⟨rfl, rfl⟩) ?_
  refine dend ?_
  refine awp_seq ?_
  refine reheap [(2, sc (.ptr 0 0)), (1, sc (ci x)), (6, .v (.c (.slc 2 0 4 32)))] [some (u8s k), some (u8s (by32 (P - 1))), some (u8s pts)] ?_ ⟨rfl, rfl, rfl, trivial⟩ (congrArg (fun z => [some (u8s k), some (u8s (by32 (P - 1))), some z]) (blk4 (List.replicate 32 0) (List.replicate 32 0) (ky 1) (by32 (P - 1)) (by32 P) rfl (by decide) (by decide) p1 p2))
  refine rln ?_
  refine Mv ?_
  refine Mv ?_
  refine G (q_remi (x := x) (y := 4) ?_)
  refine G (q_addi (x := x.tmod 4) (y := 4) ?_ (hb := hb0))
  refine G (q_remi (x := x.tmod 4 + 4) (y := 4) ?_)
  rw [hj]
  refine G (q_ixs ?_)
  refine G (q_lda (cs := u8s pts) (xs := u8s (ky 1)) ?_ (hl := by rw [pts_len]; decide) (hc := pts_1))
  refine G2 (fun _ k_ => q_al k_) ?_
  refine G20 (fun _ k_ => q_stw k_) ?_
  refine gend ?_
  refine awp_seq ?_
  refine rln ?_
  refine G (q_ldw ?_)
  refine G (q_ldw ?_)
  refine G2 (fun _ k_ => q_callp (g1) k_) ?_
  refine G (q_mv (s := .t _) ?_)
  refine G (q_ext (y := .a _) ?_)
  refine G (q_ext (y := .c _) ?_)
  refine G2 (fun _ k_ => q_al k_) ?_
  refine G20 (fun _ k_ => q_stw k_) ?_
  refine As ?_
  refine gend ?_
  refine awp_seq ?_
  refine rln ?_
  refine Mv ?_
  refine G (q_eqln (y := 8) ?_)
  refine Mv ?_
  refine Aknd 35 (fun hb3 => ?_) ?_; rotate_left
  · first | exact rfl | (simp; done)
  refine Gg (q_ldw ?_)
  refine Gg (q_bla (fk0 ?_))
  refine Gg (q_eqa8 ?_)
  refine G (q_pkt ?_)
  refine Mv ?_
  refine Aknd 40 (fun hb8 => ?_) ?_; rotate_left
  · first | exact rfl | (simp; done)
  refine Gg (q_ldw ?_)
  refine Gg (q_ldw ?_)
  refine G2g (fun _ k_ => q_callp (g2) k_) ?_
  refine Gg (q_bla (fk0 ?_))
  refine Gg (q_eqa8 ?_)
  refine G (q_pkt ?_)
  refine Mv ?_
  refine Aknd 47 (fun hb15 => ?_) ?_; rotate_left
  · first | exact rfl | (simp; done)
  refine G2g (fun _ k_ => q_callp (known_) k_) ?_
  refine G (q_pkt ?_)
  refine As ?_
  refine gend ?_
  refine awp_ret ?_
  exact fp1
set_option maxHeartbeats 800000 in
/-- escutcheonlaw04.LadderLow -/
theorem low_v2 (k : List UInt8) (x : Int) (hk : k.length = 32) (hj : (x.tmod 4 + 4).tmod 4 = (2 : Nat)) : Good Try.prog 6 [.a (u8s k), .c (ci x)] [] (sc (.bool true)) [] := by
  have hy : (by32 (P - 1)).length = 32 := by first | exact by32_len _ | decide
  have hz : lx k (fb (by32 (P - 1))) = 0 := by rw [low_2]; exact lx_low k hk (.inr (.inr rfl))
  have g1 := shared_z k (by32 (P - 1)) 0 hk hy hz rfl
  have g2 := lmul_ k (by32 (P - 1)) hk hy
  rw [show ladder (bv (clamp k)) (fb (by32 (P - 1))) = 0 from hz] at g2
  have hm := minus_ P 1 (by decide) (by decide)
  have p1 := by32_len (P - 1)
  have p2 := by32_len P
  have t1 := Int.tmod_lt_of_pos x (show (0 : Int) < 4 by decide)
  have t2 := Int.lt_tmod_of_pos x (show (0 : Int) < 4 by decide)
  have hb0 : -9223372036854775808 ≤ x.tmod 4 + 4 ∧ x.tmod 4 + 4 ≤ 9223372036854775807 := by omega
  refine good_frm 50 Try.func6 rfl rfl rfl rfl rfl rfl ?_
  refine awp_seq ?_
  refine rln ?_
  refine G2 (fun _ k_ => q_boxa k_) ?_
  refine As ?_
  refine gend ?_
  refine awp_seq ?_
  refine rln ?_
  refine G2 (fun _ k_ => q_callp (Rn.prime_) k_) ?_
  refine G2 (fun _ k_ => q_callp (Rn.small_1) k_) ?_
  refine G2 (fun _ k_ => q_callp (hm) k_) ?_
  refine G2 (fun _ k_ => q_callp (Rn.bytes_ _) k_) ?_
  refine G2 (fun _ k_ => q_al k_) ?_
  refine G20 (fun _ k_ => q_stw k_) ?_
  refine gend ?_
  refine awp_seq ?_
  refine rdln [3, 4, 5] [0, 0, 0, 0, 1, 2, 3] [2, 2, 2, 1, 2, 3, 3] ?_
  refine Dp (fun _ => q_bla (fk0 ⟨rfl, rfl⟩)) ?_
  refine Dp (fun _ => q_bla (fkc (c := c8 1) rfl rfl rfl (Nat.le_of_ble_eq_true rfl) (fk0 ⟨rfl, rfl⟩))) ?_
  refine DLw ?_
  refine De2 (fun _ k_ => q_callp (Rn.prime_) k_) ?_
  refine De2 (fun _ k_ => q_callp (Rn.bytes_ _) k_) ?_
  refine De2 (fun _ k_ => q_bsl (fka rfl (et rfl) (by first | exact (mapc_length ..).trans (by with_reducible assumption) | decide +kernel | decide) (by first | decide +kernel | decide) (fka rfl (et rfl) (by first | exact (mapc_length ..).trans (by with_reducible assumption) | decide +kernel | decide) (by first | decide +kernel | decide) (fka rfl (et rfl) (by first | exact (mapc_length ..).trans (by with_reducible assumption) | decide +kernel | decide) (by first | decide +kernel | decide) (fka rfl (et rfl) (by first | exact (mapc_length ..).trans (by with_reducible assumption) | decide +kernel | decide) (by first | decide +kernel | decide) (fk0 k_)))))) ?_
  refine Dp (fun _ => q_as (s := .v (.c _)) ⟨rfl, rfl⟩) ?_
  refine dend ?_
  refine awp_seq ?_
  refine reheap [(2, sc (.ptr 0 0)), (1, sc (ci x)), (6, .v (.c (.slc 2 0 4 32)))] [some (u8s k), some (u8s (by32 (P - 1))), some (u8s pts)] ?_ ⟨rfl, rfl, rfl, trivial⟩ (congrArg (fun z => [some (u8s k), some (u8s (by32 (P - 1))), some z]) (blk4 (List.replicate 32 0) (List.replicate 32 0) (ky 1) (by32 (P - 1)) (by32 P) rfl (by decide) (by decide) p1 p2))
  refine rln ?_
  refine Mv ?_
  refine Mv ?_
  refine G (q_remi (x := x) (y := 4) ?_)
  refine G (q_addi (x := x.tmod 4) (y := 4) ?_ (hb := hb0))
  refine G (q_remi (x := x.tmod 4 + 4) (y := 4) ?_)
  rw [hj]
  refine G (q_ixs ?_)
  refine G (q_lda (cs := u8s pts) (xs := u8s (by32 (P - 1))) ?_ (hl := by rw [pts_len]; decide) (hc := pts_2))
  refine G2 (fun _ k_ => q_al k_) ?_
  refine G20 (fun _ k_ => q_stw k_) ?_
  refine gend ?_
  refine awp_seq ?_
  refine rln ?_
  refine G (q_ldw ?_)
  refine G (q_ldw ?_)
  refine G2 (fun _ k_ => q_callp (g1) k_) ?_
  refine G (q_mv (s := .t _) ?_)
  refine G (q_ext (y := .a _) ?_)
  refine G (q_ext (y := .c _) ?_)
  refine G2 (fun _ k_ => q_al k_) ?_
  refine G20 (fun _ k_ => q_stw k_) ?_
  refine As ?_
  refine gend ?_
  refine awp_seq ?_
  refine rln ?_
  refine Mv ?_
  refine G (q_eqln (y := 8) ?_)
  refine Mv ?_
  refine Aknd 35 (fun hb3 => ?_) ?_; rotate_left
  · first | exact rfl | (simp; done)
  refine Gg (q_ldw ?_)
  refine Gg (q_bla (fk0 ?_))
  refine Gg (q_eqa8 ?_)
  refine G (q_pkt ?_)
  refine Mv ?_
  refine Aknd 40 (fun hb8 => ?_) ?_; rotate_left
  · first | exact rfl | (simp; done)
  refine Gg (q_ldw ?_)
  refine Gg (q_ldw ?_)
  refine G2g (fun _ k_ => q_callp (g2) k_) ?_
  refine Gg (q_bla (fk0 ?_))
  refine Gg (q_eqa8 ?_)
  refine G (q_pkt ?_)
  refine Mv ?_
  refine Aknd 47 (fun hb15 => ?_) ?_; rotate_left
  · first | exact rfl | (simp; done)
  refine G2g (fun _ k_ => q_callp (known_) k_) ?_
  refine G (q_pkt ?_)
  refine As ?_
  refine gend ?_
  refine awp_ret ?_
  exact fp1
set_option maxHeartbeats 800000 in
/-- escutcheonlaw04.LadderLow -/
theorem low_v3 (k : List UInt8) (x : Int) (hk : k.length = 32) (hj : (x.tmod 4 + 4).tmod 4 = (3 : Nat)) : Good Try.prog 6 [.a (u8s k), .c (ci x)] [] (sc (.bool true)) [] := by
  have hy : (by32 P).length = 32 := by first | exact by32_len _ | decide
  have hz : lx k (fb (by32 P)) = 0 := by rw [low_3]; exact lx_low k hk (.inl rfl)
  have g1 := shared_z k (by32 P) 0 hk hy hz rfl
  have g2 := lmul_ k (by32 P) hk hy
  rw [show ladder (bv (clamp k)) (fb (by32 P)) = 0 from hz] at g2
  have hm := minus_ P 1 (by decide) (by decide)
  have p1 := by32_len (P - 1)
  have p2 := by32_len P
  have t1 := Int.tmod_lt_of_pos x (show (0 : Int) < 4 by decide)
  have t2 := Int.lt_tmod_of_pos x (show (0 : Int) < 4 by decide)
  have hb0 : -9223372036854775808 ≤ x.tmod 4 + 4 ∧ x.tmod 4 + 4 ≤ 9223372036854775807 := by omega
  refine good_frm 50 Try.func6 rfl rfl rfl rfl rfl rfl ?_
  refine awp_seq ?_
  refine rln ?_
  refine G2 (fun _ k_ => q_boxa k_) ?_
  refine As ?_
  refine gend ?_
  refine awp_seq ?_
  refine rln ?_
  refine G2 (fun _ k_ => q_callp (Rn.prime_) k_) ?_
  refine G2 (fun _ k_ => q_callp (Rn.small_1) k_) ?_
  refine G2 (fun _ k_ => q_callp (hm) k_) ?_
  refine G2 (fun _ k_ => q_callp (Rn.bytes_ _) k_) ?_
  refine G2 (fun _ k_ => q_al k_) ?_
  refine G20 (fun _ k_ => q_stw k_) ?_
  refine gend ?_
  refine awp_seq ?_
  refine rdln [3, 4, 5] [0, 0, 0, 0, 1, 2, 3] [2, 2, 2, 1, 2, 3, 3] ?_
  refine Dp (fun _ => q_bla (fk0 ⟨rfl, rfl⟩)) ?_
  refine Dp (fun _ => q_bla (fkc (c := c8 1) rfl rfl rfl (Nat.le_of_ble_eq_true rfl) (fk0 ⟨rfl, rfl⟩))) ?_
  refine DLw ?_
  refine De2 (fun _ k_ => q_callp (Rn.prime_) k_) ?_
  refine De2 (fun _ k_ => q_callp (Rn.bytes_ _) k_) ?_
  refine De2 (fun _ k_ => q_bsl (fka rfl (et rfl) (by first | exact (mapc_length ..).trans (by with_reducible assumption) | decide +kernel | decide) (by first | decide +kernel | decide) (fka rfl (et rfl) (by first | exact (mapc_length ..).trans (by with_reducible assumption) | decide +kernel | decide) (by first | decide +kernel | decide) (fka rfl (et rfl) (by first | exact (mapc_length ..).trans (by with_reducible assumption) | decide +kernel | decide) (by first | decide +kernel | decide) (fka rfl (et rfl) (by first | exact (mapc_length ..).trans (by with_reducible assumption) | decide +kernel | decide) (by first | decide +kernel | decide) (fk0 k_)))))) ?_
  refine Dp (fun _ => q_as (s := .v (.c _)) ⟨rfl, rfl⟩) ?_
  refine dend ?_
  refine awp_seq ?_
  refine reheap [(2, sc (.ptr 0 0)), (1, sc (ci x)), (6, .v (.c (.slc 2 0 4 32)))] [some (u8s k), some (u8s (by32 (P - 1))), some (u8s pts)] ?_ ⟨rfl, rfl, rfl, trivial⟩ (congrArg (fun z => [some (u8s k), some (u8s (by32 (P - 1))), some z]) (blk4 (List.replicate 32 0) (List.replicate 32 0) (ky 1) (by32 (P - 1)) (by32 P) rfl (by decide) (by decide) p1 p2))
  refine rln ?_
  refine Mv ?_
  refine Mv ?_
  refine G (q_remi (x := x) (y := 4) ?_)
  refine G (q_addi (x := x.tmod 4) (y := 4) ?_ (hb := hb0))
  refine G (q_remi (x := x.tmod 4 + 4) (y := 4) ?_)
  rw [hj]
  refine G (q_ixs ?_)
  refine G (q_lda (cs := u8s pts) (xs := u8s (by32 P)) ?_ (hl := by rw [pts_len]; decide) (hc := pts_3))
  refine G2 (fun _ k_ => q_al k_) ?_
  refine G20 (fun _ k_ => q_stw k_) ?_
  refine gend ?_
  refine awp_seq ?_
  refine rln ?_
  refine G (q_ldw ?_)
  refine G (q_ldw ?_)
  refine G2 (fun _ k_ => q_callp (g1) k_) ?_
  refine G (q_mv (s := .t _) ?_)
  refine G (q_ext (y := .a _) ?_)
  refine G (q_ext (y := .c _) ?_)
  refine G2 (fun _ k_ => q_al k_) ?_
  refine G20 (fun _ k_ => q_stw k_) ?_
  refine As ?_
  refine gend ?_
  refine awp_seq ?_
  refine rln ?_
  refine Mv ?_
  refine G (q_eqln (y := 8) ?_)
  refine Mv ?_
  refine Aknd 35 (fun hb3 => ?_) ?_; rotate_left
  · first | exact rfl | (simp; done)
  refine Gg (q_ldw ?_)
  refine Gg (q_bla (fk0 ?_))
  refine Gg (q_eqa8 ?_)
  refine G (q_pkt ?_)
  refine Mv ?_
  refine Aknd 40 (fun hb8 => ?_) ?_; rotate_left
  · first | exact rfl | (simp; done)
  refine Gg (q_ldw ?_)
  refine Gg (q_ldw ?_)
  refine G2g (fun _ k_ => q_callp (g2) k_) ?_
  refine Gg (q_bla (fk0 ?_))
  refine Gg (q_eqa8 ?_)
  refine G (q_pkt ?_)
  refine Mv ?_
  refine Aknd 47 (fun hb15 => ?_) ?_; rotate_left
  · first | exact rfl | (simp; done)
  refine G2g (fun _ k_ => q_callp (known_) k_) ?_
  refine G (q_pkt ?_)
  refine As ?_
  refine gend ?_
  refine awp_ret ?_
  exact fp1
theorem low_ (k : List UInt8) (x : Int) (hk : k.length = 32) : Good Try.prog 6 [.a (u8s k), .c (ci x)] [] (sc (.bool true)) [] := by
  have t1 := Int.tmod_lt_of_pos x (show (0 : Int) < 4 by decide)
  have t2 := Int.lt_tmod_of_pos x (show (0 : Int) < 4 by decide)
  have h1 := Int.tmod_lt_of_pos (x.tmod 4 + 4) (show (0 : Int) < 4 by decide)
  have h2 := Int.tmod_nonneg 4 (show (0 : Int) ≤ x.tmod 4 + 4 by omega)
  by_cases c0 : (x.tmod 4 + 4).tmod 4 = (0 : Nat)
  · exact low_v0 k x hk c0
  by_cases c1 : (x.tmod 4 + 4).tmod 4 = (1 : Nat)
  · exact low_v1 k x hk c1
  by_cases c2 : (x.tmod 4 + 4).tmod 4 = (2 : Nat)
  · exact low_v2 k x hk c2
  exact low_v3 k x hk (by omega)
end Go.Proofs.Ytlidpcjinillfaa.Ld

