/- Numbers as bytes, and bytes as numbers: two ways to say it that come to one. -/
import Derived.Test.YtedpdnicpicjdaaWi
namespace Go.Proofs.Ytedpdnicpicjdaa
open Go Go.Abs Go.Proofs

theorem shr_nat (n : UInt64) (k : Nat) (h : k < 64) : (shr64n n k).toNat = n.toNat / 2 ^ k := by
  unfold shr64n
  simp [UInt64.toNat_shiftRight, Nat.shiftRight_eq_div_pow, h, Nat.mod_eq_of_lt h]
theorem rn_nat (n : UInt64) : ∀ i, (rn n i).toNat = n.toNat / 256 ^ i
  | 0 => by simp [rn]
  | i + 1 => by
    rw [rn, UInt64.toNat_div, rn_nat n i, Nat.div_div_eq_div_mul, Nat.pow_succ]
    rfl
theorem shr_rn (n : UInt64) (i : Nat) (h : i < 8) : shr64n n (8 * i) = rn n i := by
  apply UInt64.toNat_inj.1
  rw [shr_nat _ _ (by omega), rn_nat, Nat.pow_mul]
theorem byte_mod (x : UInt64) : (x % 256).toUInt8 = x.toUInt8 := by
  apply UInt8.toNat_inj.1
  simp
theorem pwb_rp (n : UInt64) (s : Nat) : ∀ i, i ≤ 8 → pwb n s i = rp n s i
  | 0, _ => rfl
  | i + 1, h => by rw [pwb, rp, pwb_rp n s i (by omega), shr_rn n i (by omega), byte_mod]
theorem gt_rg (l : List UInt8) : gt l = rg l := by
  unfold gt rg
  have : (fun (n : UInt64) (c : UInt8) => shl64n n 8 ||| c.toUInt64) = fun n c => 256 * n + c.toUInt64 := by
    funext n c
    apply UInt64.toNat_inj.1
    have hc : c.toNat < 2 ^ 8 := c.toNat_lt
    have e : shl64n n 8 = n <<< 8 := by unfold shl64n; rfl
    rw [e, UInt64.toNat_or, UInt64.toNat_add, UInt64.toNat_mul]
    have h1 : (n <<< (8 : UInt64)).toNat = (n.toNat % 2 ^ 56) <<< 8 := by
      rw [UInt64.toNat_shiftLeft]
      simp only [Nat.shiftLeft_eq]
      have : n.toNat < 2 ^ 64 := n.toNat_lt
      have e8 : UInt64.toNat 8 % 64 = 8 := by decide
      rw [e8]
      omega
    rw [h1, UInt8.toNat_toUInt64, ← Nat.shiftLeft_add_eq_or_of_lt hc, Nat.shiftLeft_eq]
    have e256 : UInt64.toNat 256 = 256 := rfl
    have : n.toNat < 2 ^ 64 := n.toNat_lt
    rw [e256]
    omega
  rw [this]
theorem fits_iff (n : UInt64) (s : Nat) (h1 : 1 ≤ s) (h8 : s ≤ 8) : rn n s = 0 ↔ (s = 8 ∨ shr64n n (8 * s) = 0) := by
  rcases Nat.lt_or_ge s 8 with h | h
  · rw [shr_rn n s h]
    constructor
    · exact .inr
    · rintro (e | e)
      · omega
      · exact e
  · have e : s = 8 := by omega
    subst e
    refine ⟨fun _ => .inl rfl, fun _ => ?_⟩
    apply UInt64.toNat_inj.1
    rw [rn_nat]
    have : n.toNat < 2 ^ 64 := n.toNat_lt
    rw [Nat.div_eq_of_lt (by rw [show (256 : Nat) ^ 8 = 2 ^ 64 by decide]; exact this)]
    rfl
end Go.Proofs.Ytedpdnicpicjdaa
