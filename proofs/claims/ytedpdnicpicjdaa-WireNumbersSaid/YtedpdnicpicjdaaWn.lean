/- WireNumbers answers true at every input. -/
import Derived.Test.YtedpdnicpicjdaaWl
import Derived.Test.YtedpdnicpicjdaaWp
namespace Go.Proofs.Ytedpdnicpicjdaa
open Go Go.Abs Go.Proofs

theorem numbers (n : UInt64) (m : Int) (k : Nat) (l : List UInt8) (hl : l.length = k) (hk : k ≤ 140737488351232) (hm : m ≤ 9223372036854775807) :
    Good Try.prog 3 [.c (c64 n), .c (ci m), .c (.ro k (u8s l))] [] (sc (.bool true)) [] := by
  by_cases h9 : 9000 < k
  · exact num_long n m k l hk h9
  have hk9 : k ≤ 9000 := by omega
  have bad : Good Try.prog 8 [.c (c64 n), .c (ci m)] [] (.t [.c .nils, .c (cn 2)]) [] → Good Try.prog 10 [.c (c64 n), .c (ci m)] [] (sc (.bool false)) [] →
      Good Try.prog 3 [.c (c64 n), .c (ci m), .c (.ro k (u8s l))] [] (sc (.bool true)) [] := fun hP hF => by
    by_cases h0 : k < 1
    · exact num_bad_0 n m k l hl hk hk9 hP hF h0
    by_cases h8 : 8 < k
    · exact num_bad_9 n m k l hl hk hk9 hP hF h8
    exact num_bad n m k l hl hk hk9 hP hF (by omega) (by omega) (gt_rg l)
  by_cases h1 : m < 1
  · exact bad (put_neg n m h1) (fits_neg n m h1)
  obtain ⟨s, rfl⟩ : ∃ s : Nat, m = s := ⟨m.toNat, by omega⟩
  by_cases h8 : 8 < s
  · exact bad (put_gt n s h8) (fits_gt n s h8)
  by_cases hf : s = 8 ∨ shr64n n (8 * s) = 0
  · have hP := put n s (by omega) (by omega) hf
    have hF := fits n s (by omega) (by omega)
    rw [decide_eq_true ((fits_iff n s (by omega) (by omega)).2 hf)] at hF
    have hR := rput n s (by omega) (by omega)
    rw [← pwb_rp n s s (by omega)] at hR
    by_cases h0 : k < 1
    · exact num_ok_0 n s k l hl hk hk9 _ s (pwb_len n s s) (by omega) hP hF hR h0
    by_cases h8' : 8 < k
    · exact num_ok_9 n s k l hl hk hk9 _ s (pwb_len n s s) (by omega) hP hF hR h8'
    exact num_ok n s k l hl hk hk9 _ s (pwb_len n s s) (by omega) hP hF hR (by omega) (by omega) (gt_rg l)
  · have hF := fits n s (by omega) (by omega)
    rw [decide_eq_false (fun e => hf ((fits_iff n s (by omega) (by omega)).1 e))] at hF
    exact bad (put_big n s (by omega) (by omega) (fun e => hf (.inr e))) hF
end Go.Proofs.Ytedpdnicpicjdaa
