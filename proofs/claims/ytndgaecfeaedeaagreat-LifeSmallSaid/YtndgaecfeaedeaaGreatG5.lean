/- Plain arithmetic of one step of a long division. No condition: nothing of any program is named. Walks of package whole: one digit of a long division. Walks of what package whole calls of Go's library: Clone, LeadingZeros16. Walks of package whole: the long division, its plain cases. -/
import Derived.Deep.DeepCutAuto
import Derived.Deep.CutBlock
import Derived.Lib.OwnBridge
import Derived.Test.YtndgaecfeaedeaaGreatG1
import Derived.Test.YtndgaecfeaedeaaGreatG4
set_option linter.unusedSimpArgs false
set_option linter.unusedVariables false
namespace Go.Proofs.YtndgaecfeaedeaaGreat.Mth

/-- What the step's first guess rests on: the parts of the two numbers. -/
structure KParts (R u ul top u2 v vl lead v2 : Nat) : Prop where
 hu : u = ul + R * (top * 65536 + u2)
 hul : ul < R
 hu2 : u2 < 65536
 hv : v = vl + R * (lead * 65536 + v2)
 hvl : vl < R
 hv2 : v2 < 65536
 norm : 32768 ≤ lead
 lead_lt : lead < 65536
 small : u < v * 65536

theorem KParts.v_pos {R u ul top u2 v vl lead v2 : Nat} (h : KParts R u ul top u2 v vl lead v2) : 0 < v := by
 have := h.small
 rcases Nat.eq_zero_or_pos v with h0 | h0
 ·rw [h0] at this; omega
 ·exact h0

theorem KParts.fits {R u ul top u2 v vl lead v2 g : Nat} (h : KParts R u ul top u2 v vl lead v2) (hg : g * v ≤ u) : g * (lead * 65536 + v2) ≤ top * 65536 + u2 := by
 have h1 : R * (g * (lead * 65536 + v2)) ≤ g * v := by
  have : g * v = g * vl + R * (g * (lead * 65536 + v2)) := by rw [h.hv, Nat.mul_add g vl, Nat.mul_left_comm g R]
  rw [this]; exact Nat.le_add_left _ _
 have h2 : R * (g * (lead * 65536 + v2)) < R * (top * 65536 + u2 + 1) := by
  have := h.hul
  have h3 := h.hu
  rw [Nat.mul_add R _ 1, Nat.mul_one]
  omega
 have := Nat.lt_of_mul_lt_mul_left h2
 omega

theorem KParts.first {R u ul top u2 v vl lead v2 : Nat} (h : KParts R u ul top u2 v vl lead v2) : u / v ≤ min (top / lead) 65535 := by
 have hq : u / v * v ≤ u := Nat.div_mul_le_self _ _
 have h1 := h.fits hq
 refine Nat.le_min.2 ⟨?_, ?_⟩
 ·rw [Nat.le_div_iff_mul_le (by have := h.norm; omega)]
  rw [Nat.mul_add, ← Nat.mul_assoc] at h1
  have := h.hu2
  generalize u / v * lead = a at *
  generalize u / v * v2 = b at *
  omega
 ·have := (Nat.div_lt_iff_lt_mul h.v_pos).2 (by rw [Nat.mul_comm]; exact h.small : u < 65536 * v)
  omega

theorem KParts.less {R u ul top u2 v vl lead v2 g : Nat} (h : KParts R u ul top u2 v vl lead v2) (hg : u / v ≤ g) (hgl : g * lead ≤ top) (ht : (top - g * lead) * 65536 + u2 < g * v2) : u / v ≤ g - 1 ∧ 0 < g := by
 have h0 : 0 < g := by
  rcases Nat.eq_zero_or_pos g with h0 | h0
  ·rw [h0] at ht; omega
  ·exact h0
 refine ⟨?_, h0⟩
 rcases Nat.lt_or_ge (u / v) g with h1 | h1
 ·omega
 ·have hg2 : g * v ≤ u := Nat.le_trans (Nat.mul_le_mul_right _ h1) (Nat.div_mul_le_self _ _)
  have h2 := h.fits hg2
  rw [Nat.mul_add, ← Nat.mul_assoc] at h2
  generalize g * lead = a at *
  generalize g * v2 = b at *
  omega

theorem KParts.near {R u ul top u2 v vl lead v2 g : Nat} (h : KParts R u ul top u2 v vl lead v2) (hgB : g ≤ 65535) (hgl : g * lead ≤ top) (ht : g * v2 ≤ (top - g * lead) * 65536 + u2 ∨ 65536 ≤ top - g * lead) : g ≤ u / v + 1 := by
 have h3 : g * (lead * 65536 + v2) ≤ top * 65536 + u2 := by
  rw [Nat.mul_add, ← Nat.mul_assoc]
  rcases ht with ht | ht
  ·generalize g * lead = a at *
   generalize g * v2 = b at *
   omega
  ·have h4 : g * v2 ≤ 65535 * 65535 := Nat.mul_le_mul hgB (by have := h.hv2; omega)
   generalize g * lead = a at *
   generalize g * v2 = b at *
   omega
 rcases Nat.eq_zero_or_pos g with h0 | h0
 ·rw [h0]; exact Nat.zero_le _
 suffices g - 1 ≤ u / v by omega
 rw [Nat.le_div_iff_mul_le h.v_pos]
 have h5 : (g - 1) * v ≤ (g - 1) * (R * (lead * 65536 + v2 + 1)) := Nat.mul_le_mul_left _ (by
  rw [Nat.mul_add R _ 1, Nat.mul_one, h.hv]; have := h.hvl; omega)
 have h6 : (g - 1) * (R * (lead * 65536 + v2 + 1)) = R * ((g - 1) * (lead * 65536 + v2 + 1)) := by rw [Nat.mul_left_comm]
 have h7 : (g - 1) * (lead * 65536 + v2 + 1) ≤ top * 65536 + u2 := by
  have e : (g - 1) * (lead * 65536 + v2 + 1) + (lead * 65536 + v2 + 1) = g * (lead * 65536 + v2) + g := by
   have : (g - 1) * (lead * 65536 + v2 + 1) + 1 * (lead * 65536 + v2 + 1) = (g - 1 + 1) * (lead * 65536 + v2 + 1) := (Nat.add_mul _ _ _).symm
   rw [Nat.one_mul, show g - 1 + 1 = g by omega, Nat.mul_add g _ 1, Nat.mul_one] at this
   exact this
  have := h.norm
  omega
 have h8 := Nat.mul_le_mul_left R h7
 have := h.hu
 omega

/-- The value of limbs of which the last three (two) are named. -/
theorem val_top2 {l : List Nat} {n : Nat} (hn : 2 ≤ n) (hl : l.length = n) : val l = val (l.take (n - 2)) + 65536 ^ (n - 2) * (l.getD (n - 1) 0 * 65536 + l.getD (n - 2) 0) := by
 have h1 := val_take_succ (l := l) (k := n - 2) (by omega)
 have h2 := val_take_succ (l := l) (k := n - 1) (by omega)
 rw [show n - 2 + 1 = n - 1 by omega] at h1
 rw [show n - 1 + 1 = n by omega, List.take_of_length_le (by omega), h1, show n - 1 = n - 2 + 1 by omega, Nat.pow_succ] at h2
 rw [h2, Nat.mul_add]
 rw [show n - 2 + 1 = n - 1 by omega, Nat.mul_assoc, Nat.mul_comm (l.getD (n - 1) 0) 65536]
 omega
theorem val_top3 {l : List Nat} {n : Nat} (hn : 2 ≤ n) (hl : l.length = n + 1) :
    val l = val (l.take (n - 2)) + 65536 ^ (n - 2) * ((l.getD n 0 * 65536 + l.getD (n - 1) 0) * 65536 + l.getD (n - 2) 0) := by
 have h0 := val_top2 (l := l.take n) (n := n) hn (by simp [hl])
 have h1 := val_take_succ (l := l) (k := n) (by omega)
 rw [List.take_of_length_le (by omega), h0] at h1
 have e1 : (l.take n).getD (n - 1) 0 = l.getD (n - 1) 0 := by simp only [List.getD_eq_getElem?_getD, List.getElem?_take]; rw [if_pos (by omega)]
 have e2 : (l.take n).getD (n - 2) 0 = l.getD (n - 2) 0 := by simp only [List.getD_eq_getElem?_getD, List.getElem?_take]; rw [if_pos (by omega)]
 rw [e1, e2, List.take_take, Nat.min_eq_left (by omega)] at h1
 obtain ⟨m, rfl⟩ : ∃ m, n = m + 2 := ⟨n - 2, by omega⟩
 simp only [Nat.add_sub_cancel] at *
 rw [h1, Nat.pow_succ, Nat.pow_succ]
 generalize 65536 ^ m = R
 grind
theorem kparts {U V : List Nat} {n : Nat} (hn : 2 ≤ n) (hU : U.length = n + 1) (hV : V.length = n) (lU : Lim U) (lV : Lim V) (hnorm : 32768 ≤ V.getD (n - 1) 0) (hs : val U < val V * 65536) :
    KParts (65536 ^ (n - 2)) (val U) (val (U.take (n - 2))) (U.getD n 0 * 65536 + U.getD (n - 1) 0) (U.getD (n - 2) 0) (val V) (val (V.take (n - 2))) (V.getD (n - 1) 0) (V.getD (n - 2) 0) := by
 refine ⟨val_top3 hn hU, ?_, lU.getD _, val_top2 hn hV, ?_, lV.getD _, hnorm, lV.getD _, hs⟩
 ·have := val_lt (lU.take (n - 2)); rwa [List.length_take, Nat.min_eq_left (by omega)] at this
 ·have := val_lt (lV.take (n - 2)); rwa [List.length_take, Nat.min_eq_left (by omega)] at this

theorem val_take_set {l : List Nat} {i x : Nat} (hi : i < l.length) : val ((l.set i x).take (i + 1)) = val (l.take i) + 65536 ^ i * x := by
 have := val_take_succ (l := l.set i x) (k := i) (by simpa using hi)
 rw [this, List.take_set_of_le (by omega)]
 simp [List.getD_eq_getElem?_getD, hi]
theorem getD_set_ne' {l : List Nat} {i k x : Nat} (h : k ≠ i) : (l.set i x).getD k 0 = l.getD k 0 := by
 simp [List.getD_eq_getElem?_getD, Ne.symm h]
theorem getD_set_same {l : List Nat} {i x : Nat} (h : i < l.length) : (l.set i x).getD i 0 = x := by
 simp [List.getD_eq_getElem?_getD, h]

/-- Subtracting g times V, in the middle: i limbs are done. -/
structure KSub (U V : List Nat) (n g i : Nat) (b : Int) (U' : List Nat) : Prop where
 len : U'.length = n + 1
 lim : Lim U'
 rest : ∀ j, i ≤ j → U'.getD j 0 = U.getD j 0
 b0 : -65536 ≤ b
 b1 : b ≤ 0
 v : (val (U'.take i) : Int) + b * (65536 ^ i : Nat) = val (U.take i) - (g : Int) * val (V.take i)
theorem KSub.start {U V : List Nat} {n : Nat} (g : Nat) (hU : U.length = n + 1) (lU : Lim U) : KSub U V n g 0 0 U :=
 ⟨hU, lU, fun _ _ => rfl, by omega, by omega, by simp [val]⟩
theorem KSub.step {U V U' : List Nat} {n g i : Nat} {b d : Int} (h : KSub U V n g i b U') (hU : U.length = n + 1) (hV : V.length = n) (lU : Lim U) (lV : Lim V) (hg : g ≤ 65535) (hi : i < n) (hd : d = (U.getD i 0 : Int) - (g : Int) * (V.getD i 0 : Int) + b) :
    KSub U V n g (i + 1) (d / 65536) (U'.set i (d % 65536).toNat) ∧ -4294967296 ≤ d ∧ d ≤ 65535 := by
 have h1 : U.getD i 0 < 65536 := lU.getD i
 have h2 : V.getD i 0 < 65536 := lV.getD i
 have h3 : (g * V.getD i 0 : Nat) ≤ 65535 * 65535 := Nat.mul_le_mul hg (by omega)
 have h3' : (g : Int) * (V.getD i 0 : Int) = ((g * V.getD i 0 : Nat) : Int) := by simp
 have hb0 := h.b0
 have hb1 := h.b1
 have hd1 : -4294967296 ≤ d := by rw [hd, h3']; omega
 have hd2 : d ≤ 65535 := by rw [hd, h3']; omega
 refine ⟨⟨by simp [h.len], h.lim.set _ _ (by omega), fun j hj => ?_, by omega, by omega, ?_⟩, hd1, hd2⟩
 ·rw [getD_set_ne' (by omega)]; exact h.rest j (by omega)
 ·rw [val_take_set (by rw [h.len]; omega), val_take_succ (l := U) (k := i) (by omega), val_take_succ (l := V) (k := i) (by omega)]
  have hv := h.v
  have e1 : (((d % 65536).toNat : Nat) : Int) = d % 65536 := by omega
  have e2 : d % 65536 + 65536 * (d / 65536) = d := Int.emod_add_mul_ediv _ _
  have e3 : ((65536 ^ (i + 1) : Nat) : Int) = (65536 ^ i : Nat) * 65536 := by rw [Nat.pow_succ]; simp
  have e4 : (65536 ^ i : Nat) * (d % 65536) + d / 65536 * ((65536 ^ i : Nat) * 65536) = (65536 ^ i : Nat) * d := by
   conv => rhs; rw [← e2]
   grind
  have e5 : ((65536 ^ i : Nat) : Int) * d = (65536 ^ i : Nat) * (U.getD i 0 : Int) - (g : Int) * ((65536 ^ i : Nat) * (V.getD i 0 : Int)) + b * (65536 ^ i : Nat) := by rw [hd]; grind
  rw [e3]
  rw [Int.natCast_add, Int.natCast_mul, e1, Int.natCast_add, Int.natCast_add, Int.natCast_mul, Int.natCast_mul, Int.mul_add]
  generalize ((65536 ^ i : Nat) : Int) = P at *
  omega

/-- The subtraction, done. -/
theorem KSub.done {U V U' : List Nat} {n g : Nat} {b d : Int} (h : KSub U V n g n b U') (hU : U.length = n + 1) (hV : V.length = n) (hd : d = (U.getD n 0 : Int) + b) :
    (val (U'.take n) : Int) + d * (65536 ^ n : Nat) = val U - (g : Int) * val V ∧ -65536 ≤ d ∧ U'.getD n 0 = U.getD n 0 := by
 have h1 := val_take_succ (l := U) (k := n) (by omega)
 rw [List.take_of_length_le (by omega)] at h1
 have hv := h.v
 rw [List.take_of_length_le (l := V) (by omega)] at hv
 refine ⟨?_, by have := h.b0; omega, h.rest n (Nat.le_refl _)⟩
 rw [h1, hd, Int.natCast_add, Int.natCast_mul]
 generalize ((65536 ^ n : Nat) : Int) = P at *
 grind

/-- Adding V back, in the middle. -/
structure KAdd (U V : List Nat) (n i c : Nat) (U' : List Nat) : Prop where
 len : U'.length = n + 1
 lim : Lim U'
 rest : ∀ j, i ≤ j → U'.getD j 0 = U.getD j 0
 c1 : c ≤ 1
 v : val (U'.take i) + c * 65536 ^ i = val (U.take i) + val (V.take i)
theorem KAdd.start {U V : List Nat} {n : Nat} (hU : U.length = n + 1) (lU : Lim U) : KAdd U V n 0 0 U :=
 ⟨hU, lU, fun _ _ => rfl, by omega, by simp [val]⟩
theorem KAdd.step {U V U' : List Nat} {n i c s : Nat} (h : KAdd U V n i c U') (hU : U.length = n + 1) (hV : V.length = n) (lU : Lim U) (lV : Lim V) (hi : i < n) (hs : s = U.getD i 0 + V.getD i 0 + c) :
    KAdd U V n (i + 1) (s / 65536) (U'.set i (s % 65536)) := by
 have h1 : U.getD i 0 < 65536 := lU.getD i
 have h2 : V.getD i 0 < 65536 := lV.getD i
 have h3 := h.c1
 refine ⟨by simp [h.len], h.lim.set _ _ (Nat.mod_lt _ (by omega)), fun j hj => ?_, by omega, ?_⟩
 ·rw [getD_set_ne' (by omega)]; exact h.rest j (by omega)
 ·rw [val_take_set (by rw [h.len]; omega), val_take_succ (l := U) (k := i) (by omega), val_take_succ (l := V) (k := i) (by omega)]
  have hv := h.v
  have e2 : s % 65536 + 65536 * (s / 65536) = s := Nat.mod_add_div _ _
  have e4 : 65536 ^ i * (s % 65536) + s / 65536 * 65536 ^ (i + 1) = 65536 ^ i * s := by
   conv => rhs; rw [← e2]
   rw [Nat.pow_succ]; grind
  have e5 : 65536 ^ i * s = 65536 ^ i * U.getD i 0 + 65536 ^ i * V.getD i 0 + c * 65536 ^ i := by rw [hs]; grind
  omega

/-- The step's result where the guess was right. -/
theorem k_right {U V U' : List Nat} {n g : Nat} {d : Int} (hU' : U'.length = n + 1) (lim : Lim U') (hq : val U / val V ≤ g) (hv : 0 < val V) (hd0 : 0 ≤ d) (hd : (val (U'.take n) : Int) + d * (65536 ^ n : Nat) = val U - (g : Int) * val V) (hdB : d < 65536) :
    g = val U / val V ∧ val (U'.set n d.toNat) = val U % val V ∧ Lim (U'.set n d.toNat) := by
 have h0 : 0 ≤ (val U : Int) - (g : Int) * val V := by
  rw [← hd]
  have := Int.mul_nonneg hd0 (Int.natCast_nonneg (65536 ^ n))
  omega
 have h1 : g * val V ≤ val U := by have : ((g * val V : Nat) : Int) = (g : Int) * val V := by simp
                                   omega
 have h2 : g = val U / val V := Nat.le_antisymm ((Nat.le_div_iff_mul_le hv).2 h1) hq
 refine ⟨h2, ?_, lim.set _ _ (by omega)⟩
 have h3 := val_take_set (l := U') (i := n) (x := d.toNat) (by omega)
 rw [List.take_of_length_le (by simp; omega)] at h3
 have h4 : ((val (U'.set n d.toNat) : Nat) : Int) = (val U : Int) - (g : Int) * val V := by
  rw [h3, ← hd, Int.natCast_add, Int.natCast_mul, show ((d.toNat : Nat) : Int) = d by omega, Int.mul_comm]
 have h5 : val U % val V + val V * (val U / val V) = val U := Nat.mod_add_div _ _
 rw [← h2, Nat.mul_comm] at h5
 have : ((g * val V : Nat) : Int) = (g : Int) * val V := by simp
 omega
/-- .. and where it was one too many: V is added back. -/
theorem k_wrong {U V U' U'' : List Nat} {n g c : Nat} {d : Int} (hU' : U'.length = n + 1) (lU' : Lim U') (hV : V.length = n) (lV : Lim V) (hq : val U / val V ≤ g) (hq2 : g ≤ val U / val V + 1) (hv : 0 < val V) (hd0 : d < 0) (hdB : -65536 ≤ d) (hd : (val (U'.take n) : Int) + d * (65536 ^ n : Nat) = val U - (g : Int) * val V)
    (ha : KAdd (U'.set n (d % 65536).toNat) V n n c U'') :
    g = val U / val V + 1 ∧ (U''.getD n 0 + c) % 65536 = 0 ∧ val (U''.set n 0) = val U % val V := by
 have lt1 : val (U'.take n) < 65536 ^ n := by have := val_lt (lU'.take n); rwa [List.length_take, Nat.min_eq_left (by omega)] at this
 have lt2 : val V < 65536 ^ n := by have := val_lt lV; rwa [hV] at this
 have h5 : val U % val V + val V * (val U / val V) = val U := Nat.mod_add_div _ _
 have h6 := Nat.mod_lt (val U) hv
 have hneg : (val U : Int) - (g : Int) * val V < 0 := by
  rw [← hd]
  have : d * (65536 ^ n : Nat) ≤ (-1) * (65536 ^ n : Nat) := Int.mul_le_mul_of_nonneg_right (by omega) (Int.natCast_nonneg _)
  omega
 have hg : g = val U / val V + 1 := by
  rcases Nat.lt_or_ge (val U / val V) g with h | h
  ·omega
  ·exfalso
   have : g = val U / val V := by omega
   rw [← this, Nat.mul_comm] at h5
   have : ((g * val V : Nat) : Int) = (g : Int) * val V := by simp
   omega
 have hr : (val U : Int) - (g : Int) * val V = (val U % val V : Nat) - (val V : Int) := by
  have e : ((val V * (val U / val V) : Nat) : Int) = (val U / val V : Nat) * (val V : Int) := by rw [Int.natCast_mul, Int.mul_comm]
  rw [hg, show (((val U / val V + 1 : Nat)) : Int) = ((val U / val V : Nat) : Int) + 1 by simp, Int.add_mul, Int.one_mul]
  omega
 have hdm : d = -1 := by
  have h7 : d * (65536 ^ n : Nat) ≥ (-1) * (65536 ^ n : Nat) - (val (U'.take n) : Int) := by omega
  have h8 : d * (65536 ^ n : Nat) > (-2) * (65536 ^ n : Nat) := by omega
  have : -2 < d := Int.lt_of_mul_lt_mul_right h8 (Int.natCast_nonneg _)
  omega
 have hva := ha.v
 rw [List.take_set_of_le (by omega), List.take_of_length_le (l := V) (by omega)] at hva
 have hval : val (U''.take n) + c * 65536 ^ n = val U % val V + 65536 ^ n := by
  rw [hdm] at hd
  omega
 have lt3 : val (U''.take n) < 65536 ^ n := by have := val_lt (ha.lim.take n); rwa [List.length_take, Nat.min_eq_left (by rw [ha.len]; omega)] at this
 have hc1 : c = 1 := by
  have := ha.c1
  rcases Nat.eq_zero_or_pos c with h0 | h0
  ·subst h0; omega
  ·omega
 have hrest := ha.rest n (Nat.le_refl _)
 rw [getD_set_same (by omega), hdm] at hrest
 have h9 := val_take_set (l := U'') (i := n) (x := 0) (by rw [ha.len]; omega)
 rw [List.take_of_length_le (by simp [ha.len])] at h9
 refine ⟨hg, ?_, ?_⟩
 ·rw [hrest, hc1]; rfl
 ·rw [h9]; subst hc1; omega

/-- The long division, the limbs from i0 on done: of lx, the quotient's limbs Q and what is left, L. -/
structure DivAt (lx Q L : List Nat) (v i0 : Nat) : Prop where
 len : L.length = lx.length
 lim : Lim L
 limQ : Lim Q
 rest : L.take i0 = lx.take i0
 small : val (L.drop i0) < v
 v : val (lx.drop i0) = v * val (Q.drop i0) + val (L.drop i0)

theorem val_take_small {l : List Nat} {m : Nat} (h : val l < 65536 ^ m) : val (l.take m) = val l := by
 rcases Nat.lt_or_ge l.length m with h1 | h1
 ·rw [List.take_of_length_le (by omega)]
 ·have hs := val_split l m h1
  rcases Nat.eq_zero_or_pos (val (l.drop m)) with h0 | h0
  ·rw [h0, Nat.mul_zero, Nat.add_zero] at hs; exact hs.symm
  ·have : 65536 ^ m * 1 ≤ 65536 ^ m * val (l.drop m) := Nat.mul_le_mul_left _ h0
   omega
theorem val_drop_small {l : List Nat} {m : Nat} (h : val l < 65536 ^ m) : val (l.drop m) = 0 := by
 rcases Nat.lt_or_ge l.length m with h1 | h1
 ·rw [List.drop_of_length_le (by omega)]; rfl
 ·have hs := val_split l m h1
  rcases Nat.eq_zero_or_pos (val (l.drop m)) with h0 | h0
  ·exact h0
  ·have : 65536 ^ m * 1 ≤ 65536 ^ m * val (l.drop m) := Nat.mul_le_mul_left _ h0
   omega

theorem getD_of_take {l l' : List Nat} {i k : Nat} (h : l.take k = l'.take k) (hi : i < k) : l.getD i 0 = l'.getD i 0 := by
 have : (l.take k).getD i 0 = (l'.take k).getD i 0 := by rw [h]
 simpa [List.getD_eq_getElem?_getD, List.getElem?_take, hi] using this

/-- The window at i. -/
theorem DivAt.window {lx Q L : List Nat} {v m i : Nat} (h : DivAt lx Q L v (i + 1)) (hm : i + m + 1 ≤ lx.length) (hv : v ≤ 65536 ^ m) :
    L = L.take i ++ (L.drop i).take (m + 1) ++ L.drop (i + m + 1) ∧ (L.take i).length = i ∧ ((L.drop i).take (m + 1)).length = m + 1 ∧ Lim ((L.drop i).take (m + 1)) ∧
    val ((L.drop i).take (m + 1)) = lx.getD i 0 + 65536 * val (L.drop (i + 1)) ∧ val ((L.drop i).take (m + 1)) < v * 65536 ∧ val (L.drop (i + m + 1)) = 0 := by
 have hl := h.len
 have hsm := h.small
 have hd : L.drop i = L.getD i 0 :: L.drop (i + 1) := drop_cons (by omega)
 have hg : L.getD i 0 = lx.getD i 0 := getD_of_take h.rest (by omega)
 have hw : val ((L.drop i).take (m + 1)) = lx.getD i 0 + 65536 * val (L.drop (i + 1)) := by
  rw [hd, List.take_succ_cons, val, hg, val_take_small (by omega)]
 have hlt : L.getD i 0 < 65536 := h.lim.getD i
 refine ⟨?_, by simp; omega, by simp; omega, (h.lim.drop i).take _, hw, ?_, ?_⟩
 ·rw [List.append_assoc, show L.drop (i + m + 1) = (L.drop i).drop (m + 1) by rw [List.drop_drop, Nat.add_assoc], List.take_append_drop, List.take_append_drop]
 ·rw [hw, ← hg]
  have : (val (L.drop (i + 1)) + 1) * 65536 ≤ v * 65536 := Nat.mul_le_mul_right _ hsm
  omega
 ·rw [show L.drop (i + m + 1) = (L.drop (i + 1)).drop m by rw [List.drop_drop]; congr 1; omega]
  exact val_drop_small (by omega)

/-- One digit more. -/
theorem DivAt.step {lx Q L U' : List Nat} {v m i : Nat} (h : DivAt lx Q L v (i + 1)) (hm : i + m + 1 ≤ lx.length) (hv : v ≤ 65536 ^ m) (hv0 : 0 < v) (hQ : i < Q.length) (hU : U'.length = m + 1) (lU : Lim U') (hr : val U' = val ((L.drop i).take (m + 1)) % v) :
    DivAt lx (Q.set i (val ((L.drop i).take (m + 1)) / v)) (L.take i ++ U' ++ L.drop (i + m + 1)) v i ∧ val ((L.drop i).take (m + 1)) / v < 65536 := by
 obtain ⟨h1, h2, h3, h4, h5, h6, h7⟩ := h.window hm hv
 have hl := h.len
 have hqb : val ((L.drop i).take (m + 1)) / v < 65536 := by rw [Nat.div_lt_iff_lt_mul hv0, Nat.mul_comm]; exact h6
 have hdrop : (L.take i ++ U' ++ L.drop (i + m + 1)).drop i = U' ++ L.drop (i + m + 1) := by
  rw [List.append_assoc, List.drop_append_of_le_length (by omega), List.drop_of_length_le (by omega), List.nil_append]
 have hval : val ((L.take i ++ U' ++ L.drop (i + m + 1)).drop i) = val U' := by
  rw [hdrop, val_append, h7, Nat.mul_zero, Nat.add_zero]
 refine ⟨⟨by simp [hU]; omega, ?_, h.limQ.set _ _ hqb, ?_, ?_, ?_⟩, hqb⟩
 ·exact Lim.append.2 ⟨Lim.append.2 ⟨h.lim.take i, lU⟩, h.lim.drop _⟩
 ·rw [List.append_assoc, List.take_append_of_le_length (by omega), List.take_take, Nat.min_self]
  have := h.rest
  have e : (L.take (i + 1)).take i = (lx.take (i + 1)).take i := by rw [this]
  simpa [List.take_take] using e
 ·rw [hval, hr]; exact Nat.mod_lt _ hv0
 ·rw [hval, hr]
  have hlx := val_drop_succ (l := lx) (k := i) (by omega)
  have hq1 := val_drop_succ (l := Q.set i (val ((L.drop i).take (m + 1)) / v)) (k := i) (by simpa using hQ)
  rw [getD_set_same hQ, List.drop_set_of_lt (show i < i + 1 by omega)] at hq1
  rw [hlx, hq1, h.v]
  have e1 : val ((L.drop i).take (m + 1)) % v + v * (val ((L.drop i).take (m + 1)) / v) = val ((L.drop i).take (m + 1)) := Nat.mod_add_div _ _
  have e2 : 65536 * (v * val (Q.drop (i + 1)) + val (L.drop (i + 1))) = v * (65536 * val (Q.drop (i + 1))) + 65536 * val (L.drop (i + 1)) := by grind
  rw [e2, Nat.mul_add]
  omega

/-- The beginning: nothing done. -/
theorem DivAt.start {lx Q : List Nat} {v i : Nat} (hl : Lim lx) (lQ : Lim Q) (hQ : Q.length = i) (hs : val (lx.drop i) < v) : DivAt lx Q lx v i :=
 ⟨rfl, hl, lQ, rfl, hs, by rw [List.drop_of_length_le (l := Q) (by omega)]; simp [val]⟩
theorem DivAt.done {lx Q L : List Nat} {v : Nat} (h : DivAt lx Q L v 0) : val Q = val lx / v ∧ val L = val lx % v := by
 have h1 := h.v
 have h2 := h.small
 simp only [List.drop_zero] at h1 h2
 have hv : 0 < v := by omega
 rw [h1]
 exact ⟨by rw [Nat.mul_add_div hv, Nat.div_eq_of_lt h2, Nat.add_zero], by rw [Nat.mul_add_mod, Nat.mod_eq_of_lt h2]⟩

/-- The shifted divisor: its limbs, the most significant bit set. -/
theorem shl_divisor {y m b : Nat} {l : List Nat} (hm : siz y = m) (hm1 : 1 ≤ m) (hlen : l.length = m + 1) (hl : Lim l) (hval : val l = y * 2 ^ b)
    (h1 : 32768 ≤ (limbs y).getD (m - 1) 0 * 2 ^ b) (h2 : (limbs y).getD (m - 1) 0 * 2 ^ b < 65536) (hb : b < 16) :
    val (l.take m) = y * 2 ^ b ∧ y * 2 ^ b < 65536 ^ m ∧ 32768 ≤ (l.take m).getD (m - 1) 0 ∧ 65536 ^ (m - 1) * 32768 ≤ y * 2 ^ b := by
 have hy := val_take_succ (l := limbs y) (k := m - 1) (by show m - 1 < siz y; omega)
 rw [show m - 1 + 1 = m by omega, List.take_of_length_le (by show siz y ≤ m; omega), val_limbs] at hy
 have ht := val_lt ((lim_limbs y).take (m - 1))
 rw [List.length_take, Nat.min_eq_left (by show m - 1 ≤ siz y; omega)] at ht
 obtain ⟨d, hd⟩ : ∃ d, d = (limbs y).getD (m - 1) 0 := ⟨_, rfl⟩
 obtain ⟨t, hT⟩ : ∃ t, t = val ((limbs y).take (m - 1)) := ⟨_, rfl⟩
 rw [← hd, ← hT] at hy
 rw [← hT] at ht
 rw [← hd] at h1 h2
 have hp : 65536 ^ m = 65536 ^ (m - 1) * 65536 := by rw [← Nat.pow_succ]; congr 1; omega
 have h216 : 2 ^ b * 2 ^ (16 - b) = 65536 := by rw [← Nat.pow_add, show b + (16 - b) = 16 by omega]
 have hd1 : (d + 1) * 2 ^ b ≤ 65536 := by
  rw [← h216, Nat.mul_comm (2 ^ b)] at h2 ⊢
  exact Nat.mul_le_mul_right _ (Nat.lt_of_mul_lt_mul_right h2)
 have hb0 : 0 < 2 ^ b := Nat.pow_pos (by omega)
 have hlt : y * 2 ^ b < 65536 ^ m := by
  have e1 : y + 1 ≤ 65536 ^ (m - 1) * (d + 1) := by rw [Nat.mul_add, Nat.mul_one]; omega
  have e2 := Nat.mul_le_mul_right (2 ^ b) e1
  rw [Nat.mul_assoc, Nat.add_mul, Nat.one_mul] at e2
  have e3 := Nat.mul_le_mul_left (65536 ^ (m - 1)) hd1
  rw [hp]; omega
 have hge : 65536 ^ (m - 1) * 32768 ≤ y * 2 ^ b := by
  rw [hy, Nat.add_mul, Nat.mul_assoc]
  have := Nat.mul_le_mul_left (65536 ^ (m - 1)) h1
  omega
 have hv : val (l.take m) = y * 2 ^ b := by rw [val_take_small (by rw [hval]; exact hlt), hval]
 refine ⟨hv, hlt, ?_, hge⟩
 have h5 := val_take_succ (l := l.take m) (k := m - 1) (by simp; omega)
 rw [show m - 1 + 1 = m by omega, List.take_of_length_le (l := l.take m) (by simp; omega), hv, List.take_take, Nat.min_eq_left (by omega)] at h5
 have h6 := val_lt (hl.take (m - 1))
 rw [List.length_take, Nat.min_eq_left (by omega)] at h6
 rcases Nat.lt_or_ge ((l.take m).getD (m - 1) 0) 32768 with h7 | h7
 ·exfalso
  have h8 := Nat.mul_le_mul_left (65536 ^ (m - 1)) (show (l.take m).getD (m - 1) 0 + 1 ≤ 32768 by omega)
  rw [Nat.mul_add, Nat.mul_one] at h8
  omega
 ·exact h7
/-- Of the shifted dividend, the limbs above the quotient's are less than the divisor. -/
theorem shl_top {x n m b v : Nat} {l : List Nat} (hn : siz x ≤ n) (hlen : l.length = n + 1) (hval : val l = x * 2 ^ b) (hb : b < 16) (hm : 1 ≤ m) (hmn : m ≤ n) (hv : 65536 ^ (m - 1) * 32768 ≤ v) : val (l.drop (n + 1 - m)) < v := by
 have hs := val_split l (n + 1 - m) (by omega)
 have hx : x < 65536 ^ n := siz_le.1 hn
 have h16 : 2 ^ b ≤ 32768 := by
  have : 2 ^ b ≤ 2 ^ 15 := Nat.pow_le_pow_right (by omega) (by omega)
  simpa using this
 have hb0 : 0 < 2 ^ b := Nat.pow_pos (by omega)
 have e : 65536 ^ n = 65536 ^ (n + 1 - m) * 65536 ^ (m - 1) := by rw [← Nat.pow_add]; congr 1; omega
 have h1 : x * 2 ^ b < 65536 ^ (n + 1 - m) * (65536 ^ (m - 1) * 32768) := by
  calc x * 2 ^ b < 65536 ^ n * 2 ^ b := Nat.mul_lt_mul_of_pos_right hx hb0
   _ ≤ 65536 ^ n * 32768 := Nat.mul_le_mul_left _ h16
   _ = _ := by rw [e, Nat.mul_assoc]
 have h2 : 65536 ^ (n + 1 - m) * val (l.drop (n + 1 - m)) < 65536 ^ (n + 1 - m) * (65536 ^ (m - 1) * 32768) := by omega
 have := Nat.lt_of_mul_lt_mul_left h2
 omega
end Go.Proofs.YtndgaecfeaedeaaGreat.Mth
namespace Go.Proofs.YtndgaecfeaedeaaGreat
open Go.RowKit Lex Mth
attribute [local go_sem] run_indexAt_at add_zero_map Oper.semAt_some at_some

theorem dig_mid {A U C : List Nat} {j : Nat} (hj : j < U.length) : dig (A ++ U ++ C) (A.length + j) = dig U j := by
 unfold dig
 rw [List.append_assoc, List.getD_eq_getElem?_getD, List.getElem?_append_right (by omega), show A.length + j - A.length = j by omega, List.getElem?_append_left hj, List.getD_eq_getElem?_getD]
theorem set_mid {A U C : List Nat} {j x : Nat} (hj : j < U.length) : (A ++ U ++ C).set (A.length + j) x = A ++ U.set j x ++ C := by
 rw [List.append_assoc, List.set_append_right _ _ (by omega), show A.length + j - A.length = j by omega, List.set_append_left _ _ hj, List.append_assoc]
theorem Row.cellIn {w : World} {g o : Nat} {A U C : List Nat} (h : Row w g (A ++ U ++ C)) (ho : A.length = o) {j : Nat} (hj : j < U.length) : w.cell? ⟨g, o + j, none⟩ = some (.int .u16 (dig U j : Nat)) := by
 subst ho
 rw [h.cell (by simp; omega), dig_mid hj]
theorem Row.setIn {w : World} {g o : Nat} {A U C : List Nat} (h : Row w g (A ++ U ++ C)) (ho : A.length = o) {j : Nat} (hj : j < U.length) (x : Nat) : Row (w.setCell ⟨g, o + j, none⟩ (.int .u16 (x : Nat))) g (A ++ U.set j x ++ C) := by
 subst ho
 have := h.set (A.length + j) x
 rwa [set_mid hj] at this

theorem bits_or64 (a b : Nat) (ha : a < 18446744073709551616) (hb : b < 18446744073709551616) (hab : a ||| b < 18446744073709551616) : bits .or .u64 (a : Int) (b : Int) = ((a ||| b : Nat) : Int) := by
 have e : (BitVec.ofInt 64 (a : Int) ||| BitVec.ofInt 64 (b : Int)).toNat = a ||| b := by
  rw [BitVec.ofInt_natCast, BitVec.ofInt_natCast, BitVec.toNat_or, BitVec.toNat_ofNat, BitVec.toNat_ofNat, Nat.mod_eq_of_lt (by simpa using ha), Nat.mod_eq_of_lt (by simpa using hb)]
 show IntKind.u64.wrap ((BitVec.ofInt 64 (a : Int) ||| BitVec.ofInt 64 (b : Int)).toNat : Int) = _
 rw [e]
 simp only [IntKind.wrap, IntKind.bits, IntKind.signed]
 generalize a ||| b = c at *
 simp
 omega
theorem or_low64 (r x : Nat) (h : x < 65536) (hr : r < 281474976710656) : bits .or .u64 ((r : Int) * 65536) (x : Int) = ((r * 65536 + x : Nat) : Int) := by
 rw [← or_nat r x h]
 exact bits_or64 (r * 65536) x (by omega) (by omega) (by rw [or_nat r x h]; omega)

set_option maxRecDepth 100000 in
set_option maxHeartbeats 2000000 in
theorem digit_any (gu o cu gv cv n : Nat) (A U C V D : List Nat) (w : World) (hu : Row w gu (A ++ U ++ C)) (hv : Row w gv ([] ++ V ++ D)) (hne : gu ≠ gv) (ho : A.length = o) (ho2 : o ≤ 4194304) (hU : U.length = n + 1) (hV : V.length = n) (hn : 2 ≤ n) (hn2 : n ≤ 1048576)
    (lU : Lim U) (lV : Lim V) (hnorm : 32768 ≤ dig V (n - 1)) (hs : val U < val V * 65536) :
    Calls Tryz.prog 212 #[.slice (some ⟨gu, o, none⟩) (n + 1) cu, .slice (some ⟨gv, 0, none⟩) n cv] w fun e w' => e = .returned (.int .u16 ((val U / val V : Nat) : Int)) ∧
     ∃ U', U'.length = n + 1 ∧ Lim U' ∧ val U' = val U % val V ∧ Row w' gu (A ++ U' ++ C) ∧ Keeps (fun b => b = gu) w w' := by
 have hK := kparts hn hU hV lU lV hnorm hs
 have hhu : Has (some ⟨gu, o, none⟩) (n + 1) := Has.some _ _
 have hhv : Has (some ⟨gv, 0, none⟩) n := Has.some _ _
 have gu1 := hu.lt
 have gv1 := hv.lt
 go_enter Tryz.func212, Tryz.ntmps212
 go_wp2_with fail
 obtain ⟨top, htop⟩ : ∃ top, top = dig U n * 65536 + dig U (n - 1) := ⟨_, rfl⟩
 have lun : dig U n < 65536 := lU.getD n
 have lum : dig U (n - 1) < 65536 := lU.getD (n - 1)
 have lu2 : dig U (n - 2) < 65536 := lU.getD (n - 2)
 have lld : dig V (n - 1) < 65536 := lV.getD (n - 1)
 have lv2 : dig V (n - 2) < 65536 := lV.getD (n - 2)
 have hor := or_low64 (dig U n) (dig U (n - 1)) lum (by omega)
 rw [← htop] at hor
 have hK' : KParts (65536 ^ (n - 2)) (val U) (val (U.take (n - 2))) top (dig U (n - 2)) (val V) (val (V.take (n - 2))) (dig V (n - 1)) (dig V (n - 2)) := by rw [htop]; exact hK
 have ltop : top < 4294967296 := by omega
 have Htop := Lib.hid htop
 have HK := Lib.hid hK'
 clear htop hK hK' hs
 have c1 := hu.cellIn ho (j := n) (by omega)
 have c2 := hu.cellIn ho (j := n - 1) (by omega)
 have c3 := hv.cellIn (o := 0) rfl (j := n - 1) (by omega)
 simp only [Nat.zero_add] at c3
 refine Lex.regionE 21 (fun _ => false) (fun _ _ => True) (fun _ _ _ => True) (by kernel_rfl) (by kernel_rfl) (fun _ _ _ _ h _ => h) ?_
 iterate 21
  refine Walk.one (x := ?_) rfl rfl (fun w1 hI hL K hK => ?_) ?_
  rotate_left
  ·obtain ⟨hc, hf⟩ := bcell hI
   go_simp
   repeat (first | (go_ints; try go_simp) | (simp only [↓IntWalk.iteOmega]; try go_simp))
   exact hK
  simp only [Pq1]
 refine Walk.nil fun w1 hI1 _ => ?_
 simp only [List.drop_succ_cons, List.drop_nil, List.drop_zero]
 replace hu := hu.ext hI1
 replace hv := hv.ext hI1
 have hkeep : Keeps (fun b => b = gu) w w1 := .of_ext hI1
 clear hI1 c1 c2 c3
 obtain ⟨q0, hq0⟩ : ∃ q0, q0 = top / dig V (n - 1) := ⟨_, rfl⟩
 have hq0t : q0 ≤ top := by rw [hq0]; exact Nat.div_le_self _ _
 have hdiv : (top : Int) / (dig V (n - 1) : Int) = (q0 : Int) := by rw [hq0]; rfl
 have Hq0 := Lib.hid hq0
 clear hq0
 go_upto_region 3 with fail
 go_cut [8] (fun v wx => ∃ g0 : Nat, v = .int .u64 (g0 : Nat) ∧ g0 = min q0 65535 ∧ wx = w1)
 case first =>
  by_cases hm : q0 ≤ 65535
  ·go_wp2_with fail
   go_meet
   case rel => exact ⟨q0, rfl, by omega, rfl⟩
  ·go_wp2_with fail
   go_meet
   case rel => exact ⟨65535, rfl, by omega, rfl⟩
 case rest =>
 obtain ⟨g0, rfl, hg0, rfl⟩ := hcut
 go_upto_block 0 with fail
 go_cut [8] (fun v wx => ∃ g : Nat, v = .int .u64 (g : Nat) ∧ val U / val V ≤ g ∧ g ≤ val U / val V + 1 ∧ g ≤ 65535 ∧ Row wx gu (A ++ U ++ C) ∧ Row wx gv ([] ++ V ++ D) ∧ Keeps (fun b => b = gu) w wx)
 case first =>
  have hg0q : val U / val V ≤ g0 := by have := HK.out.first; rw [hg0, Hq0.out]; exact this
  have hg0t : g0 * dig V (n - 1) ≤ top := by
   rw [hg0, Hq0.out]
   calc min (top / dig V (n - 1)) 65535 * dig V (n - 1) ≤ top / dig V (n - 1) * dig V (n - 1) := Nat.mul_le_mul_right _ (Nat.min_le_left _ _)
    _ ≤ top := Nat.div_mul_le_self _ _
  have hg0b : g0 ≤ 65535 := by omega
  clear Hq0 hdiv hq0t hor hg0
  go_wp2_with fail
  go_loopw [8] (fun v wr => ∃ g : Nat, v = .int .u64 (g : Nat) ∧ val U / val V ≤ g ∧ g ≤ 65535 ∧ g * dig V (n - 1) ≤ top ∧ Row wr gu (A ++ U ++ C) ∧ Row wr gv ([] ++ V ++ D) ∧ Keeps (fun b => b = gu) w wr) (fun v _ => (intOf v).toNat)
  case atStart => exact ⟨g0, rfl, hg0q, hg0b, hg0t, hu, hv, hkeep⟩
  case round =>
   clear hu hv hkeep hg0q hg0t hg0b
   obtain ⟨g, rfl, hgq, hgb, hgt, hu, hv, hkeep⟩ := hrel
   have hgu := hu.lt
   have hgv := hv.lt
   have c1 := hu.cellIn ho (j := n - 2) (by omega)
   have c2 := hv.cellIn (o := 0) rfl (j := n - 2) (by omega)
   simp only [Nat.zero_add] at c2
   obtain ⟨rem, hrem⟩ : ∃ rem, rem = top - g * dig V (n - 1) := ⟨_, rfl⟩
   have hremI : (top : Int) - (g : Int) * (dig V (n - 1) : Int) = (rem : Int) := by
    have : ((g * dig V (n - 1) : Nat) : Int) = (g : Int) * (dig V (n - 1) : Int) := by simp
    omega
   have hremb : rem < 4294967296 := by omega
   have hor2 := or_low64 rem (dig U (n - 2)) lu2 (by omega)
   have hgv2 : g * dig V (n - 2) ≤ 4294836225 := by
    have h : g * dig V (n - 2) ≤ 65535 * 65535 := Nat.mul_le_mul hgb (by omega)
    exact h
   have hgld : g * dig V (n - 1) ≤ 4294836225 := by
    have h : g * dig V (n - 1) ≤ 65535 * 65535 := Nat.mul_le_mul hgb (by omega)
    exact h
   have Hrem := Lib.hid hrem
   have Hgt := Lib.hid hgt
   clear hrem hgt
   go_wp2_with fail
   refine Lex.regionE 22 (fun _ => false) (fun _ _ => True) (fun _ _ _ => True) (by kernel_rfl) (by kernel_rfl) (fun _ _ _ _ h _ => h) ?_
   iterate 22
    refine Walk.one (x := ?_) rfl rfl (fun w1 hI hL K hK => ?_) ?_
    rotate_left
    ·obtain ⟨hc, hf⟩ := bcell hI
     go_simp
     repeat (first | (go_ints; try go_simp) | (simp only [↓IntWalk.iteOmega]; try go_simp))
     exact hK
    simp only [Pq1]
   refine Walk.nil fun w1 hI1 _ => ?_
   simp only [List.drop_succ_cons, List.drop_nil, List.drop_zero]
   replace hu := hu.ext hI1
   replace hv := hv.ext hI1
   replace hkeep : Keeps (fun b => b = gu) w w1 := hkeep.trans (.of_ext hI1)
   clear hI1 c1 c2
   by_cases ht : rem * 65536 + dig U (n - 2) < g * dig V (n - 2)
   ·have hless := HK.out.less hgq Hgt.out (by rw [← Hrem.out]; exact ht)
    have ht' : (rem : Int) * 65536 + (dig U (n - 2) : Int) < (g : Int) * (dig V (n - 2) : Int) := by
     have : ((g * dig V (n - 2) : Nat) : Int) = (g : Int) * (dig V (n - 2) : Int) := by simp
     omega
    obtain ⟨g', hg'⟩ : ∃ g', g' = g - 1 := ⟨_, rfl⟩
    have hgp : 0 < g := hless.2
    have hgI : (g : Int) - 1 = (g' : Int) := by omega
    have hgl : g' < g := by omega
    have hgq' : val U / val V ≤ g' := by rw [hg']; exact hless.1
    have hgt' : g' * dig V (n - 1) ≤ top := Nat.le_trans (Nat.mul_le_mul_right _ (by omega)) Hgt.out
    have hgld' : g' * dig V (n - 1) ≤ 4294836225 := Nat.le_trans (Nat.mul_le_mul_right _ (by omega)) hgld
    obtain ⟨rem', hrem'⟩ : ∃ rem, rem = top - g' * dig V (n - 1) := ⟨_, rfl⟩
    have hremI' : (top : Int) - (g' : Int) * (dig V (n - 1) : Int) = (rem' : Int) := by
     have : ((g' * dig V (n - 1) : Nat) : Int) = (g' : Int) * (dig V (n - 1) : Int) := by simp
     omega
    have hremb' : rem' < 4294967296 := by omega
    have Hgq' := Lib.hid hgq'
    have Hg' := Lib.hid hg'
    have Hgt' := Lib.hid hgt'
    have Hrem' := Lib.hid hrem'
    clear ht hless hgq' hgt' hrem' hg'
    by_cases hb : 65535 < rem'
    ·have hb' : (65535 : Int) < (rem' : Int) := by omega
     go_wp2_with fail
     go_meet
     case rel => exact ⟨g', rfl, Hgq'.out, HK.out.near (by omega) Hgt'.out (.inr (by rw [← Hrem'.out]; omega)), by omega, hu, hv, hkeep⟩
    ·have hb' : ¬ (65535 : Int) < (rem' : Int) := by omega
     go_wp2_with fail
     go_roundw
     case rel => exact ⟨g', rfl, Hgq'.out, by omega, Hgt'.out, hu, hv, hkeep⟩
     case measure => simp [intOf]; omega
   ·have ht' : ¬ (rem : Int) * 65536 + (dig U (n - 2) : Int) < (g : Int) * (dig V (n - 2) : Int) := by
     have : ((g * dig V (n - 2) : Nat) : Int) = (g : Int) * (dig V (n - 2) : Int) := by simp
     omega
    have hnear := HK.out.near hgb Hgt.out (.inl (by rw [← Hrem.out]; omega))
    have Hnear := Lib.hid hnear
    clear ht hnear
    go_wp2_with fail
    go_meet
    case rel => exact ⟨g, rfl, hgq, Hnear.out, hgb, hu, hv, hkeep⟩
 case rest =>
 obtain ⟨g, rfl, hg1, hg2, hg3, hu2, hv2, hk2⟩ := hcut
 have Hg1 := Lib.hid hg1
 have Hg2 := Lib.hid hg2
 have hS0 := KSub.start (V := V) g hU lU
 clear hg1 hg2 hu hv hkeep hg0 hor hdiv
 go_upto_block 2 with fail
 go_cut [9] (fun v wx => ∃ (b : Int) (U' : List Nat), v = .int .i64 b ∧ KSub U V n g n b U' ∧ Row wx gu (A ++ U' ++ C) ∧ Row wx gv ([] ++ V ++ D) ∧ Keeps (fun b => b = gu) w wx)
 case first =>
  go_wp2_with fail
  go_loopw [75, 9] (fun v v9 wr => ∃ (i : Nat) (b : Int) (U' : List Nat), v = .int .i64 (i : Nat) ∧ v9 = .int .i64 b ∧ i ≤ n ∧ KSub U V n g i b U' ∧ Row wr gu (A ++ U' ++ C) ∧ Row wr gv ([] ++ V ++ D) ∧ Keeps (fun b => b = gu) w wr) (fun v _ _ => (n - intOf v).toNat)
  case atStart => exact ⟨0, 0, U, rfl, rfl, by omega, hS0, hu2, hv2, hk2⟩
  case round =>
   clear hu2 hv2 hk2 hS0
   obtain ⟨i, b, U', rfl, rfl, hi, hS, hu, hv, hkeep⟩ := hrel
   by_cases hin : i < n
   ·have hst := hS.step hU hV lU lV hg3 hin rfl
    obtain ⟨d, hd⟩ : ∃ d : Int, d = (U.getD i 0 : Int) - (g : Int) * (V.getD i 0 : Int) + b := ⟨_, rfl⟩
    rw [← hd] at hst
    obtain ⟨hst, hd1, hd2⟩ := hst
    have hSl := hS.len
    have c1 := hu.cellIn ho (j := i) (by omega)
    have f1 := hu.free (o + i)
    have c2 := hv.cellIn (o := 0) rfl (j := i) (by omega)
    simp only [Nat.zero_add] at c2
    have e1 : dig U' i = dig U i := hS.rest i (Nat.le_refl _)
    rw [e1] at c1
    have hdI : (dig U i : Int) - (g : Int) * (dig V i : Int) + b = d := hd.symm
    have lu : dig U i < 65536 := lU.getD i
    have lv : dig V i < 65536 := lV.getD i
    have hb0 := hS.b0
    have hb1 := hS.b1
    have hgv : g * dig V i ≤ 4294836225 := by
     have h : g * dig V i ≤ 65535 * 65535 := Nat.mul_le_mul hg3 (by omega)
     exact h
    obtain ⟨e, he⟩ : ∃ e, e = (d % 65536).toNat := ⟨_, rfl⟩
    have hw16 : IntKind.u16.wrap d = (e : Int) := by simp [IntKind.wrap, IntKind.bits, IntKind.signed]; omega
    rw [← he] at hst
    have hu3 := hu.setIn ho (j := i) (by omega) e
    have hv3 := hv.other (a := ⟨gu, o + i, none⟩) hne (.int .u16 (e : Nat))
    have hk3 := hkeep.setCell (p := ⟨gu, o + i, none⟩) rfl (.int .u16 (e : Nat))
    have Hst := Lib.hid hst
    have Hd := Lib.hid hd
    clear hst hd he
    go_wp2_with fail
    go_roundw
    case rel => exact ⟨i + 1, _, _, rfl, rfl, by omega, Hst.out, hu3, hv3, hk3⟩
    case measure => simp [intOf]; omega
   ·obtain rfl : i = n := by omega
    go_wp2_with fail
    go_meet
    case rel => exact ⟨b, U', rfl, hS, hu, hv, hkeep⟩
 case rest =>
 clear hu2 hv2 hk2 hS0
 obtain ⟨b, U', rfl, hS, hu, hv, hkeep⟩ := hcut
 have hSl := hS.len
 have c1 := hu.cellIn ho (j := n) (by omega)
 have f1 := hu.free (o + n)
 have hb0 := hS.b0
 have hb1 := hS.b1
 obtain ⟨d, hd⟩ : ∃ d : Int, d = (U.getD n 0 : Int) + b := ⟨_, rfl⟩
 obtain ⟨hdone, hd1, hrest⟩ := hS.done hU hV hd
 have e1 : dig U' n = dig U n := hrest
 rw [e1] at c1
 have hdI : (dig U n : Int) + b = d := hd.symm
 have hd2 : d ≤ 65535 := by omega
 obtain ⟨e, he⟩ : ∃ e, e = (d % 65536).toNat := ⟨_, rfl⟩
 have hw16 : IntKind.u16.wrap d = (e : Int) := by simp [IntKind.wrap, IntKind.bits, IntKind.signed]; omega
 have hu3 := hu.setIn ho (j := n) (by omega) e
 have hv3 := hv.other (a := ⟨gu, o + n, none⟩) hne (.int .u16 (e : Nat))
 have hk3 := hkeep.setCell (p := ⟨gu, o + n, none⟩) rfl (.int .u16 (e : Nat))
 have hvp : 0 < val V := HK.out.v_pos
 have hlS := hS.lim
 have Hdone := Lib.hid hdone
 have He := Lib.hid he
 have Hrest := Lib.hid hrest
 have Hd := Lib.hid hd
 have HS := Lib.hid hS
 clear hdone he hrest hd hS e1
 by_cases hd0 : 0 ≤ d
 ·have hfin := k_right hSl hlS Hg1.out hvp hd0 Hdone.out (by omega)
  have Hfin := Lib.hid hfin
  clear hfin
  have hwg : IntKind.u16.wrap (g : Int) = (g : Int) := by simp [IntKind.wrap, IntKind.bits, IntKind.signed]; omega
  go_wp2_with fail
  go_ret
  obtain ⟨h1, h2, h3⟩ := Hfin.out
  have : e = d.toNat := by have := He.out; omega
  refine ⟨by rw [h1]; rfl, U'.set n e, by simp [hSl], by rw [this]; exact h3, by rw [this]; exact h2, hu3, hk3⟩
 ·have hlU2 : Lim (U'.set n e) := hlS.set _ _ (by have := He.out; omega)
  have hlen2 : (U'.set n e).length = n + 1 := by simp [hSl]
  have hA0 := KAdd.start (V := V) hlen2 hlU2
  go_upto_block 4 with fail
  go_cut [14] (fun v wx => ∃ (c : Nat) (U'' : List Nat), v = .int .u32 (c : Nat) ∧ KAdd (U'.set n e) V n n c U'' ∧ Row wx gu (A ++ U'' ++ C) ∧ Row wx gv ([] ++ V ++ D) ∧ Keeps (fun b => b = gu) w wx)
  case first =>
   clear c1 f1 hu hv hkeep
   go_wp2_with fail
   go_loopw [119, 14] (fun v v14 wr => ∃ (i c : Nat) (U'' : List Nat), v = .int .i64 (i : Nat) ∧ v14 = .int .u32 (c : Nat) ∧ i ≤ n ∧ KAdd (U'.set n e) V n i c U'' ∧ Row wr gu (A ++ U'' ++ C) ∧ Row wr gv ([] ++ V ++ D) ∧ Keeps (fun b => b = gu) w wr) (fun v _ _ => (n - intOf v).toNat)
   case atStart => exact ⟨0, 0, _, rfl, rfl, by omega, hA0, hu3, hv3, hk3⟩
   case round =>
    clear hu3 hv3 hk3 hA0
    obtain ⟨i, c, U'', rfl, rfl, hi, hS, hu, hv, hkeep⟩ := hrel
    by_cases hin : i < n
    ·have hst := hS.step hlen2 hV hlU2 lV hin rfl
     obtain ⟨s, hs⟩ : ∃ s, s = (U'.set n e).getD i 0 + V.getD i 0 + c := ⟨_, rfl⟩
     rw [← hs] at hst
     have hSl2 := hS.len
     have c1 := hu.cellIn ho (j := i) (by omega)
     have f1 := hu.free (o + i)
     have c2 := hv.cellIn (o := 0) rfl (j := i) (by omega)
     simp only [Nat.zero_add] at c2
     have e1 : dig U'' i = dig (U'.set n e) i := hS.rest i (Nat.le_refl _)
     rw [e1] at c1
     have lu : dig (U'.set n e) i < 65536 := hlU2.getD i
     have lv : dig V i < 65536 := lV.getD i
     have hc1 := hS.c1
     have hsI : (dig (U'.set n e) i : Int) + (dig V i : Int) + (c : Int) = (s : Int) := by rw [hs]; rfl
     have hsb : s < 4294967296 := by unfold dig at *; omega
     have hw16' : IntKind.u16.wrap (s : Int) = ((s % 65536 : Nat) : Int) := by simp [IntKind.wrap, IntKind.bits, IntKind.signed]
     have hu3 := hu.setIn ho (j := i) (by omega) (s % 65536)
     have hv3 := hv.other (a := ⟨gu, o + i, none⟩) hne (.int .u16 ((s % 65536 : Nat) : Int))
     have hk3 := hkeep.setCell (p := ⟨gu, o + i, none⟩) rfl (.int .u16 ((s % 65536 : Nat) : Int))
     have Hst := Lib.hid hst
     have Hs := Lib.hid hs
     clear hst hs
     go_wp2_with fail
     go_roundw
     case rel => exact ⟨i + 1, s / 65536, _, rfl, rfl, by omega, Hst.out, hu3, hv3, hk3⟩
     case measure => simp [intOf]; omega
    ·obtain rfl : i = n := by omega
     go_wp2_with fail
     go_meet
     case rel => exact ⟨c, U'', rfl, hS, hu, hv, hkeep⟩
  case rest =>
  clear c1 f1 hu hv hkeep hu3 hv3 hk3 hA0
  obtain ⟨c, U'', rfl, hA, hu, hv, hkeep⟩ := hcut
  have hAl := hA.len
  have hc1 := hA.c1
  have c1 := hu.cellIn ho (j := n) (by omega)
  have f1 := hu.free (o + n)
  obtain ⟨h1, h2, h3⟩ := k_wrong hSl hlS hV lV Hg1.out Hg2.out hvp (by omega) hd1 Hdone.out (by rw [← He.out]; exact hA)
  have hwc : IntKind.u16.wrap (c : Int) = (c : Int) := by simp [IntKind.wrap, IntKind.bits, IntKind.signed]; omega
  have hwz : IntKind.u16.wrap ((dig U'' n : Int) + (c : Int)) = 0 := by rw [show IntKind.u16.wrap ((dig U'' n : Int) + (c : Int)) = ((dig U'' n : Int) + (c : Int)) % 65536 by simp [IntKind.wrap, IntKind.bits, IntKind.signed]]; unfold dig; omega
  have hwg : IntKind.u16.wrap (g : Int) = (g : Int) := by simp [IntKind.wrap, IntKind.bits, IntKind.signed]; omega
  have hg0 : 0 < g := by rw [h1]; exact Nat.succ_pos _
  have hu3 := hu.setIn ho (j := n) (by omega) 0
  have hk3 := hkeep.setCell (p := ⟨gu, o + n, none⟩) rfl (.int .u16 ((0 : Nat) : Int))
  have hl3 : Lim (U''.set n 0) := hA.lim.set _ _ (by omega)
  have lz : dig U'' n < 65536 := hA.lim.getD n
  have H1 := Lib.hid h1
  have H3 := Lib.hid h3
  clear h1 h2 h3
  go_wp2_with fail
  go_ret
  have h1 := H1.out
  refine ⟨?_, U''.set n 0, by simp [hAl], hl3, H3.out, by rw [← List.append_assoc]; exact hu3, hk3⟩
  show Ending.returned (.int .u16 ((g : Int) - 1)) = _
  rw [h1]
  simp
end Go.Proofs.YtndgaecfeaedeaaGreat
namespace Go.Proofs.YtndgaecfeaedeaaGreat
open Go.RowKit Lex Mth
attribute [local go_sem] run_indexAt_at add_zero_map Oper.semAt_some at_some

set_option maxRecDepth 100000 in
theorem clone_any (p : Option Addr) (n cap : Nat) (l : List Nat) (w : World) (h : U16 w p n cap l) :
    Calls Tryz.prog 139 #[.slice p n cap] w fun e w' => ∃ p' c', e = .returned (.slice p' n c') ∧ U16 w' p' n c' l ∧ Own w.heap.size w' p' c' ∧ Ext w w' := by
 obtain ⟨i0, hi, hz0, hz1, hz2⟩ := info_parts Tryz.info16
 have q29 : ∀ (w : World) (a : Option Addr) (n c n' c' : Nat), (binOp .eql 36 (.slice a n c) (.slice none n' c')).run Tryz.prog w = .ok (.bool a.isNone) w := fun w a n c n' c' => Lib.run_eql_slice_nil w _ _ a n c n' c' Tryz.underlying36
 cases p with
 | none =>
  have h0 : n = 0 := by have := h.has; unfold Has at this; simpa using this
  subst h0
  go_enter Tryz.func139, Tryz.ntmps139
  go_wp2
  go_ret
  refine ⟨_, _, rfl, ⟨h.len, Nat.le_refl _, by omega, ?_, h.lim, fun j hj => absurd hj (Nat.not_lt_zero _)⟩, .inl rfl, Below.refl _ _⟩
  unfold Has; exact .inl rfl
 | some ad =>
  have hr := h.reach
  have hlen := h.len
  have hcell := h.cell
  go_enter Tryz.func139, Tryz.ntmps139
  have hlt : ∀ j u, (u16s l)[j]? = some u → (w.alloc (.cells #[] 153)).cell? (ad.add j) = some u := by
   intro j u hj
   rw [List.getElem?_map, Option.map_eq_some_iff] at hj
   obtain ⟨x, hx, rfl⟩ := hj
   obtain ⟨hjl, hx'⟩ := List.getElem?_eq_some_iff.1 hx
   have hc := hcell j (by omega)
   have e : at_ (some ad) j = ad.add j := by unfold at_; rfl
   rw [e] at hc
   have hd : dig l j = x := by unfold dig; rw [List.getD_eq_getElem?_getD, hx]; rfl
   rw [hd] at hc
   exact (((Below.refl w.heap.size w).alloc (Nat.le_refl _) (.cells #[] 153)).cell (World.block_lt_of_cell? w _ hc)).trans hc
  have hown0 : (w.alloc (.cells #[] 153)).ownsRow w.heap.size 153 1 (.slice (some ⟨w.heap.size, 0, none⟩) 0 0) 0 [] := World.ownsRow_made w _ 0 (Nat.le_refl _) (by unfold maxLen; omega) rfl
  go_wp2_with (at_builtin; refine wpList_append_own _ rfl (.tmp 5) (.tmp 6) 36 rfl w.heap.size 153 i0 (.int .u16 0) 1 2 Tryz.underlying36 hi hz0 hz1 hz2 rfl (by omega) (.slice (some ⟨w.heap.size, 0, none⟩) 0 0) 0 [] rfl hown0 ad n cap (u16s l) rfl (by simp [hlen]) hlt (by intro u hu; obtain ⟨x, _, rfl⟩ := List.mem_map.1 hu; rfl) (by unfold maxLen; omega) (by omega) (by simp) ?_)
  intro v' w' hown hgrow hnil
  have he : Below w.heap.size w w' := ((Below.refl _ w).alloc (Nat.le_refl _) (.cells #[] 153)).grown hgrow (by simp) (fun b hb => by simp [Value.ownBlock] at hb; omega)
  clear hnil
  go_wp2
  go_ret
  obtain ⟨p', c', rfl, hU, hO⟩ := U16.of_owns hown h.lim hr
  exact ⟨p', c', rfl, hU, hO, he⟩

/-- The bit lengths of bytes. -/
abbrev tab8 : ByteArray := ⟨#[0, 1, 2, 2, 3, 3, 3, 3, 4, 4, 4, 4, 4, 4, 4, 4, 5, 5, 5, 5, 5, 5, 5, 5, 5, 5, 5, 5, 5, 5, 5, 5, 6, 6, 6, 6, 6, 6, 6, 6, 6, 6, 6, 6, 6, 6, 6, 6, 6, 6, 6, 6, 6, 6, 6, 6, 6, 6, 6, 6, 6, 6, 6, 6, 7, 7, 7, 7, 7, 7, 7, 7, 7, 7, 7, 7, 7, 7, 7, 7, 7, 7, 7, 7, 7, 7, 7, 7, 7, 7, 7, 7, 7, 7, 7, 7, 7, 7, 7, 7, 7, 7, 7, 7, 7, 7, 7, 7, 7, 7, 7, 7, 7, 7, 7, 7, 7, 7, 7, 7, 7, 7, 7, 7, 7, 7, 7, 7, 8, 8, 8, 8, 8, 8, 8, 8, 8, 8, 8, 8, 8, 8, 8, 8, 8, 8, 8, 8, 8, 8, 8, 8, 8, 8, 8, 8, 8, 8, 8, 8, 8, 8, 8, 8, 8, 8, 8, 8, 8, 8, 8, 8, 8, 8, 8, 8, 8, 8, 8, 8, 8, 8, 8, 8, 8, 8, 8, 8, 8, 8, 8, 8, 8, 8, 8, 8, 8, 8, 8, 8, 8, 8, 8, 8, 8, 8, 8, 8, 8, 8, 8, 8, 8, 8, 8, 8, 8, 8, 8, 8, 8, 8, 8, 8, 8, 8, 8, 8, 8, 8, 8, 8, 8, 8, 8, 8, 8, 8, 8, 8, 8, 8, 8, 8, 8, 8, 8, 8, 8, 8, 8, 8, 8, 8, 8, 8]⟩
theorem tab8_size : tab8.size = 256 := by decide +kernel
theorem tab8_all : ∀ i : Fin 256, (tab8.data[i.val]'(by show i.val < tab8.size; rw [tab8_size]; exact i.isLt)).toNat ≤ 8 ∧ i.val < 2 ^ (tab8.data[i.val]'(by show i.val < tab8.size; rw [tab8_size]; exact i.isLt)).toNat ∧
    (i.val ≠ 0 → 0 < (tab8.data[i.val]'(by show i.val < tab8.size; rw [tab8_size]; exact i.isLt)).toNat ∧ 2 ^ ((tab8.data[i.val]'(by show i.val < tab8.size; rw [tab8_size]; exact i.isLt)).toNat - 1) ≤ i.val) := by decide +kernel

set_option maxRecDepth 100000 in
/-- How many bits a limb has. -/
theorem len16_any (x : Nat) (w : World) (hx : x < 65536) : Calls Tryz.prog 216 #[.int .u16 (x : Nat)] w fun e w' => (∃ k, e = .returned (.int .i64 (k : Nat)) ∧ k ≤ 16 ∧ x < 2 ^ k ∧ (x ≠ 0 → 0 < k ∧ 2 ^ (k - 1) ≤ x)) ∧ w = w' := by
 by_cases h : 256 ≤ x
 ·go_enter Tryz.func216, Tryz.ntmps216
  obtain ⟨h1, h2, h3⟩ := tab8_all ⟨x / 256, by omega⟩
  have H1 := Lib.hid h1
  have H2 := Lib.hid h2
  have H3 := Lib.hid h3
  clear h1 h2 h3
  go_wp2
  go_ret
  have h1 := H1.out
  have h2 := H2.out
  have h3 := H3.out
  clear H1 H2 H3
  refine ⟨⟨8 + (tab8.data[x / 256]'(by show x / 256 < tab8.size; rw [tab8_size]; omega)).toNat, ?_, ?_⟩, rfl⟩
  ·refine congrArg Ending.returned ?_
   show Value.int .i64 (wrap64 (8 + wrap64 ((tab8.data[x / 256]'(by show x / 256 < tab8.size; rw [tab8_size]; omega)).toNat : Int))) = _
   generalize (tab8.data[x / 256]'(by show x / 256 < tab8.size; rw [tab8_size]; omega)).toNat = k at *
   congr 1
   simp only [wrap64]
   omega
  ·generalize (tab8.data[x / 256]'(by show x / 256 < tab8.size; rw [tab8_size]; omega)).toNat = k at *
   have e : 2 ^ (8 + k) = 256 * 2 ^ k := by rw [Nat.pow_add]
   obtain ⟨h4, h5⟩ := h3 (by omega)
   have e2 : 2 ^ (8 + k - 1) = 256 * 2 ^ (k - 1) := by rw [show 8 + k - 1 = 8 + (k - 1) by omega, Nat.pow_add]
   exact ⟨by omega, by omega, fun _ => ⟨by omega, by omega⟩⟩
 ·go_enter Tryz.func216, Tryz.ntmps216
  obtain ⟨h1, h2, h3⟩ := tab8_all ⟨x, by omega⟩
  have H1 := Lib.hid h1
  have H2 := Lib.hid h2
  have H3 := Lib.hid h3
  clear h1 h2 h3
  go_wp2
  go_ret
  have h1 := H1.out
  have h2 := H2.out
  have h3 := H3.out
  clear H1 H2 H3
  refine ⟨⟨(tab8.data[x]'(by show x < tab8.size; rw [tab8_size]; omega)).toNat, ?_, ?_⟩, rfl⟩
  ·refine congrArg Ending.returned ?_
   show Value.int .i64 (wrap64 (wrap64 ((tab8.data[x]'(by show x < tab8.size; rw [tab8_size]; omega)).toNat : Int))) = _
   generalize (tab8.data[x]'(by show x < tab8.size; rw [tab8_size]; omega)).toNat = k at *
   congr 1
   simp only [wrap64]
   omega
  ·generalize (tab8.data[x]'(by show x < tab8.size; rw [tab8_size]; omega)).toNat = k at *
   exact ⟨by omega, h2, fun h => h3 h⟩

/-- How far a limb must be shifted until its most significant bit is set. -/
theorem lz16_any (x : Nat) (w : World) (hx : x < 65536) (h0 : 0 < x) : Calls Tryz.prog 210 #[.int .u16 (x : Nat)] w fun e w' => (∃ k, e = .returned (.int .i64 (k : Nat)) ∧ k < 16 ∧ 32768 ≤ x * 2 ^ k ∧ x * 2 ^ k < 65536) ∧ w = w' := by
 go_enter Tryz.func210, Tryz.ntmps210
 go_wp2_with fail
 refine (len16_any x w hx).mono ?_
 rintro e w' ⟨⟨k, rfl, hk, hlt, hge⟩, rfl⟩
 obtain ⟨h1, h2⟩ := hge (by omega)
 have H := Lib.hid hlt
 have H2 := Lib.hid h2
 clear hlt h2
 go_wp2
 go_ret
 have e1 : 2 ^ k * 2 ^ (16 - k) = 65536 := by rw [← Nat.pow_add, show k + (16 - k) = 16 by omega]
 have e2 : 2 ^ (k - 1) * 2 ^ (16 - k) = 32768 := by rw [← Nat.pow_add, show k - 1 + (16 - k) = 15 by omega]
 have hp : 0 < 2 ^ (16 - k) := Nat.pow_pos (by omega)
 refine ⟨⟨16 - k, ?_, by omega, ?_, ?_⟩, rfl⟩
 ·refine congrArg Ending.returned ?_
  show Value.int .i64 (16 - (k : Int)) = _
  congr 1
  omega
 ·rw [← e2]; exact Nat.mul_le_mul_right _ H2.out
 ·rw [← e1]; exact Nat.mul_lt_mul_of_pos_right H.out hp
end Go.Proofs.YtndgaecfeaedeaaGreat
namespace Go.Proofs.YtndgaecfeaedeaaGreat
open Go.RowKit Lex Mth
attribute [local go_sem] run_indexAt_at add_zero_map Oper.semAt_some at_zero

/-- What a division hands back. -/
def DivR (B : Nat) (x y : Nat) (e : Ending) (w' : World) : Prop :=
 ∃ p1 n1 c1 p2 n2 c2, e = .returned (.tuple #[.slice p1 n1 c1, .slice p2 n2 c2]) ∧ U16 w' p1 n1 c1 (limbs (x / y)) ∧ U16 w' p2 n2 c2 (limbs (x % y)) ∧ Own B w' p1 c1 ∧ Own B w' p2 c2

theorem U16.nil (w : World) : U16 w none 0 0 [] := ⟨rfl, Nat.le_refl _, by omega, by unfold Has; exact .inl rfl, Lim.nil, fun j hj => absurd hj (Nat.not_lt_zero _)⟩

set_option maxRecDepth 100000 in
theorem div_less (p q : Option Addr) (n cp m cq : Nat) (x y : Nat) (w : World) (hp : U16 w p n cp (limbs x)) (hq : U16 w q m cq (limbs y)) (hxy : x < y) :
    Calls Tryz.prog 204 #[.slice p n cp, .slice q m cq] w fun e w' => DivR w.heap.size x y e w' ∧ Ext w w' := by
 have hc : cmpN x y = -1 := by unfold cmpN; rw [if_pos hxy]
 have hE1 : Ext w (w.alloc (.cells #[.slice none 0 0] 36)) := (Below.refl _ _).alloc (Nat.le_refl _) _
 have hB1 : Boxed (w.alloc (.cells #[.slice none 0 0] 36)) w.heap.size 36 (.slice none 0 0) := Boxed.new _ _ _
 have Hxy := Lib.hid hxy
 clear hxy
 go_enter Tryz.func204, Tryz.ntmps204
 go_wp2_with fail
 refine (compare_any _ _ _ _ _ _ x y _ (hp.ext hE1) (hq.ext hE1)).mono ?_
 rintro e w2 ⟨rfl, hE2⟩
 rw [hc]
 go_wp2_with fail
 refine (clone_any _ _ _ _ _ ((hp.ext hE1).ext hE2)).mono ?_
 rintro e w3 ⟨p', c', rfl, hU, hO, hE3⟩
 have hB3 := Boxed.ext (Boxed.ext hB1 hE2) hE3
 have c1 := hB3.cell
 have f1 := hB3.frozen
 have hlt : w.heap.size < w2.heap.size := by have := hE2.size; simp at this; omega
 go_wp2_with fail
 have c2 := (Boxed.set (.slice none 0 0) hB3).cell
 refine bodyPost_ret (v := .tuple #[.slice none 0 0, .slice p' n c']) (by simp [results, Tryz.results204, go_sem, c2]) rfl ⟨⟨none, 0, 0, p', n, c', rfl, ?_, ?_, .inl rfl, ?_⟩, ?_⟩
 ·rw [Nat.div_eq_of_lt Hxy.out, limbs_zero]; exact U16.nil _
 ·rw [Nat.mod_eq_of_lt Hxy.out]
  exact hU.box hB3 (by simp) _
 ·exact (hO.mono (by omega)).box hB3 (by decide) _
 ·exact Ext.box (hE1.trans ((hE2.trans (hE3.mono hE2.size)).mono hE1.size)) (Nat.le_refl _) _

set_option maxRecDepth 100000 in
theorem div_one (p q : Option Addr) (n cp cq : Nat) (x y : Nat) (w : World) (hp : U16 w p n cp (limbs x)) (hq : U16 w q 1 cq (limbs y)) (hxy : y ≤ x) (hb : n ≤ 1048576) :
    Calls Tryz.prog 204 #[.slice p n cp, .slice q 1 cq] w fun e w' => DivR w.heap.size x y e w' ∧ Ext w w' := by
 have hc : (cmpN x y < 0) = False := by unfold cmpN; rw [if_neg (by omega)]; split <;> simp
 have hc' : ¬ cmpN x y < 0 := by rw [hc]; simp
 have hE1 : Ext w (w.alloc (.cells #[.slice none 0 0] 36)) := (Below.refl _ _).alloc (Nat.le_refl _) _
 have hB1 : Boxed (w.alloc (.cells #[.slice none 0 0] 36)) w.heap.size 36 (.slice none 0 0) := Boxed.new _ _ _
 have hy : limbs y = [dig (limbs y) 0] := by
  have := hq.len
  match hl : limbs y, this with
  | [a], _ => rfl
 have hyv : y = dig (limbs y) 0 := by
  have := val_limbs y
  rw [hy] at this
  simpa [val] using this.symm
 have hy0 : 0 < dig (limbs y) 0 := by
  have := limbs_last (n := y) (fun h => by have := hq.len; rw [h, limbs_zero] at this; simp at this)
  rw [hq.len] at this
  exact Nat.pos_of_ne_zero this
 have hyl := hq.lt 0
 have hho := hq.has
 have Hy := Lib.hid hyv
 clear hyv hy hxy hc
 go_enter Tryz.func204, Tryz.ntmps204
 go_wp2_with fail
 refine (compare_any _ _ _ _ _ _ x y _ (hp.ext hE1) (hq.ext hE1)).mono ?_
 rintro e w2 ⟨rfl, hE2⟩
 have cy := ((hq.ext hE1).ext hE2).cell 0 (by omega)
 go_wp2_with fail
 refine (short_any _ _ _ x (dig (limbs y) 0) _ ((hp.ext hE1).ext hE2) hy0 (by omega) hb).mono ?_
 rintro e w3 ⟨p', n', c', rfl, hU, hO, hE3⟩
 have hB3 := Boxed.ext (Boxed.ext hB1 hE2) hE3
 have hlt : w.heap.size < w2.heap.size := by have := hE2.size; simp at this; omega
 have hr : x % dig (limbs y) 0 < 65536 := Nat.lt_trans (Nat.mod_lt _ hy0) hyl
 obtain ⟨r, hrr⟩ : ∃ r, r = x % dig (limbs y) 0 := ⟨_, rfl⟩
 rw [← hrr] at hr ⊢
 have Hr := Lib.hid hrr
 clear hrr
 go_wp2_with fail
 have hRow : Row (w3.alloc (.cells #[.int .u16 (r : Nat)] 153)) w3.heap.size [r] := Row.new w3 [r]
 have hl1 : Lim [r] := Lim.cons.2 ⟨hr, Lim.nil⟩
 have hU1 : U16 (w3.alloc (.cells #[.int .u16 (r : Nat)] 153)) (some ⟨w3.heap.size, 0, none⟩) 1 1 [r] := hRow.u16 hl1 (by simp) (by omega) (by omega)
 have hO1 := hRow.own (B := w.heap.size) (cap := 1) (by have := hE3.size; omega) (by simp)
 have hEa : Ext w3 (w3.alloc (.cells #[.int .u16 (r : Nat)] 153)) := (Below.refl _ _).alloc (Nat.le_refl _) _
 have hB4 := Boxed.ext hB3 hEa
 refine (trimmed_any _ _ _ _ _ hU1).mono ?_
 rintro e w4 ⟨rfl, rfl⟩
 have c1 := hB4.cell
 have f1 := hB4.frozen
 have hUt := hU1.trim
 have hv1 : Hid (val [r] = x % y) := by unfold Hid; rw [Hy.out, ← Hr.out]; simp [val]
 rw [hv1.out] at hUt ⊢
 have Hy1 : Hid (x / dig (limbs y) 0 = x / y) := by unfold Hid; rw [← Hy.out]
 rw [Hy1.out] at hU
 go_wp2_with fail
 have c2 := (Boxed.set (.slice p' n' c') hB4).cell
 refine bodyPost_ret (v := .tuple #[.slice p' n' c', .slice (some ⟨w3.heap.size, 0, none⟩) (siz (x % y)) 1]) (by simp [results, Tryz.results204, go_sem, c2]) rfl ⟨⟨p', n', c', _, _, 1, rfl, ?_, ?_, ?_, ?_⟩, ?_⟩
 ·exact (hU.ext hEa).box hB4 (by simp) _
 ·exact hUt.box hB4 (by simp) _
 ·exact ((hO.ext hEa).mono (by omega)).box hB4 (by decide) _
 ·exact hO1.box hB4 (by decide) _
 ·exact Ext.box (hE1.trans ((hE2.trans ((hE3.trans (hEa.mono hE3.size)).mono hE2.size)).mono hE1.size)) (Nat.le_refl _) _
end Go.Proofs.YtndgaecfeaedeaaGreat
