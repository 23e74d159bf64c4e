/- Plain arithmetic on lists of limbs (digits to the base 65536). No condition: nothing of any program is named. -/
set_option linter.unusedSimpArgs false
set_option linter.unusedVariables false
namespace Go.Proofs.YtndgaecfeaedeaaGreat.Mth

/-- The base. -/
abbrev B : Nat := 65536

/-- The number that limbs stand for, the least limb first. -/
def val : List Nat → Nat
 | [] => 0
 | d :: l => d + 65536 * val l

/-- The limbs of a number, none of them idle. -/
def limbs (n : Nat) : List Nat := if h : n = 0 then [] else (n % 65536) :: limbs (n / 65536)
termination_by n
decreasing_by omega

theorem limbs_zero : limbs 0 = [] := by unfold limbs; simp
theorem limbs_pos {n : Nat} (h : n ≠ 0) : limbs n = (n % 65536) :: limbs (n / 65536) := by
 rw [limbs]; simp [h]

theorem val_limbs : ∀ n, val (limbs n) = n := by
 intro n
 induction n using Nat.strongRecOn with
 | _ n ih =>
  by_cases h : n = 0
  ·subst h; simp [limbs_zero, val]
  ·rw [limbs_pos h, val, ih (n / 65536) (by omega)]; omega

/-- Every limb is below the base. -/
def Lim (l : List Nat) : Prop := ∀ x ∈ l, x < 65536

theorem Lim.nil : Lim [] := fun _ h => by cases h
theorem Lim.cons {d : Nat} {l : List Nat} : Lim (d :: l) ↔ d < 65536 ∧ Lim l := by simp [Lim]
theorem Lim.append {l m : List Nat} : Lim (l ++ m) ↔ Lim l ∧ Lim m := by
 simp only [Lim, List.mem_append]
 exact ⟨fun h => ⟨fun x hx => h x (.inl hx), fun x hx => h x (.inr hx)⟩, fun h x hx => hx.elim (h.1 x) (h.2 x)⟩
theorem Lim.take {l : List Nat} (h : Lim l) (k : Nat) : Lim (l.take k) := fun x hx => h x (List.mem_of_mem_take hx)
theorem Lim.drop {l : List Nat} (h : Lim l) (k : Nat) : Lim (l.drop k) := fun x hx => h x (List.mem_of_mem_drop hx)
theorem Lim.getD {l : List Nat} (h : Lim l) (k : Nat) : l.getD k 0 < 65536 := by
 rw [List.getD_eq_getElem?_getD]
 cases hk : l[k]? with
 | none => simp
 | some x => simpa using h x (List.mem_of_getElem? hk)
theorem Lim.set {l : List Nat} (h : Lim l) (k x : Nat) (hx : x < 65536) : Lim (l.set k x) := fun y hy => by
 rcases List.mem_or_eq_of_mem_set hy with h1 | h1
 ·exact h y h1
 ·omega

theorem lim_limbs : ∀ n, Lim (limbs n) := by
 intro n
 induction n using Nat.strongRecOn with
 | _ n ih =>
  by_cases h : n = 0
  ·subst h; rw [limbs_zero]; exact Lim.nil
  ·rw [limbs_pos h, Lim.cons]; exact ⟨Nat.mod_lt _ (by omega), ih _ (by omega)⟩

theorem val_append : ∀ l m : List Nat, val (l ++ m) = val l + 65536 ^ l.length * val m
 | [], m => by simp [val]
 | d :: l, m => by
  simp only [List.cons_append, val, val_append l m, List.length_cons, Nat.pow_succ]
  rw [Nat.mul_add, ← Nat.add_assoc, Nat.mul_comm (65536 ^ l.length) 65536, Nat.mul_assoc]

theorem val_lt : ∀ {l : List Nat}, Lim l → val l < 65536 ^ l.length
 | [], _ => by simp [val]
 | d :: l, h => by
  obtain ⟨h1, h2⟩ := Lim.cons.1 h
  have := val_lt h2
  simp only [val, List.length_cons, Nat.pow_succ]
  omega

theorem take_snoc {l : List Nat} {k : Nat} (h : k < l.length) : l.take (k + 1) = l.take k ++ [l.getD k 0] := by
 rw [List.take_succ_eq_append_getElem h]
 simp [List.getD_eq_getElem?_getD, h]

theorem val_take_succ {l : List Nat} {k : Nat} (h : k < l.length) : val (l.take (k + 1)) = val (l.take k) + 65536 ^ k * l.getD k 0 := by
 rw [take_snoc h, val_append]
 simp [val, Nat.min_eq_left (Nat.le_of_lt h)]

theorem drop_cons {l : List Nat} {k : Nat} (h : k < l.length) : l.drop k = l.getD k 0 :: l.drop (k + 1) := by
 rw [List.drop_eq_getElem_cons h]
 simp [List.getD_eq_getElem?_getD, h]

theorem val_drop_succ {l : List Nat} {k : Nat} (h : k < l.length) : val (l.drop k) = l.getD k 0 + 65536 * val (l.drop (k + 1)) := by
 rw [drop_cons h, val]

theorem val_split (l : List Nat) (k : Nat) (h : k ≤ l.length) : val l = val (l.take k) + 65536 ^ k * val (l.drop k) := by
 have := val_append (l.take k) (l.drop k)
 rw [List.take_append_drop, List.length_take, Nat.min_eq_left h] at this
 exact this

theorem val_set : ∀ (l : List Nat) (k x : Nat), k < l.length → val (l.set k x) + 65536 ^ k * l.getD k 0 = val l + 65536 ^ k * x
 | [], k, x, h => by simp at h
 | d :: l, 0, x, _ => by simp [val]; omega
 | d :: l, k + 1, x, h => by
  have ih := val_set l k x (by simpa using h)
  simp only [List.set_cons_succ, val, List.getD_cons_succ, Nat.pow_succ]
  rw [Nat.mul_comm (65536 ^ k) 65536, Nat.mul_assoc, Nat.mul_assoc]
  omega

theorem val_replicate : ∀ n, val (List.replicate n 0) = 0
 | 0 => rfl
 | n + 1 => by simp [List.replicate_succ, val, val_replicate n]
theorem lim_replicate (n : Nat) : Lim (List.replicate n 0) := fun x hx => by
 have := (List.mem_replicate.1 hx).2; omega

theorem val_eq_zero : ∀ {l : List Nat}, val l = 0 → ∀ k, l.getD k 0 = 0
 | [], _, k => by simp
 | d :: l, h, 0 => by simp [val] at h; simp; omega
 | d :: l, h, k + 1 => by
  simp only [val] at h
  simpa using val_eq_zero (l := l) (by omega) k

/-- The limbs of what limbs without an idle one stand for are these. -/
theorem limbs_val : ∀ {l : List Nat}, Lim l → (l ≠ [] → l.getD (l.length - 1) 0 ≠ 0) → limbs (val l) = l
 | [], _, _ => by simp [val, limbs_zero]
 | [d], h, hn => by
  have h1 := (Lim.cons.1 h).1
  have h2 := hn (by simp)
  simp at h2
  simp only [val, Nat.mul_zero, Nat.add_zero]
  rw [limbs_pos h2, Nat.mod_eq_of_lt h1, Nat.div_eq_of_lt h1, limbs_zero]
 | d :: e :: l, h, hn => by
  obtain ⟨h1, h2⟩ := Lim.cons.1 h
  have h3 := hn (by simp)
  have ih := limbs_val h2 (fun _ => by simpa using h3)
  have hpos : val (e :: l) ≠ 0 := fun h0 => by
   have := val_eq_zero h0 ((e :: l).length - 1)
   simp at this h3
   exact h3 this
  have hv : val (d :: e :: l) = d + 65536 * val (e :: l) := rfl
  rw [limbs_pos (by rw [hv]; omega), hv, show (d + 65536 * val (e :: l)) % 65536 = d by omega, show (d + 65536 * val (e :: l)) / 65536 = val (e :: l) by omega, ih]

theorem limbs_ne {n : Nat} (h : n ≠ 0) : limbs n ≠ [] := by rw [limbs_pos h]; simp
theorem limbs_eq_nil {n : Nat} : limbs n = [] ↔ n = 0 := ⟨fun h => by have := val_limbs n; rw [h] at this; simpa [val] using this.symm, fun h => by rw [h, limbs_zero]⟩

theorem limbs_last {n : Nat} (h : n ≠ 0) : (limbs n).getD ((limbs n).length - 1) 0 ≠ 0 := by
 induction n using Nat.strongRecOn with
 | _ n ih =>
  rw [limbs_pos h]
  by_cases h2 : n / 65536 = 0
  ·rw [h2, limbs_zero]; simp; omega
  ·have := ih (n / 65536) (by omega) h2
   have hl : (limbs (n / 65536)).length ≠ 0 := by simpa using limbs_ne h2
   rw [List.length_cons, Nat.add_sub_cancel]
   obtain ⟨m, hm⟩ : ∃ m, (limbs (n / 65536)).length = m + 1 := ⟨(limbs (n / 65536)).length - 1, by omega⟩
   rw [hm, List.getD_cons_succ]
   rw [hm, Nat.add_sub_cancel] at this
   exact this

theorem limbs_inj {m n : Nat} (h : limbs m = limbs n) : m = n := by rw [← val_limbs m, h, val_limbs]

/-- How many limbs a number has. -/
def siz (n : Nat) : Nat := (limbs n).length

theorem lt_siz (n : Nat) : n < 65536 ^ siz n := by
 have := val_lt (lim_limbs n); rwa [val_limbs] at this

theorem siz_le {n k : Nat} : siz n ≤ k ↔ n < 65536 ^ k := by
 constructor
 ·intro h
  exact Nat.lt_of_lt_of_le (lt_siz n) (Nat.pow_le_pow_right (by omega) h)
 ·intro h
  induction k generalizing n with
  | zero => have : n = 0 := by simpa using h
            subst this; simp [siz, limbs_zero]
  | succ k ih =>
   by_cases h0 : n = 0
   ·subst h0; simp [siz, limbs_zero]
   ·have := ih (n := n / 65536) (by rw [Nat.pow_succ] at h; exact Nat.div_lt_of_lt_mul (by omega))
    simp only [siz] at *
    rw [limbs_pos h0]; simp; omega

theorem siz_zero : siz 0 = 0 := by simp [siz, limbs_zero]
theorem siz_pos {n : Nat} (h : n ≠ 0) : 0 < siz n := by
 unfold siz; exact List.length_pos_iff.2 (limbs_ne h)
theorem siz_eq_zero {n : Nat} : siz n = 0 ↔ n = 0 := by unfold siz; rw [List.length_eq_zero_iff, limbs_eq_nil]
theorem siz_mono {m n : Nat} (h : m ≤ n) : siz m ≤ siz n := siz_le.2 (Nat.lt_of_le_of_lt h (lt_siz n))
theorem pow_siz_le {n : Nat} (h : n ≠ 0) : 65536 ^ (siz n - 1) ≤ n := by
 rcases Nat.lt_or_ge n (65536 ^ (siz n - 1)) with h1 | h1
 ·have := siz_le.2 h1
  have := siz_pos h
  omega
 ·exact h1
theorem siz_mul (m n : Nat) : siz (m * n) ≤ siz m + siz n := by
 rw [siz_le, Nat.pow_add]
 exact Nat.mul_lt_mul'' (lt_siz m) (lt_siz n)
theorem siz_add (m n : Nat) : siz (m + n) ≤ max (siz m) (siz n) + 1 := by
 rw [siz_le, Nat.pow_succ]
 have h1 := Nat.lt_of_lt_of_le (lt_siz m) (Nat.pow_le_pow_right (by omega) (Nat.le_max_left (siz m) (siz n)) : 65536 ^ siz m ≤ _)
 have h2 := Nat.lt_of_lt_of_le (lt_siz n) (Nat.pow_le_pow_right (by omega) (Nat.le_max_right (siz m) (siz n)) : 65536 ^ siz n ≤ _)
 omega
theorem siz_one {n : Nat} : siz n ≤ 1 ↔ n < 65536 := by rw [siz_le, Nat.pow_one]

/-- A list of the right length is the limbs of what it stands for. -/
theorem limbs_of_length {l : List Nat} (h : Lim l) (hlen : l ≠ [] → 65536 ^ (l.length - 1) ≤ val l) : limbs (val l) = l := by
 refine limbs_val h fun hne h0 => ?_
 have h1 := hlen hne
 have hl : 0 < l.length := List.length_pos_iff.2 hne
 have hs := val_split l (l.length - 1) (by omega)
 have hd := val_drop_succ (l := l) (k := l.length - 1) (by omega)
 rw [h0, show l.length - 1 + 1 = l.length by omega] at hd
 simp [val] at hd
 have ht := val_lt (h.take (l.length - 1))
 rw [List.length_take, Nat.min_eq_left (by omega)] at ht
 rw [hs, hd] at h1
 omega

/-- What is left of limbs when the idle ones at the end go. -/
def trimLen (l : List Nat) : Nat := siz (val l)
theorem trim_take {l : List Nat} (h : Lim l) : l.take (siz (val l)) = limbs (val l) := by
 have hle : siz (val l) ≤ l.length := siz_le.2 (val_lt h)
 have hs := val_split l (siz (val l)) hle
 have hz : val (l.drop (siz (val l))) = 0 := by
  rcases Nat.eq_zero_or_pos (val (l.drop (siz (val l)))) with h0 | h0
  ·exact h0
  ·have := lt_siz (val l)
   have h1 : 65536 ^ siz (val l) * 1 ≤ 65536 ^ siz (val l) * val (l.drop (siz (val l))) := Nat.mul_le_mul_left _ h0
   omega
 rw [hz, Nat.mul_zero, Nat.add_zero] at hs
 have hlen : (l.take (siz (val l))).length = siz (val l) := by rw [List.length_take, Nat.min_eq_left hle]
 have := limbs_of_length (h.take (siz (val l))) (fun hne => by
  rw [hlen, ← hs]
  refine pow_siz_le fun h0 => hne ?_
  rw [h0, siz_zero]; simp)
 rw [← hs] at this
 exact this.symm
theorem limbs_siz_le {l : List Nat} (h : Lim l) : siz (val l) ≤ l.length := siz_le.2 (val_lt h)

/-- Equal length and equal limbs: the same list. -/
theorem ext_getD {l m : List Nat} (hl : l.length = m.length) (h : ∀ k, k < l.length → l.getD k 0 = m.getD k 0) : l = m := by
 refine List.ext_getElem hl fun k h1 h2 => ?_
 have := h k h1
 simpa [List.getD_eq_getElem?_getD, h1, h2] using this

/-- Limbs from the top on: which of two numbers is less. -/
theorem lt_of_top {l m : List Nat} (hl : Lim l) {k : Nat} (hk : k < l.length) (hk' : k < m.length) (hlen : l.length = m.length) (heq : l.drop (k + 1) = m.drop (k + 1)) (hlt : l.getD k 0 < m.getD k 0) : val l < val m := by
 have h1 := val_split l (k + 1) (by omega)
 have h2 := val_split m (k + 1) (by omega)
 rw [val_take_succ hk] at h1
 rw [val_take_succ hk'] at h2
 have h3 := val_lt (hl.take k)
 rw [List.length_take, Nat.min_eq_left (by omega)] at h3
 have h4 : 65536 ^ k * (l.getD k 0 + 1) ≤ 65536 ^ k * m.getD k 0 := Nat.mul_le_mul_left _ hlt
 rw [Nat.mul_add, Nat.mul_one] at h4
 rw [h1, h2, heq]
 omega

/-- Idle limbs at the end: the step of the loop that takes them off, and its end. -/
theorem trim_step {l : List Nat} {k : Nat} (hk : 0 < k) (hkl : k ≤ l.length) (h : val (l.take k) = val l) (hz : l.getD (k - 1) 0 = 0) : val (l.take (k - 1)) = val l := by
 have := val_take_succ (l := l) (k := k - 1) (by omega)
 rw [show k - 1 + 1 = k by omega, hz, Nat.mul_zero, Nat.add_zero] at this
 rw [← this]; exact h
theorem trim_end {l : List Nat} (hl : Lim l) {k : Nat} (hkl : k ≤ l.length) (h : val (l.take k) = val l) (hz : 0 < k → l.getD (k - 1) 0 ≠ 0) : siz (val l) = k := by
 have hlen : (l.take k).length = k := by simp [hkl]
 have := limbs_val (hl.take k) (fun hne => by
  have hk : 0 < k := by
   rcases Nat.eq_zero_or_pos k with h0 | h0
   ·subst h0; simp at hne
   ·exact h0
  rw [hlen]
  have h2 := hz hk
  rw [List.getD_eq_getElem?_getD] at h2 ⊢
  rw [List.getElem?_take, if_pos (by omega)]
  exact h2)
 rw [h] at this
 unfold siz
 rw [this, hlen]
end Go.Proofs.YtndgaecfeaedeaaGreat.Mth
