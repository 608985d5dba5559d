/- The codec's parser answers the codec's writer, and nothing else. Plain Lean, no program in sight. -/
import Derived.Test.YtahaplioegeloaaDoorPv
namespace Go.Sz
open Go.RowKit

theorem ofNat_toNat_lt {m : Nat} (h : m < 256) : (UInt8.ofNat m).toNat = m := by
  rw [UInt8.toNat_ofNat']; omega
theorem u8_of {b : UInt8} {m : Nat} (h : b.toNat = m) : b = UInt8.ofNat m := by
  apply UInt8.toNat_inj.1
  rw [UInt8.toNat_ofNat']
  have := b.toNat_lt
  omega

theorem pow9_le {i : Nat} (h : 9 ≤ i) : 9223372036854775808 ≤ 128 ^ i := by
  have h1 : (128 : Nat) ^ 9 ≤ 128 ^ i := Nat.pow_le_pow_right (by omega) h
  have h2 : (128 : Nat) ^ 9 = 9223372036854775808 := by decide +kernel
  omega

theorem numP_digits (r : List UInt8) : ∀ (N m i a : Nat), m ≤ N → (i = 0 ∨ m ≠ 0) → m * 128 ^ i < 18446744073709551616 → numP i a (digits m ++ r) = some (a + m * 128 ^ i, r) := by
  intro N
  induction N with
  | zero =>
    intro m i a hm hi hp
    have hm0 : m = 0 := by omega
    subst hm0
    rw [digits_small (by omega)]
    have hi0 : i = 0 := by omega
    subst hi0
    simp [numP]
  | succ N ih =>
    intro m i a hm hi hp
    by_cases h : m < 128
    · rw [digits_small h]
      have hc : (i = 0 ∨ (UInt8.ofNat m).toNat ≠ 0) ∧ (i < 9 ∨ (UInt8.ofNat m).toNat ≤ 1) := by
        rw [ofNat_toNat_lt (by omega)]
        refine ⟨hi, ?_⟩
        rcases Nat.lt_or_ge i 9 with h1 | h1
        · exact .inl h1
        · have h2 := Nat.mul_le_mul (Nat.le_refl m) (pow9_le h1)
          right; omega
      simp only [List.cons_append, List.nil_append, numP]
      rw [if_pos hc, ofNat_toNat_lt (by omega), if_pos h, Nat.mod_eq_of_lt h]
    · have hi9 : i < 9 := by
        rcases Nat.lt_or_ge i 9 with h1 | h1
        · exact h1
        · have h2 := Nat.mul_le_mul (show 128 ≤ m by omega) (pow9_le h1)
          omega
      rw [digits_big (by omega)]
      have ht : (UInt8.ofNat (m % 128 + 128)).toNat = m % 128 + 128 := ofNat_toNat_lt (by omega)
      simp only [List.cons_append, numP]
      rw [ht, if_pos ⟨by omega, by omega⟩, if_neg (by omega)]
      have hmm : (m % 128 + 128) % 128 = m % 128 := by omega
      have hq : m % 128 * 128 ^ i + m / 128 * 128 ^ (i + 1) = m * 128 ^ i := by
        rw [Nat.pow_succ, ← Nat.mul_assoc, Nat.mul_right_comm, ← Nat.add_mul]
        congr 1; omega
      rw [hmm, ih (m / 128) (i + 1) _ (by omega) (by omega) (by omega), Nat.add_assoc, hq]

theorem numP_inv : ∀ (bs : List UInt8) (i a n : Nat) (r : List UInt8), numP i a bs = some (n, r) → ∃ m, n = a + m * 128 ^ i ∧ bs = digits m ++ r ∧ (i = 0 ∨ m ≠ 0) := by
  intro bs
  induction bs with
  | nil => intro i a n r h; cases h
  | cons b bs ih =>
    intro i a n r h
    rw [numP] at h
    split at h
    · rename_i hc
      split at h
      · rename_i hb
        simp only [Option.some.injEq, Prod.mk.injEq] at h
        obtain ⟨rfl, rfl⟩ := h
        refine ⟨b.toNat, by rw [Nat.mod_eq_of_lt hb], ?_, hc.1⟩
        rw [digits_small hb, ← u8_of (b := b) rfl]
        rfl
      · rename_i hb
        obtain ⟨m, rfl, rfl, hm⟩ := ih _ _ _ _ h
        have hlt := b.toNat_lt
        refine ⟨b.toNat % 128 + 128 * m, ?_, ?_, .inr (by omega)⟩
        · rw [Nat.add_assoc, Nat.add_mul, Nat.pow_succ]
          congr 2
          rw [Nat.mul_comm (128 ^ i) 128, ← Nat.mul_assoc, Nat.mul_comm m 128]
        · rw [digits_big (u := b.toNat % 128 + 128 * m) (by omega), show (b.toNat % 128 + 128 * m) % 128 + 128 = b.toNat by omega, show (b.toNat % 128 + 128 * m) / 128 = m by omega, ← u8_of (b := b) rfl]
          rfl
    · cases h

theorem lenP_inv {bs r : List UInt8} {n : Nat} (h : lenP bs = some (n, r)) : bs = digits n ++ r ∧ n ≤ r.length := by
  unfold lenP at h
  split at h
  · rename_i n' r' hn
    split at h
    · simp only [Option.some.injEq, Prod.mk.injEq] at h
      obtain ⟨rfl, rfl⟩ := h
      obtain ⟨m, h1, h2, _⟩ := numP_inv _ _ _ _ _ hn
      have h3 : n' = m := by simpa using h1
      subst h3
      exact ⟨h2, by assumption⟩
    · cases h
  · cases h

theorem lenP_digits {n : Nat} {r : List UInt8} (h : n ≤ r.length) (h2 : n < 18446744073709551616) : lenP (digits n ++ r) = some (n, r) := by
  unfold lenP
  rw [numP_digits r n n 0 0 (Nat.le_refl _) (.inl rfl) (by simpa using h2)]
  simp [h]

theorem V.enc_pos (v : V) : 0 < v.enc.length := by
  cases v with
  | mk k n s l => simp only [V.enc]; split <;> (try split) <;> simp
theorem V.encL_len (l : List V) : l.length ≤ (V.encL l).length := by
  induction l with
  | nil => simp
  | cons x xs ih => have := x.enc_pos; simp [V.encL]; omega

theorem bytes_empty {s : ByteArray} (h : s.size = 0) : s = ⟨#[]⟩ := by
  cases s with
  | mk a =>
    congr 1
    exact Array.eq_empty_of_size_eq_zero h

theorem repP_inv {q : List UInt8 → Option (V × List UInt8)} {d : Nat} (hq : ∀ bs x r, q bs = some (x, r) → bs = x.enc ++ r ∧ x.wf = true ∧ x.dep ≤ d) :
    ∀ (n : Nat) (bs : List UInt8) (l : List V) (r : List UInt8), repP q n bs = some (l, r) → l.length = n ∧ bs = V.encL l ++ r ∧ V.wfL l = true ∧ V.depL l ≤ d := by
  intro n
  induction n with
  | zero =>
    intro bs l r h
    simp only [repP, Option.some.injEq, Prod.mk.injEq] at h
    obtain ⟨rfl, rfl⟩ := h
    simp [V.encL, V.wfL, V.depL]
  | succ n ih =>
    intro bs l r h
    rw [repP] at h
    split at h
    · rename_i x r' hx
      split at h
      · rename_i l' r'' hl
        simp only [Option.some.injEq, Prod.mk.injEq] at h
        obtain ⟨rfl, rfl⟩ := h
        obtain ⟨rfl, h2, h3⟩ := hq _ _ _ hx
        obtain ⟨h4, rfl, h6, h7⟩ := ih _ _ _ hl
        refine ⟨by simp [h4], by simp [V.encL], by simp [V.wfL, h2, h6], by simp only [V.depL]; omega⟩
      · cases h
    · cases h

theorem headP_inv {inner : Nat → List UInt8 → Option (List V × List UInt8)} {d : Nat} (hin : ∀ n bs l r, inner n bs = some (l, r) → l.length = n ∧ bs = V.encL l ++ r ∧ V.wfL l = true ∧ V.depL l + 1 ≤ d) :
    ∀ (bs : List UInt8) (x : V) (r : List UInt8), headP inner bs = some (x, r) → bs = x.enc ++ r ∧ x.wf = true ∧ x.dep ≤ d := by
  intro bs x r h
  cases bs with
  | nil => cases h
  | cons b bs =>
    rw [headP] at h
    split at h
    · rename_i hb
      split at h
      · rename_i n r' hn
        simp only [Option.some.injEq, Prod.mk.injEq] at h
        obtain ⟨rfl, rfl⟩ := h
        obtain ⟨m, h1, h2, _⟩ := numP_inv _ _ _ _ _ hn
        have h3 : n = m := by simpa using h1
        subst h3
        refine ⟨?_, by simp [V.wf, ByteArray.size], by simp [V.dep]⟩
        rw [h2, u8_of hb]
        simp [V.enc, zig_zag]
      · cases h
    · split at h
      · rename_i hb1 hb
        split at h
        · rename_i n r' hn
          simp only [Option.some.injEq, Prod.mk.injEq] at h
          obtain ⟨rfl, rfl⟩ := h
          obtain ⟨h1, h2⟩ := lenP_inv hn
          refine ⟨?_, by simp [V.wf], by simp [V.dep]⟩
          rw [h1, u8_of hb]
          simp [V.enc, ByteArray.size, bytesOf, Nat.min_eq_left h2]
        · cases h
      · split at h
        · rename_i hb1 hb2 hb
          split at h
          · rename_i n r' hn
            split at h
            · rename_i l r'' hl
              simp only [Option.some.injEq, Prod.mk.injEq] at h
              obtain ⟨rfl, rfl⟩ := h
              obtain ⟨h1, h2⟩ := lenP_inv hn
              obtain ⟨h4, rfl, h6, h7⟩ := hin _ _ _ _ hl
              refine ⟨?_, by simp [V.wf, ByteArray.size, h6], by simp [V.dep]; exact h7⟩
              rw [h1, u8_of hb]
              simp [V.enc, h4]
            · cases h
          · cases h
        · cases h

theorem valP_inv : ∀ (d : Nat) (bs : List UInt8) (x : V) (r : List UInt8), valP d bs = some (x, r) → bs = x.enc ++ r ∧ x.wf = true ∧ x.dep ≤ d := by
  intro d
  induction d with
  | zero => exact headP_inv fun n bs l r h => by cases h
  | succ d ih =>
    refine headP_inv fun n bs l r h => ?_
    obtain ⟨h1, h2, h3, h4⟩ := repP_inv ih n bs l r h
    exact ⟨h1, h2, h3, by omega⟩

theorem valP_le {d : Nat} {bs r : List UInt8} {x : V} (h : valP d bs = some (x, r)) : r.length ≤ bs.length := by
  obtain ⟨rfl, _⟩ := valP_inv _ _ _ _ h
  simp

mutual
def V.ok : V → Prop
  | .mk _ n s l => inI64 n ∧ s.size ≤ 9223372036854775807 ∧ l.length ≤ 9223372036854775807 ∧ V.okL l
def V.okL : List V → Prop
  | [] => True
  | x :: xs => x.ok ∧ V.okL xs
end
theorem V.okL_of {l : List V} (h : ∀ x ∈ l, x.ok) : V.okL l := by
  induction l with
  | nil => trivial
  | cons x xs ih => exact ⟨h x (by simp), ih fun y hy => h y (by simp [hy])⟩
theorem V.okL_mem {l : List V} (h : V.okL l) : ∀ x ∈ l, x.ok := by
  induction l with
  | nil => intro x hx; cases hx
  | cons y ys ih =>
    intro x hx
    rcases List.mem_cons.1 hx with rfl | hx
    · exact h.1
    · exact ih h.2 x hx

theorem RepV.ok {w : World} {F : Nat → Prop} {cs : List Value} {v : V} (h : RepV w F cs v) : v.ok := by
  induction h with
  | @mk k n s ao cap l rows hk hn hs hsl hF hlen hel ih =>
    refine ⟨hn, hs, ?_, V.okL_of fun x hx => ?_⟩
    · have h1 := hsl.le
      have h2 := hsl.max
      omega
    · obtain ⟨i, hi, rfl⟩ := List.mem_iff_getElem.1 hx
      exact ih i rows[i] l[i] (List.getElem?_eq_getElem (by omega)) (List.getElem?_eq_getElem hi)

theorem repP_enc {q : List UInt8 → Option (V × List UInt8)} (r : List UInt8) : ∀ (l : List V), (∀ x ∈ l, ∀ r, q (x.enc ++ r) = some (x, r)) → repP q l.length (V.encL l ++ r) = some (l, r) := by
  intro l
  induction l with
  | nil => intro _; simp [repP, V.encL]
  | cons x xs ih =>
    intro h
    simp only [List.length_cons, repP, V.encL, List.append_assoc]
    rw [h x (by simp)]
    simp only
    rw [ih fun y hy => h y (by simp [hy])]

theorem headP_enc {inner : Nat → List UInt8 → Option (List V × List UInt8)} (k n : Int) (s : ByteArray) (l : List V) (r : List UInt8) (hwf : (V.mk k n s l).wf = true) (hok : (V.mk k n s l).ok) (hin : k = 3 → inner l.length (V.encL l ++ r) = some (l, r)) :
    headP inner ((V.mk k n s l).enc ++ r) = some (.mk k n s l, r) := by
  obtain ⟨hn, hs, hl, _⟩ := hok
  simp only [V.wf] at hwf
  split at hwf
  · subst k
    simp only [Bool.and_eq_true, beq_iff_eq, List.isEmpty_iff] at hwf
    obtain ⟨h1, rfl⟩ := hwf
    rw [bytes_empty h1]
    simp only [V.enc, if_true, List.cons_append]
    have hz := zig_range n hn.1 hn.2
    rw [headP, if_pos (by decide), numP_digits r _ _ 0 0 (Nat.le_refl _) (.inl rfl) (by omega)]
    simp only [Nat.pow_zero, Nat.mul_one, Nat.zero_add, Option.some.injEq, Prod.mk.injEq, and_true, V.mk.injEq, true_and]
    rw [Int.toNat_of_nonneg hz.1, zag_zig]
  · split at hwf
    · subst k
      simp only [Bool.and_eq_true, beq_iff_eq, List.isEmpty_iff] at hwf
      obtain ⟨rfl, rfl⟩ := hwf
      have hsz : s.size = s.data.size := rfl
      have hle : s.size ≤ (bytesOf s ++ r).length := by simp [bytesOf_length]
      have he : (V.mk 2 0 s []).enc = 2 :: (digits s.size ++ bytesOf s) := by simp [V.enc]
      rw [he, List.cons_append, headP, if_neg (by decide), if_pos (by decide), List.append_assoc, lenP_digits hle (by omega)]
      simp only
      rw [List.take_left' (bytesOf_length s), List.drop_left' (bytesOf_length s)]
      simp [bytesOf]
    · split at hwf
      · subst k
        simp only [Bool.and_eq_true, beq_iff_eq] at hwf
        obtain ⟨⟨rfl, h1⟩, h2⟩ := hwf
        rw [bytes_empty h1]
        have hle : l.length ≤ (V.encL l ++ r).length := by have := V.encL_len l; simp; omega
        have he : (V.mk 3 0 ⟨#[]⟩ l).enc = 3 :: (digits l.length ++ V.encL l) := by simp [V.enc]
        rw [he, List.cons_append, headP, if_neg (by decide), if_neg (by decide), if_pos (by decide), List.append_assoc, lenP_digits hle (by omega)]
        simp only
        rw [hin rfl]
      · cases hwf

theorem valP_enc : ∀ (d : Nat) (v : V) (r : List UInt8), v.wf = true → v.ok → v.dep ≤ d → valP d (v.enc ++ r) = some (v, r) := by
  intro d
  induction d with
  | zero =>
    intro v r hwf hok hd
    cases v with
    | mk k n s l =>
      refine headP_enc k n s l r hwf hok fun hk => ?_
      subst hk
      simp [V.dep] at hd
  | succ d ih =>
    intro v r hwf hok hd
    cases v with
    | mk k n s l =>
      refine headP_enc k n s l r hwf hok fun hk => ?_
      subst hk
      simp only [V.dep, if_true] at hd
      simp [V.wf] at hwf
      have hwl := hwf.2
      rw [V.wfL_all, List.all_eq_true] at hwl
      refine repP_enc r l fun x hx r => ih x r (hwl x hx) (V.okL_mem hok.2.2.2 x hx) ?_
      have : x.dep ≤ V.depL l := by
        clear ih hwf hok hwl
        induction l with
        | nil => cases hx
        | cons y ys ih =>
          simp only [V.depL] at hd ⊢
          rcases List.mem_cons.1 hx with rfl | hx
          · omega
          · have := ih (by omega) hx; omega
      omega
end Go.Sz
