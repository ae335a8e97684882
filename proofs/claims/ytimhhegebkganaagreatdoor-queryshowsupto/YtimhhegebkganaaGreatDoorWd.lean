/- Plain laws: the words of a text, and numerals there and back. -/
import Derived.Test.YtimhhegebkganaaGreatDoorGY
set_option linter.unusedSimpArgs false
set_option linter.unusedVariables false
namespace Go.SL
open Go.Lib

def mkB (l : List UInt8) : ByteArray := ⟨l.toArray⟩
theorem idx_none : ∀ {l : List UInt8}, (32 : UInt8) ∉ l → index l [32] = -1
  | [], _ => rfl
  | b :: l, h => by
    simp only [List.mem_cons, not_or] at h
    have ih := idx_none h.2
    unfold index
    have e : ([32] : List UInt8).isPrefixOf (b :: l) = false := by simp [List.isPrefixOf, h.1]
    simp [e, ih]
theorem idx_hit : ∀ (a b : List UInt8), (32 : UInt8) ∉ a → index (a ++ 32 :: b) [32] = (a.length : Int)
  | [], b, _ => by simp [index, List.isPrefixOf]
  | x :: a, b, h => by
    simp only [List.mem_cons, not_or] at h
    have ih := idx_hit a b h.2
    rw [List.cons_append]
    unfold index
    have e : ([32] : List UInt8).isPrefixOf (x :: (a ++ 32 :: b)) = false := by simp [List.isPrefixOf, h.1]
    rw [e, ih]
    have : ((a.length : Int) == -1) = false := by
      rw [beq_eq_false_iff_ne]; omega
    simp [this]
theorem mkB_ne (a : List UInt8) : (mkB a ≠ ⟨#[]⟩) ↔ a ≠ [] := by
  constructor
  · intro h e; subst e; exact h rfl
  · intro h e
    apply h
    have := congrArg (fun s : ByteArray => s.data.toList) e
    simpa [mkB] using this
theorem filter_one (a : List UInt8) : ([mkB a]).filter (fun x => decide (x ≠ ⟨#[]⟩)) = if a = [] then [] else [mkB a] := by
  by_cases h : a = []
  · subst h; simp [mkB]
  · have := (mkB_ne a).2 h
    simp [h, this]
theorem words_one (a : List UInt8) (ha : (32 : UInt8) ∉ a) : wordsF (mkB a) = if a = [] then [] else [mkB a] := by
  have h : indexB (mkB a) ⟨#[32]⟩ = -1 := by
    show index a [32] = -1
    exact idx_none ha
  unfold wordsF splitS
  rw [countB_miss _ _ h, splitB_zero]
  exact filter_one a
theorem words_cons (a b : List UInt8) (ha : (32 : UInt8) ∉ a) : wordsF (mkB (a ++ 32 :: b)) = (if a = [] then [] else [mkB a]) ++ wordsF (mkB b) := by
  have h : indexB (mkB (a ++ 32 :: b)) ⟨#[32]⟩ = (a.length : Int) := by
    show index (a ++ 32 :: b) [32] = _
    exact idx_hit a b ha
  have hsz : (mkB (a ++ 32 :: b)).size = a.length + 1 + b.length := by
    show ((a ++ 32 :: b).toArray).size = _
    simp; omega
  have e1 : (mkB (a ++ 32 :: b)).extract 0 a.length = mkB a := by
    apply ByteArray.ext
    apply Array.toList_inj.1
    simp [mkB]
  have e2 : (mkB (a ++ 32 :: b)).extract (a.length + 1) (mkB (a ++ 32 :: b)).size = mkB b := by
    rw [hsz]
    apply ByteArray.ext
    apply Array.toList_inj.1
    simp [mkB]
  unfold wordsF splitS
  have hc := countB_hit (mkB (a ++ 32 :: b)) ⟨#[32]⟩ a.length (by show (1 : Nat) ≤ 1; omega) h
  have hone : (⟨#[32]⟩ : ByteArray).size = 1 := rfl
  rw [hone] at hc
  rw [e2] at hc
  rw [hc, Nat.add_comm 1, splitB_hit _ _ _ _ _ h, hone, e2, Nat.add_zero, e1, List.filter_cons]
  have := filter_one a
  rw [List.filter_cons, List.filter_nil] at this
  split <;> rename_i hx
  · rw [if_pos hx] at this; rw [← this]; rfl
  · rw [if_neg hx] at this; rw [← this]; rfl

theorem digit_of (u : Nat) : ∀ b ∈ decDigits u, 48 ≤ b.toNat ∧ b.toNat ≤ 57 := by
  induction u using Nat.strongRecOn with
  | _ u ih =>
    intro b hb
    rw [decDigits] at hb
    split at hb
    · rename_i h
      rw [List.mem_singleton] at hb; subst hb
      have : (UInt8.ofNat (48 + u)).toNat = 48 + u := by
        rw [UInt8.toNat_ofNat']; omega
      omega
    · rename_i h
      rcases List.mem_append.1 hb with hb | hb
      · exact ih (u / 10) (by omega) b hb
      · rw [List.mem_singleton] at hb; subst hb
        have : (UInt8.ofNat (48 + u % 10)).toNat = 48 + u % 10 := by
          rw [UInt8.toNat_ofNat']; omega
        omega
theorem decFrom_append : ∀ (l m : List UInt8) (acc n : Nat), decFrom acc l = some n → decFrom acc (l ++ m) = decFrom n m
  | [], m, acc, n, h => by simp [decFrom] at h; subst h; rfl
  | b :: l, m, acc, n, h => by
    simp only [List.cons_append, decFrom] at h ⊢
    cases hd : digitVal b with
    | some d =>
      rw [hd] at h
      exact decFrom_append l m _ n h
    | none => rw [hd] at h; cases h
theorem decFrom_digits (u : Nat) : decFrom 0 (decDigits u) = some u := by
  induction u using Nat.strongRecOn with
  | _ u ih =>
    rw [decDigits]
    split
    · rename_i h
      have e : (UInt8.ofNat (48 + u)).toNat = 48 + u := by rw [UInt8.toNat_ofNat']; omega
      unfold decFrom digitVal
      rw [if_pos (by rw [e]; omega)]
      simp only [e, decFrom]
      congr 1; omega
    · rename_i h
      rw [decFrom_append _ _ _ _ (ih (u / 10) (by omega))]
      have e : (UInt8.ofNat (48 + u % 10)).toNat = 48 + u % 10 := by rw [UInt8.toNat_ofNat']; omega
      unfold decFrom digitVal
      rw [if_pos (by rw [e]; omega)]
      simp only [e, decFrom]
      congr 1; omega
theorem itoa_nat (n : Int) (h : 0 ≤ n) : itoa n = decDigits n.toNat := by
  unfold itoa; rw [if_neg (by omega)]
theorem decDigits_ne (u : Nat) : decDigits u ≠ [] := fun e => by
  have h1 := decDigits_length u
  have h2 := nDigits_pos u
  rw [e] at h1; simp at h1; omega
theorem atoi_itoa (n : Int) (h : 0 ≤ n) : atoi (itoa n) = some n := by
  rw [itoa_nat n h]
  have hd := digit_of n.toNat
  have hf := decFrom_digits n.toNat
  have hne := decDigits_ne n.toNat
  generalize decDigits n.toNat = l at *
  cases l with
  | nil => exact absurd rfl hne
  | cons b r =>
    have hb := hd b (by simp)
    have h1 : (b == 45) = false := by
      rw [beq_eq_false_iff_ne]; intro e; subst e; exact absurd hb.1 (by decide)
    have h2 : (b == 43) = false := by
      rw [beq_eq_false_iff_ne]; intro e; subst e; exact absurd hb.1 (by decide)
    unfold atoi decNat
    simp [h1, h2, hf]
    omega
theorem itoa_no32 (n : Int) (h : 0 ≤ n) : (32 : UInt8) ∉ itoa n := by
  rw [itoa_nat n h]
  intro hm
  have := digit_of n.toNat 32 hm
  exact absurd this.1 (by decide)
theorem itoa_ne (n : Int) (h : 0 ≤ n) : itoa n ≠ [] := by rw [itoa_nat n h]; exact decDigits_ne _
theorem nDigits_le : ∀ (k u : Nat), u < 10 ^ (k + 1) → nDigits u ≤ k + 1
  | 0, u, h => by rw [nDigits_small (by simpa using h)]; omega
  | k + 1, u, h => by
    by_cases hu : u < 10
    · rw [nDigits_small hu]; omega
    · rw [nDigits_big hu]
      have := nDigits_le k (u / 10) (by rw [Nat.pow_succ] at h; omega)
      omega
theorem itoaB_mk (n : Int) : itoaB n = mkB (itoa n) := rfl
theorem itoaB_18 (n : Int) (h0 : 0 ≤ n) (h : n < 1000000000000000000) : (itoaB n).size ≤ 18 := by
  show (itoa n).toArray.size ≤ 18
  rw [List.size_toArray, itoa_nat n h0, decDigits_length]
  exact nDigits_le 17 n.toNat (by rw [show (10 : Nat) ^ (17 + 1) = 1000000000000000000 by decide]; omega)
theorem app_mk (s : ByteArray) (l m : List UInt8) (h : s = mkB l) : s ++ mkB m = mkB (l ++ m) := by
  subst h
  apply ByteArray.ext
  apply Array.toList_inj.1
  simp [mkB]
theorem words_show (n : Int) (h : 0 ≤ n) : wordsF ((⟨#[115, 104, 111, 119, 32]⟩ : ByteArray) ++ itoaB n) = [⟨#[115, 104, 111, 119]⟩, itoaB n] := by
  have e : (⟨#[115, 104, 111, 119, 32]⟩ : ByteArray) ++ itoaB n = mkB ([115, 104, 111, 119] ++ 32 :: itoa n) := app_mk _ [115, 104, 111, 119, 32] (itoa n) rfl
  rw [e, words_cons _ _ (by decide), words_one _ (itoa_no32 n h), if_neg (by simp), if_neg (itoa_ne n h)]
  rfl
theorem words_show2 (n : Int) (h : 0 ≤ n) : wordsF ((⟨#[115, 104, 111, 119, 32, 32]⟩ : ByteArray) ++ itoaB n ++ ⟨#[32]⟩) = [⟨#[115, 104, 111, 119]⟩, itoaB n] := by
  have e1 : (⟨#[115, 104, 111, 119, 32, 32]⟩ : ByteArray) ++ itoaB n = mkB ([115, 104, 111, 119, 32, 32] ++ itoa n) := app_mk _ [115, 104, 111, 119, 32, 32] (itoa n) rfl
  have e2 : mkB ([115, 104, 111, 119, 32, 32] ++ itoa n) ++ (⟨#[32]⟩ : ByteArray) = mkB ([115, 104, 111, 119] ++ 32 :: ([] ++ 32 :: (itoa n ++ 32 :: []))) := by
    have := app_mk (mkB ([115, 104, 111, 119, 32, 32] ++ itoa n)) ([115, 104, 111, 119, 32, 32] ++ itoa n) [32] rfl
    exact this.trans (by simp [mkB])
  rw [e1, e2, words_cons _ _ (by decide), words_cons _ _ (by simp), words_cons _ _ (itoa_no32 n h), words_one _ (by simp), if_neg (by simp), if_pos rfl, if_neg (itoa_ne n h)]
  rfl
theorem words_list : wordsF ⟨#[108, 105, 115, 116]⟩ = [⟨#[108, 105, 115, 116]⟩] := by
  have := words_one [108, 105, 115, 116] (by decide)
  rw [if_neg (by simp)] at this
  exact this
theorem words_stats : wordsF ⟨#[115, 116, 97, 116, 115]⟩ = [⟨#[115, 116, 97, 116, 115]⟩] := by
  have := words_one [115, 116, 97, 116, 115] (by decide)
  rw [if_neg (by simp)] at this
  exact this
theorem itoa4 : itoaB 4 = ⟨#[52]⟩ := by
  rw [itoaB_mk, itoa_nat 4 (by omega), show (4 : Int).toNat = 4 from rfl, decDigits_one (by omega)]; rfl
theorem itoa10 : itoaB 10 = ⟨#[49, 48]⟩ := by
  rw [itoaB_mk, itoa_nat 10 (by omega), show (10 : Int).toNat = 10 from rfl, decDigits_two (by omega) (by omega)]; rfl
/-- "list level 4 order last limit 10" -/
def exQ : ByteArray := ⟨#[108, 105, 115, 116, 32, 108, 101, 118, 101, 108, 32, 52, 32, 111, 114, 100, 101, 114, 32, 108, 97, 115, 116, 32, 108, 105, 109, 105, 116, 32, 49, 48]⟩
theorem words_ex : wordsF exQ = [⟨#[108, 105, 115, 116]⟩, ⟨#[108, 101, 118, 101, 108]⟩, itoaB 4, ⟨#[111, 114, 100, 101, 114]⟩, ⟨#[108, 97, 115, 116]⟩, ⟨#[108, 105, 109, 105, 116]⟩, itoaB 10] := by
  have e : exQ = mkB ([108, 105, 115, 116] ++ 32 :: ([108, 101, 118, 101, 108] ++ 32 :: ([52] ++ 32 :: ([111, 114, 100, 101, 114] ++ 32 :: ([108, 97, 115, 116] ++ 32 :: ([108, 105, 109, 105, 116] ++ 32 :: [49, 48])))))) := rfl
  rw [e, words_cons _ _ (by decide), words_cons _ _ (by decide), words_cons _ _ (by decide), words_cons _ _ (by decide), words_cons _ _ (by decide), words_cons _ _ (by decide), words_one _ (by decide), itoa4, itoa10]
  rfl
end Go.SL
