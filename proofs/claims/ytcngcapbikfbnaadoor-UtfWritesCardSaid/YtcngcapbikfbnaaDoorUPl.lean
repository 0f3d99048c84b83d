/-
  Texts as bytes and as units: plain lists. No program in sight.
-/
import Derived.Test.YtcngcapbikfbnaaDoorBase
namespace Go.Proofs.YtcngcapbikfbnaaDoor.W
open Go Go.Vm Go.Proofs
set_option maxRecDepth 100000
set_option linter.unusedSimpArgs false
abbrev R (n : Int) : V := .int .i32 n
abbrev B (n : Int) : V := .int .u8 n
abbrev U (n : Int) : V := .int .u16 n
/-- bytes -/
def Byt (b : List Int) : Prop := ∀ c ∈ b, 0 ≤ c ∧ c ≤ 255
theorem Byt.at {b : List Int} (h : Byt b) {k : Nat} (hk : k < b.length) : 0 ≤ b[k] ∧ b[k] ≤ 255 := h _ (List.getElem_mem hk)
theorem Byt.drop {b : List Int} (h : Byt b) (k : Nat) : Byt (b.drop k) := fun c hc => h c (List.mem_of_mem_drop hc)
theorem Byt.take {b : List Int} (h : Byt b) (k : Nat) : Byt (b.take k) := fun c hc => h c (List.mem_of_mem_take hc)
/-- may a rune stand in a text? -/
def rightF (r : Int) : Bool := decide (0 ≤ r ∧ r ≤ 1114111 ∧ (r < 55296 ∨ 57343 < r))
theorem right_iff {r : Int} : rightF r = true ↔ 0 ≤ r ∧ r ≤ 1114111 ∧ (r < 55296 ∨ 57343 < r) := by simp [rightF]
/-- the bytes of a rune -/
def formF (r : Int) : List Int :=
 if r < 128 then [r] else if r < 2048 then [192 + r / 64, 128 + r % 64] else if r < 65536 then [224 + r / 4096, 128 + r / 64 % 64, 128 + r % 64]
 else [240 + r / 262144, 128 + r / 4096 % 64, 128 + r / 64 % 64, 128 + r % 64]
theorem form_len {r : Int} : 1 ≤ (formF r).length ∧ (formF r).length ≤ 4 := by
 unfold formF
 repeat' split
 all_goals simp
def encF (t : List Int) : List Int := t.flatMap formF
theorem encF_snoc {t : List Int} {k : Nat} (h : k < t.length) : encF (t.take (k + 1)) = encF (t.take k) ++ formF t[k] := by
 rw [encF, encF, List.take_succ_eq_append_getElem h, List.flatMap_append]
 simp
theorem encF_len (t : List Int) : (encF t).length ≤ 4 * t.length := by
 induction t with
 | nil => simp [encF]
 | cons r q ih =>
  have := (form_len (r := r)).2
  simp only [encF, List.flatMap_cons, List.length_append, List.length_cons] at ih ⊢
  omega
/-- how many bytes a form has that begins with a byte; 0: none does -/
def lng (c : Int) : Nat := if c < 128 then 1 else if c < 194 ∨ 244 < c then 0 else if c < 224 then 2 else if c < 240 then 3 else 4
theorem lng_le {c : Int} : lng c ≤ 4 := by
 unfold lng
 repeat' split
 all_goals omega
def lo2 (a : Int) : Int := if a = 224 then 160 else if a = 240 then 144 else 128
def hi2 (a : Int) : Int := if a = 237 then 159 else if a = 244 then 143 else 191
/-- may the k-th byte stand behind a first one? -/
def gd (a : Int) (k : Nat) (c : Int) : Prop := if k = 1 then lo2 a ≤ c ∧ c ≤ hi2 a else 128 ≤ c ∧ c ≤ 191
instance {a : Int} {k : Nat} {c : Int} : Decidable (gd a k c) := by unfold gd; infer_instance
theorem gd_one {a c : Int} : gd a 1 c ↔ lo2 a ≤ c ∧ c ≤ hi2 a := by simp [gd]
theorem gd_up {a c : Int} {k : Nat} (h : 2 ≤ k) : gd a k c ↔ 128 ≤ c ∧ c ≤ 191 := by simp [gd, show k ≠ 1 by omega]
theorem gd_in {a c : Int} {k : Nat} (h : gd a k c) : 128 ≤ c ∧ c ≤ 191 := by
 by_cases e : k = 1
 ·subst e
  rw [gd_one] at h
  unfold lo2 hi2 at h
  split at h <;> split at h <;> (try split at h) <;> (try split at h) <;> omega
 ·simpa [gd, e] using h
/-- how many bytes stand well, from the k-th on, up to L -/
def cnt (a : Int) (L : Nat) : Nat → List Int → Nat
 | k, [] => k
 | k, c :: r => if k < L ∧ gd a k c then cnt a L (k + 1) r else k
theorem cnt_ge {a : Int} {L : Nat} : ∀ {r : List Int} {k : Nat}, k ≤ cnt a L k r ∧ cnt a L k r ≤ k + r.length
 | [], k => by simp [cnt]
 | c :: r, k => by
  simp only [cnt]
  have := cnt_ge (a := a) (L := L) (r := r) (k := k + 1)
  split <;> simp only [List.length_cons] <;> omega
theorem cnt_le {a : Int} {L : Nat} : ∀ {r : List Int} {k : Nat}, k ≤ L → cnt a L k r ≤ L
 | [], k, h => by simpa [cnt] using h
 | c :: r, k, h => by
  simp only [cnt]
  split
  ·exact cnt_le (by omega)
  ·exact h
/-- a lower bound on how many may stand cuts the number -/
theorem cnt_min {a : Int} {L M : Nat} (hM : M ≤ L) : ∀ {r : List Int} {k : Nat}, k ≤ M → cnt a M k r = min (cnt a L k r) M
 | [], k, h => by simp [cnt]; omega
 | c :: r, k, h => by
  simp only [cnt]
  by_cases h1 : k < M ∧ gd a k c
  ·rw [if_pos h1, if_pos ⟨by omega, h1.2⟩]
   exact cnt_min hM (by omega)
  ·rw [if_neg h1]
   by_cases h2 : k < L ∧ gd a k c
   ·rw [if_pos h2]
    have := cnt_ge (a := a) (L := L) (r := r) (k := k + 1)
    have h3 : ¬ k < M := fun h3 => h1 ⟨h3, h2.2⟩
    omega
   ·rw [if_neg h2]; omega
/-- how many bytes stand well -/
def st : List Int → Nat
 | [] => 0
 | a :: r => cnt a (lng a) 1 r
/-- does a whole form stand first? -/
def okB : List Int → Bool
 | [] => false
 | a :: r => decide (cnt a (lng a) 1 r = lng a)
def hd : List Int → Int
 | [] => 0
 | a :: _ => a
theorem hd_at {b : List Int} (h : 0 < b.length) : b[0] = hd b := by
 cases b with
 | nil => simp at h
 | cons a r => rfl
/-- the rune of a form -/
def valF : List Int → Int
 | [] => 0
 | [a] => a
 | [a, b] => (a - 192) * 64 + b - 128
 | [a, b, c] => ((a - 224) * 64 + b - 128) * 64 + c - 128
 | a :: b :: c :: d :: _ => (((a - 240) * 64 + b - 128) * 64 + c - 128) * 64 + d - 128
theorem st_pos {b : List Int} (h : b ≠ []) : 1 ≤ st b ∧ st b ≤ b.length := by
 cases b with
 | nil => exact absurd rfl h
 | cons a r =>
  have := cnt_ge (a := a) (L := lng a) (r := r) (k := 1)
  simp only [st, List.length_cons]
  omega
theorem ok_lng {b : List Int} (h : okB b = true) : 1 ≤ lng (hd b) ∧ lng (hd b) ≤ b.length ∧ st b = lng (hd b) := by
 cases b with
 | nil => cases h
 | cons a r =>
  simp only [okB, decide_eq_true_eq] at h
  have := cnt_ge (a := a) (L := lng a) (r := r) (k := 1)
  simp only [hd, st, List.length_cons]
  omega
theorem st_bad {b : List Int} (hb : b ≠ []) (h : okB b = false) : st b < lng (hd b) ∨ lng (hd b) = 0 := by
 cases b with
 | nil => exact absurd rfl hb
 | cons a r =>
  simp only [okB, decide_eq_false_iff_not] at h
  simp only [st, hd]
  by_cases h0 : lng a = 0
  ·exact .inr h0
  ·have := cnt_le (a := a) (L := lng a) (r := r) (k := 1) (by omega)
   omega
/-! what a form is, byte by byte -/
theorem ok1 {a : Int} {r : List Int} (h : lng a = 1) : okB (a :: r) = true := by
 cases r <;> simp [okB, cnt, h]
theorem ok0 {a : Int} {r : List Int} (h : lng a = 0) : okB (a :: r) = false := by
 cases r <;> simp [okB, cnt, h]
theorem ok2 {b : List Int} (h : lng (hd b) = 2) : okB b = true ↔ ∃ h1 : 1 < b.length, gd (hd b) 1 b[1] := by
 match b with
 | [] => simp [okB]
 | [a] => simp only [hd] at h; simp [okB, cnt, h]
 | a :: c :: r =>
  simp only [hd] at h
  simp only [okB, cnt, h, decide_eq_true_eq, hd, List.length_cons, List.getElem_cons_succ, List.getElem_cons_zero]
  have := cnt_ge (a := a) (L := 2) (r := r) (k := 2)
  have := cnt_le (a := a) (L := 2) (r := r) (k := 2) (Nat.le_refl _)
  by_cases hg : gd a 1 c
  ·simp [hg]; omega
  ·simp [hg]
theorem ok3 {b : List Int} (h : lng (hd b) = 3) : okB b = true ↔ ∃ h1 : 2 < b.length, gd (hd b) 1 b[1] ∧ gd (hd b) 2 b[2] := by
 match b with
 | [] => simp [okB]
 | [a] => simp only [hd] at h; simp [okB, cnt, h]
 | [a, c] =>
  simp only [hd] at h
  simp only [okB, cnt, h, decide_eq_true_eq]
  split <;> simp
 | a :: c :: d :: r =>
  simp only [hd] at h
  simp only [okB, cnt, h, decide_eq_true_eq, hd, List.length_cons, List.getElem_cons_succ, List.getElem_cons_zero]
  have := cnt_ge (a := a) (L := 3) (r := r) (k := 3)
  have := cnt_le (a := a) (L := 3) (r := r) (k := 3) (Nat.le_refl _)
  by_cases hg : gd a 1 c
  ·by_cases hg2 : gd a 2 d
   ·simp [hg, hg2]; omega
   ·simp [hg, hg2]
  ·simp [hg]
theorem ok4 {b : List Int} (h : lng (hd b) = 4) : okB b = true ↔ ∃ h1 : 3 < b.length, gd (hd b) 1 b[1] ∧ gd (hd b) 2 b[2] ∧ gd (hd b) 3 b[3] := by
 match b with
 | [] => simp [okB]
 | [a] => simp only [hd] at h; simp [okB, cnt, h]
 | [a, c] =>
  simp only [hd] at h
  simp only [okB, cnt, h, decide_eq_true_eq]
  split <;> simp
 | [a, c, d] =>
  simp only [hd] at h
  simp only [okB, cnt, h, decide_eq_true_eq]
  split
  ·split <;> simp
  ·simp
 | a :: c :: d :: e :: r =>
  simp only [hd] at h
  simp only [okB, cnt, h, decide_eq_true_eq, hd, List.length_cons, List.getElem_cons_succ, List.getElem_cons_zero]
  have := cnt_ge (a := a) (L := 4) (r := r) (k := 4)
  have := cnt_le (a := a) (L := 4) (r := r) (k := 4) (Nat.le_refl _)
  by_cases hg : gd a 1 c
  ·by_cases hg2 : gd a 2 d
   ·by_cases hg3 : gd a 3 e
    ·simp [hg, hg2, hg3]; omega
    ·simp [hg, hg2, hg3]
   ·simp [hg, hg2]
  ·simp [hg]
theorem val2 {b : List Int} (h1 : 1 < b.length) : valF (b.take 2) = (b[0] - 192) * 64 + b[1] - 128 := by
 match b, h1 with
 | a :: c :: r, _ => rfl
theorem val3 {b : List Int} (h1 : 2 < b.length) : valF (b.take 3) = ((b[0] - 224) * 64 + b[1] - 128) * 64 + b[2] - 128 := by
 match b, h1 with
 | a :: c :: d :: r, _ => rfl
theorem val4 {b : List Int} (h1 : 3 < b.length) : valF (b.take 4) = (((b[0] - 240) * 64 + b[1] - 128) * 64 + b[2] - 128) * 64 + b[3] - 128 := by
 match b, h1 with
 | a :: c :: d :: e :: r, _ => rfl
/-! decoding -/
def decoF : Nat → List Int → Int → List Int → List Int × Int × Int
 | 0, _, a, acc => (acc, a, 0)
 | f + 1, b, a, acc => if b = [] then (acc, a, 0)
  else if okB b = true then decoF f (b.drop (lng (hd b))) (a + lng (hd b)) (acc ++ [valF (b.take (lng (hd b)))])
  else if st b = b.length ∧ st b < lng (hd b) then ([], a, 4) else ([], a, 3)
def lossF : Nat → List Int → List Int → List Int
 | 0, _, acc => acc
 | f + 1, b, acc => if b = [] then acc
  else if okB b = true then lossF f (b.drop (lng (hd b))) (acc ++ [valF (b.take (lng (hd b)))])
  else lossF f (b.drop (st b)) (acc ++ [65533])
/-! units -/
def unitF (r : Int) : List Int := if r < 65536 then [r] else [55296 + (r - 65536) / 1024, 56320 + (r - 65536) % 1024]
def unitsF (t : List Int) : List Int := t.flatMap unitF
theorem unitsF_snoc {t : List Int} {k : Nat} (h : k < t.length) : unitsF (t.take (k + 1)) = unitsF (t.take k) ++ unitF t[k] := by
 rw [unitsF, unitsF, List.take_succ_eq_append_getElem h, List.flatMap_append]
 simp
theorem unitF_len {r : Int} : 1 ≤ (unitF r).length ∧ (unitF r).length ≤ 2 := by
 unfold unitF
 split <;> simp
theorem unitsF_len (t : List Int) : (unitsF t).length ≤ 2 * t.length := by
 induction t with
 | nil => simp [unitsF]
 | cons r q ih =>
  have := (unitF_len (r := r)).2
  simp only [unitsF, List.flatMap_cons, List.length_append, List.length_cons] at ih ⊢
  omega
def fromF : Nat → List Int → Int → List Int → List Int × Int × Int
 | 0, _, a, acc => (acc, a, 0)
 | f + 1, u, a, acc => if u = [] then (acc, a, 0)
  else if hd u < 55296 ∨ 57343 < hd u then fromF f (u.drop 1) (a + 1) (acc ++ [hd u])
  else if 56319 < hd u then ([], a, 3)
  else if u.length = 1 then ([], a, 4)
  else if 56320 ≤ hd (u.drop 1) ∧ hd (u.drop 1) ≤ 57343 then fromF f (u.drop 2) (a + 2) (acc ++ [65536 + (hd u - 55296) * 1024 + (hd (u.drop 1) - 56320)])
  else ([], a, 3)
/-! places -/
def szF (r : Int) : Int := (formF r).length
def sumF (t : List Int) : Int := (encF t).length
theorem szF_pos {r : Int} : 1 ≤ szF r ∧ szF r ≤ 4 := by
 have := form_len (r := r)
 simp only [szF]
 omega
def byteF (t : List Int) (a : Int) : Int := if t.all rightF = true ∧ 0 ≤ a ∧ a ≤ t.length then sumF (t.take a.toNat) else -1
/-- from the i-th sign on: in which one the byte lies -/
def plcF : List Int → Int → Int → Int
 | [], i, b => if b = 0 then i else -1
 | r :: q, i, b => if b < szF r then i else plcF q (i + 1) (b - szF r)
def placeF (t : List Int) (b : Int) : Int := if t.all rightF = true ∧ 0 ≤ b then plcF t 0 b else -1
end Go.Proofs.YtcngcapbikfbnaaDoor.W
