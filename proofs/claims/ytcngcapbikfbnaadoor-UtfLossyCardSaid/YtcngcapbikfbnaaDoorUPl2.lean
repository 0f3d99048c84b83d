/-
  Texts: what is written reads back; what is read writes back. Plain lists. No program in sight.
-/
import Derived.Test.YtcngcapbikfbnaaDoorU6
import Derived.Test.YtcngcapbikfbnaaDoorU8
import Derived.Test.YtcngcapbikfbnaaDoorU9
namespace Go.Proofs.YtcngcapbikfbnaaDoor.W
open Go Go.Vm Go.Proofs
set_option maxRecDepth 100000
set_option linter.unusedSimpArgs false
theorem gd_to {a c : Int} (h : gd a 1 c) : 128 ≤ c ∧ c ≤ 191 ∧ (a = 224 → 160 ≤ c) ∧ (a = 237 → c ≤ 159) ∧ (a = 240 → 144 ≤ c) ∧ (a = 244 → c ≤ 143) := by
 have hi := gd_in h
 rw [gd_one] at h
 refine ⟨hi.1, hi.2, ?_, ?_, ?_, ?_⟩
 all_goals (
  intro e
  subst e
  simp [lo2, hi2] at h
  omega)
/-- a form that stands is its rune's, and the rune is right -/
theorem form_val {b : List Int} (hb : Byt b) (hok : okB b = true) : rightF (valF (b.take (lng (hd b)))) = true ∧ formF (valF (b.take (lng (hd b)))) = b.take (lng (hd b)) := by
 have h0 := ok_lng hok
 have h4 := lng_le (c := hd b)
 have ha := hb.at (k := 0) (by omega)
 rw [hd_at (by omega)] at ha
 rcases (show lng (hd b) = 1 ∨ lng (hd b) = 2 ∨ lng (hd b) = 3 ∨ lng (hd b) = 4 by omega) with l | l | l | l
 ·have a1 : hd b < 128 := by
   by_cases h : hd b < 128
   ·exact h
   ·exfalso
    have : lng (hd b) ≠ 1 := by
     rw [lng, if_neg h]
     repeat' split
     all_goals simp
    exact this l
  rw [l]
  match b, h0 with
  | a :: q, _ =>
   simp only [hd] at a1 ha
   show rightF a = true ∧ formF a = [a]
   exact ⟨right_t ⟨by omega, by omega, by omega⟩, by rw [formF, if_pos a1]⟩
 ·obtain ⟨h1, g1⟩ := (ok2 l).1 hok
  have ar := lng2 l
  have gr := gd_to g1
  rw [l]
  match b, h1 with
  | a :: c :: q, _ =>
   simp only [hd, List.getElem_cons_succ, List.getElem_cons_zero] at ar gr
   show rightF ((a - 192) * 64 + c - 128) = true ∧ formF ((a - 192) * 64 + c - 128) = [a, c]
   refine ⟨right_t ⟨by omega, by omega, by omega⟩, ?_⟩
   rw [formF, if_neg (by omega), if_pos (by omega)]
   rw [show 192 + ((a - 192) * 64 + c - 128) / 64 = a by omega, show 128 + ((a - 192) * 64 + c - 128) % 64 = c by omega]
 ·obtain ⟨h1, g1, g2⟩ := (ok3 l).1 hok
  have ar := lng3 l
  have gr := gd_to g1
  have gs := gd_in g2
  rw [l]
  match b, h1 with
  | a :: c :: d :: q, _ =>
   simp only [hd, List.getElem_cons_succ, List.getElem_cons_zero] at ar gr gs
   show rightF (((a - 224) * 64 + c - 128) * 64 + d - 128) = true ∧ formF (((a - 224) * 64 + c - 128) * 64 + d - 128) = [a, c, d]
   refine ⟨right_t ⟨by omega, by omega, by omega⟩, ?_⟩
   rw [formF, if_neg (by omega), if_neg (by omega), if_pos (by omega)]
   rw [show 224 + (((a - 224) * 64 + c - 128) * 64 + d - 128) / 4096 = a by omega, show 128 + (((a - 224) * 64 + c - 128) * 64 + d - 128) / 64 % 64 = c by omega, show 128 + (((a - 224) * 64 + c - 128) * 64 + d - 128) % 64 = d by omega]
 ·obtain ⟨h1, g1, g2, g3⟩ := (ok4 l).1 hok
  have ar := lng4 l
  have gr := gd_to g1
  have gs := gd_in g2
  have gu := gd_in g3
  rw [l]
  match b, h1 with
  | a :: c :: d :: e :: q, _ =>
   simp only [hd, List.getElem_cons_succ, List.getElem_cons_zero] at ar gr gs gu
   show rightF ((((a - 240) * 64 + c - 128) * 64 + d - 128) * 64 + e - 128) = true ∧ formF ((((a - 240) * 64 + c - 128) * 64 + d - 128) * 64 + e - 128) = [a, c, d, e]
   refine ⟨right_t ⟨by omega, by omega, by omega⟩, ?_⟩
   rw [formF, if_neg (by omega), if_neg (by omega), if_neg (by omega)]
   rw [show 240 + ((((a - 240) * 64 + c - 128) * 64 + d - 128) * 64 + e - 128) / 262144 = a by omega, show 128 + ((((a - 240) * 64 + c - 128) * 64 + d - 128) * 64 + e - 128) / 4096 % 64 = c by omega,
    show 128 + ((((a - 240) * 64 + c - 128) * 64 + d - 128) * 64 + e - 128) / 64 % 64 = d by omega, show 128 + ((((a - 240) * 64 + c - 128) * 64 + d - 128) * 64 + e - 128) % 64 = e by omega]
/-! lossy reading -/
theorem loss_right : ∀ {f : Nat} {b acc : List Int}, Byt b → acc.all rightF = true → (lossF f b acc).all rightF = true
 | 0, _, _, _, h => h
 | f + 1, b, acc, hb, h => by
  by_cases hne : b = []
  ·subst hne
   rw [loss_nil]
   exact h
  cases hok : okB b
  ·rw [loss_bad hne hok]
   exact loss_right (hb.drop _) (by rw [List.all_append, h]; decide)
  ·rw [loss_one hne hok]
   exact loss_right (hb.drop _) (by rw [List.all_append, h]; simp [(form_val hb hok).1])
theorem loss_len : ∀ {f : Nat} {b acc : List Int}, (lossF f b acc).length ≤ acc.length + b.length
 | 0, _, _ => by simp [lossF]
 | f + 1, b, acc => by
  by_cases hne : b = []
  ·subst hne
   rw [loss_nil]
   simp
  cases hok : okB b
  ·rw [loss_bad hne hok]
   have := loss_len (f := f) (b := b.drop (st b)) (acc := acc ++ [65533])
   have hs := st_pos hne
   simp only [List.length_drop, List.length_append, List.length_cons, List.length_nil] at this
   omega
  ·rw [loss_one hne hok]
   have := loss_len (f := f) (b := b.drop (lng (hd b))) (acc := acc ++ [valF (b.take (lng (hd b)))])
   have hs := ok_lng hok
   simp only [List.length_drop, List.length_append, List.length_cons, List.length_nil] at this
   omega
/-! reading -/
theorem deco_err : ∀ {f : Nat} {b : List Int} {a : Int} {acc : List Int}, (decoF f b a acc).2.2 ≠ 0 → (decoF f b a acc).1 = []
 | 0, _, _, _, h => absurd rfl h
 | f + 1, b, a, acc, h => by
  by_cases hne : b = []
  ·subst hne
   rw [deco_nil] at h
   exact absurd rfl h
  cases hok : okB b
  ·rw [deco_bad hne hok]
   split <;> rfl
  ·rw [deco_one hne hok] at h ⊢
   exact deco_err h
theorem deco_ok : ∀ {f : Nat} {b : List Int} {a : Int} {acc : List Int}, Byt b → b.length ≤ f → (decoF f b a acc).2.2 = 0 → ∃ s, (decoF f b a acc).1 = acc ++ s ∧ lossF f b acc = acc ++ s ∧ s.all rightF = true ∧ encF s = b
 | 0, b, a, acc, _, hl, _ => by
  obtain rfl : b = [] := List.length_eq_zero_iff.1 (by omega)
  exact ⟨[], by simp [decoF], by simp [lossF], rfl, rfl⟩
 | f + 1, b, a, acc, hb, hl, h => by
  by_cases hne : b = []
  ·subst hne
   exact ⟨[], by simp [deco_nil], by simp [loss_nil], rfl, rfl⟩
  cases hok : okB b
  ·rw [deco_bad hne hok] at h
   split at h <;> simp at h
  ·rw [deco_one hne hok] at h ⊢
   rw [loss_one hne hok]
   have hs := ok_lng hok
   obtain ⟨s, h1, h2, h3, h4⟩ := deco_ok (hb.drop _) (by simp only [List.length_drop]; omega) h
   have fv := form_val hb hok
   refine ⟨valF (b.take (lng (hd b))) :: s, by rw [h1]; simp, by rw [h2]; simp, by simp [fv.1, h3], ?_⟩
   show formF (valF (b.take (lng (hd b)))) ++ encF s = b
   rw [fv.2, h4, List.take_append_drop]
/-! units -/
/-! places -/
end Go.Proofs.YtcngcapbikfbnaaDoor.W
