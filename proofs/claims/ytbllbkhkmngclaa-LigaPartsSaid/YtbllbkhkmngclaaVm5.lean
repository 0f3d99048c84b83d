/-
  The abstract machine, part 5: integers, strings, slices, addresses: each operation against the model.
-/
import Derived.Test.YtbllbkhkmngclaaVm4
namespace Go.Vm
open Go Go.RowKit

section inv
variable {w : World} {X : Nat → Prop} {μ : Mu} {v : Value}
theorem Rep.int_inv {k : IntKind} {n : Int} (h : Rep w X μ v (.pure (.int k n))) : v = .int k n ∧ (Lit.int k n).wf = true := by
  cases h.pure_inv with
  | int _ _ hw => exact ⟨rfl, hw⟩
theorem Rep.bool_inv {b : Bool} (h : Rep w X μ v (.pure (.bool b))) : v = .bool b := by
  cases h.pure_inv with
  | bool _ => rfl
theorem Rep.str_inv {s : List UInt8} (h : Rep w X μ v (.pure (.str s))) : ∃ b : ByteArray, v = .string b ∧ b.data.toList = s ∧ b.size ≤ maxLen := by
  cases h.pure_inv with
  | str b hb => exact ⟨b, rfl, rfl, hb⟩
theorem Rep.empty_inv (h : Rep w X μ v .empty) : ∃ a : Option Addr, v = .slice a 0 0 ∧ ∀ x, a = some x → True := by
  cases h with
  | empty a ha => exact ⟨a, rfl, ha⟩
theorem Rep.mkInt {k : IntKind} {n : Int} (h : (Lit.int k n).wf = true) : Rep w X μ (.int k n) (.pure (.int k n)) := .pure _ _ (.int _ _ h)
theorem Rep.mkBool {b : Bool} : Rep w X μ (.bool b) (.pure (.bool b)) := .pure _ _ (.bool _)
end inv

theorem wf_tmod {k : IntKind} {a b : Int} (ha : (Lit.int k a).wf = true) : (Lit.int k (a.tmod b)).wf = true := by
  have h1 : (0 ≤ a → 0 ≤ a.tmod b ∧ a.tmod b ≤ a) ∧ (a ≤ 0 → a ≤ a.tmod b ∧ a.tmod b ≤ 0) := by
    constructor
    · intro h
      obtain ⟨m, rfl⟩ := Int.eq_ofNat_of_zero_le h
      have e : (m : Int).tmod b = ((m % b.natAbs : Nat) : Int) := by
        cases b with
        | ofNat n => rfl
        | negSucc n => rfl
      rw [e]
      have := Nat.mod_le m b.natAbs
      omega
    · intro h
      obtain ⟨m, hm⟩ := Int.eq_ofNat_of_zero_le (show 0 ≤ -a by omega)
      obtain rfl : a = -(m : Int) := by omega
      have e : (-(m : Int)).tmod b = -((m % b.natAbs : Nat) : Int) := by
        rw [Int.neg_tmod]
        congr 1
        cases b with
        | ofNat n => rfl
        | negSucc n => rfl
      rw [e]
      have := Nat.mod_le m b.natAbs
      omega
  have hk : k.min ≤ 0 ∧ 0 ≤ k.max := by cases k <;> decide
  simp only [Lit.wf, Bool.and_eq_true, decide_eq_true_eq] at ha ⊢
  rcases Int.le_total 0 a with h | h
  · have := h1.1 h; omega
  · have := h1.2 h; omega
theorem wf_shr {k : IntKind} {a : Int} (n : Nat) (ha : (Lit.int k a).wf = true) : (Lit.int k (a.fdiv (2 ^ n))).wf = true := by
  have hp : (0 : Int) < 2 ^ n := Int.pow_pos (by decide)
  rw [Int.fdiv_eq_ediv_of_nonneg _ (by omega)]
  have hk : k.min ≤ 0 ∧ 0 ≤ k.max := by cases k <;> decide
  simp only [Lit.wf, Bool.and_eq_true, decide_eq_true_eq] at ha ⊢
  rcases Int.le_total 0 a with h | h
  · have h0 : 0 ≤ a / 2 ^ n := Int.ediv_nonneg h (by omega)
    have h1 : a / 2 ^ n ≤ a := Int.ediv_le_self _ h
    omega
  · have h1 : a / 2 ^ n ≤ 0 := by
      have := Int.ediv_le_ediv hp h
      simpa using this
    have h2 : a ≤ a / 2 ^ n := by
      rw [Int.le_ediv_iff_mul_le hp]
      have h3 : (1 : Int) ≤ 2 ^ n := by omega
      have := Int.mul_le_mul_of_nonpos_left h h3
      omega
    omega

theorem intF_sound {P : Program} {w : World} {X : Nat → Prop} {op : BinOp} {t : TypeId} {k k' : IntKind} {a b : Int} (ha : (Lit.int k a).wf = true) (hkk : isShift op = true ∨ k = k') {r : V} (h : intF op k a b = some r) :
    ∃ v, (binOp op t (.int k a) (.int k' b)).run P w = .ok v w ∧ PRep w X v r := by
  have shiftCase : isShift op = true → ∃ v, (binOp op t (.int k a) (.int k' b)).run P w = .ok v w ∧ PRep w X v r := by
    intro hs
    cases op <;> simp [isShift] at hs
    · simp only [intF] at h
      split at h
      · cases h
      · rename_i hb
        simp only [Option.some.injEq] at h
        subst h
        exact ⟨_, by simp [binOp, Op.shift, hb], .int _ _ (wf_wrap _ _)⟩
    · simp only [intF] at h
      split at h
      · cases h
      · rename_i hb
        simp only [Option.some.injEq] at h
        subst h
        exact ⟨_, by simp [binOp, Op.shift, hb], .int _ _ (wf_shr _ ha)⟩
  by_cases hs : isShift op = true
  · exact shiftCase hs
  · have hk : k = k' := hkk.resolve_left hs
    subst hk
    cases op <;> simp [isShift] at hs <;> simp only [intF] at h
    case quo =>
      split at h
      · cases h
      · rename_i hb
        simp only [Option.some.injEq] at h
        subst h
        exact ⟨_, by simp [binOp, Op.intDiv, hb], .int _ _ (wf_wrap _ _)⟩
    case rem =>
      split at h
      · cases h
      · rename_i hb
        simp only [Option.some.injEq] at h
        subst h
        exact ⟨_, by simp [binOp, Op.intDiv, hb], .int _ _ (wf_tmod ha)⟩
    all_goals
      simp only [Option.some.injEq] at h
      subst h
      first
        | (refine ⟨.int k _, ?_, .int _ _ (wf_wrap _ _)⟩; simp only [binOp, ne_eq, not_true_eq_false, if_false]; rfl)
        | (refine ⟨.bool _, ?_, .bool _⟩; simp only [binOp, ne_eq, not_true_eq_false, if_false]; rfl)

section addr
variable {P : Program} {w : World} {μ : Mu} {H HF : Heap}

theorem rowAt_of (hF : ∀ (b : Nat) (l : Loc), μ b = some l → HF[b]? = H[b]?) {b : Nat} {l : Loc} (hl : μ b = some l) {r : Row} (h : rowAt HF b = some r) : rowAt H b = some r := by
  unfold rowAt at *
  rw [hF b l hl] at h
  exact h
theorem rowAt_inv {b : Nat} {r : Row} (h : rowAt H b = some r) : H[b]? = some r ∧ r.st ≠ .dead := by
  unfold rowAt at h
  split at h
  · rename_i r' h'
    split at h
    · cases h
    · simp at h; subst h; exact ⟨h', by assumption⟩
  · cases h

theorem idxA_sound (hrep : HRep w μ H) (hF : ∀ (b : Nat) (l : Loc), μ b = some l → HF[b]? = H[b]?) {t e : TypeId} {size : Nat} (ht : P.underlying t = some (.slice e)) (hs : sizeT P e = some size)
    {xv iv : Value} {env : Env} {x i : O} {s : S} (hx : Rep w (excl μ H) μ xv (x.ev env)) (hi : Rep w (excl μ H) μ iv (i.ev env)) (h : aFun env HF (.idxA size x i) = some s) :
    ∃ v, (Instr.indexAt t xv iv).run P w = .ok v w ∧ Rep w (excl μ H) μ v s := by
  simp only [aFun] at h
  split at h
  · rename_i es k n hxe hie
    rw [hxe] at hx
    rw [hie] at hi
    obtain ⟨rfl, _⟩ := hi.int_inv
    split at h
    · rename_i h0
      split at h
      · rename_i e' hget
        split at h
        · rename_i hsz
          simp only [Option.some.injEq] at h
          subst h
          obtain ⟨hlt, _⟩ := List.getElem?_eq_some_iff.1 hget
          cases hx.pure_inv with
          | nils => simp at hget
          | sl blk off len cap size' es f hz hl hc hm hx' hs' hcell hw hr =>
            have hmem := List.mem_of_getElem? hget
            have hsz' : size' = size := by rw [← hs' _ hmem, hsz]
            subst hsz'
            refine ⟨.pointer (some ⟨blk, off + n.toNat * size' + 0, none⟩), ?_, ?_⟩
            · have hn : n < (len : Int) := by omega
              simp [Instr.indexAt, run_underlying ht, asIntOf, h0, hn, run_sizeT hs, addr_add]
            · refine .pptr blk (off + n.toNat * size') e' 0 (fun j => f (n.toNat * size' + j)) (by omega) (hx' (List.ne_nil_of_mem hmem)) (hcell _ hmem) (fun j hj => ?_) (fun j hj => ?_)
              · exact hw n.toNat j hlt (by omega)
              · have := hr n.toNat j hlt (by omega)
                rw [show es.getD n.toNat default = e' by simp [List.getD_eq_getElem?_getD, hget]] at this
                exact this
        · cases h
      · cases h
    · cases h
  · rename_i b off len k n hxe hie
    rw [hxe] at hx
    rw [hie] at hi
    obtain ⟨rfl, _⟩ := hi.int_inv
    split at h
    · rename_i h0
      split at h
      · rename_i r hrow
        split at h
        · rename_i hsz
          simp only [Option.some.injEq] at h
          subst h
          cases hx with
          | rslz => omega
          | rsl _ _ _ cap l hl hv hc hm hr =>
            obtain ⟨hb, hd⟩ := rowAt_inv (rowAt_of hF hl hrow)
            have rr := hrep.row b r l hb hd hl
            have hsz' : l.size = size := by rw [← rr.size, hsz]
            refine ⟨.pointer (some ⟨l.blk, l.base + (off + n.toNat) * l.size + 0, none⟩), ?_, .ptr b (off + n.toNat) 0 l hl hv⟩
            simp [Instr.indexAt, run_underlying ht, asIntOf, h0.1, h0.2, run_sizeT hs, addr_add, hsz', Nat.add_mul, Nat.add_assoc]
        · cases h
      · cases h
    · cases h
  · cases h

theorem idxAA_sound {t e : TypeId} {len size : Nat} (ht : P.underlying t = some (.array len e)) (hs : sizeT P e = some size) {X : Nat → Prop}
    {xv iv : Value} {env : Env} {x i : O} {s : S} (hx : Rep w X μ xv (x.ev env)) (hi : Rep w X μ iv (i.ev env)) (h : aFun env HF (.idxAA len size x i) = some s) :
    ∃ v, (Instr.indexAt t xv iv).run P w = .ok v w ∧ Rep w X μ v s := by
  simp only [aFun] at h
  split at h
  · rename_i b e' o k n hxe hie
    rw [hxe] at hx
    rw [hie] at hi
    obtain ⟨rfl, _⟩ := hi.int_inv
    obtain ⟨l, hl, hv, rfl⟩ := hx.ptr_inv
    split at h
    · rename_i h0
      simp only [Option.some.injEq] at h
      subst h
      refine ⟨_, ?_, .ptr b e' (o + n.toNat * size) l hl hv⟩
      simp [Instr.indexAt, run_underlying ht, asIntOf, Instr.sureAddr, h0.1, h0.2, run_sizeT hs, addr_add, Nat.add_assoc]
    · cases h
  · rename_i d o k n hxe hie
    rw [hxe] at hx
    rw [hie] at hi
    obtain ⟨rfl, _⟩ := hi.int_inv
    split at h
    · rename_i h0
      simp only [Option.some.injEq] at h
      subst h
      cases hx with
      | pptr blk o' _ _ f hz hx hcell hw hr =>
        refine ⟨_, ?_, .pptr blk o' d (o + n.toNat * size) f hz hx hcell hw hr⟩
        simp [Instr.indexAt, run_underlying ht, asIntOf, Instr.sureAddr, h0.1, h0.2, run_sizeT hs, addr_add, Nat.add_assoc]
    · cases h
  · cases h

theorem fldA_sound {t : TypeId} {fs : Array Field} {f : Field} {i n : Nat} (ht : P.underlying t = some (.struct fs)) (hf : fs[i]? = some f) (hs : sizeT P f.type = some n) (hn : n ≠ 0) {X : Nat → Prop}
    {xv : Value} {env : Env} {x : O} {s : S} (hx : Rep w X μ xv (x.ev env)) (h : aFun env HF (.fldA f.offset x) = some s) :
    ∃ v, (Instr.fieldAt t xv i).run P w = .ok v w ∧ Rep w X μ v s := by
  simp only [aFun] at h
  split at h
  · rename_i b e' o hxe
    rw [hxe] at hx
    obtain ⟨l, hl, hv, rfl⟩ := hx.ptr_inv
    simp only [Option.some.injEq] at h
    subst h
    refine ⟨_, ?_, .ptr b e' (o + f.offset) l hl hv⟩
    simp [Instr.fieldAt, run_underlying ht, hf, Instr.sureAddr, fieldPlace, run_sizeT hs, hn, addr_add, Nat.add_assoc]
  · rename_i d o hxe
    rw [hxe] at hx
    simp only [Option.some.injEq] at h
    subst h
    cases hx with
    | pptr blk o' _ _ g hz hx hcell hw hr =>
      refine ⟨_, ?_, .pptr blk o' d (o + f.offset) g hz hx hcell hw hr⟩
      simp [Instr.fieldAt, run_underlying ht, hf, Instr.sureAddr, fieldPlace, run_sizeT hs, hn, addr_add, Nat.add_assoc]
  · cases h
end addr

section slices
variable {P : Program} {w : World} {μ : Mu} {H HF : Heap}

/-- how a bound of a slice expression is evaluated -/
def BRel (w : World) (X : Nat → Prop) (μ : Mu) (env : Env) : Option Value → Option O → Prop
  | none, none => True
  | some v, some o => Rep w X μ v (o.ev env)
  | _, _ => False
theorem optInt_inv {X : Nat → Prop} {env : Env} {bv : Option Value} {bo : Option O} {d : Nat} {n : Int} (hb : BRel w X μ env bv bo) (h : optInt env d bo = some n) :
    (bv = none ∧ bo = none ∧ n = d) ∨ (∃ k, bv = some (.int k n) ∧ bo.isSome = true) := by
  cases bv with
  | none =>
    cases bo with
    | none => simp [optInt] at h; exact .inl ⟨rfl, rfl, h.symm⟩
    | some o => exact hb.elim
  | some v =>
    cases bo with
    | none => exact hb.elim
    | some o =>
      simp only [optInt] at h
      split at h
      · rename_i k m he
        simp only [BRel] at hb
        rw [he] at hb
        obtain ⟨rfl, _⟩ := hb.int_inv
        simp at h
        subst h
        exact .inr ⟨k, rfl, rfl⟩
      · cases h

theorem run_bounds {len cap : Nat} {lv hv mv : Option Value} {l h m : Int}
    (hl : (lv = none ∧ l = 0) ∨ ∃ k, lv = some (.int k l)) (hh : (hv = none ∧ h = len ∧ mv = none) ∨ ∃ k, hv = some (.int k h)) (hm : (mv = none ∧ m = cap) ∨ ∃ k, mv = some (.int k m))
    (h0 : 0 ≤ l) (h1 : l ≤ h) (h2 : h ≤ m) (h3 : m ≤ cap) :
    (Instr.sliceBounds true len cap lv hv mv).run P w = .ok (l.toNat, h.toNat, m.toNat) w := by
  have e1 : max h 0 = h := by omega
  have e2 : max m 0 = m := by omega
  have g1 : 0 ≤ h := by omega
  have g2 : 0 ≤ m := by omega
  have g3 : h ≤ cap := by omega
  rcases hm with ⟨rfl, hm⟩ | ⟨km, rfl⟩ <;> rcases hh with ⟨rfl, hh, hmn⟩ | ⟨kh, rfl⟩ <;> rcases hl with ⟨rfl, hl⟩ | ⟨kl, rfl⟩
  · simp [Instr.sliceBounds, hm, hh, hl]
  · have h1' : l ≤ (len : Int) := by omega
    simp [Instr.sliceBounds, Instr.sliceBound, asIntOf, hm, hh, h0, h1']
  · simp [Instr.sliceBounds, Instr.sliceBound, asIntOf, hm, hl, g1, g3]
  · simp [Instr.sliceBounds, Instr.sliceBound, asIntOf, hm, h0, g1, g3, e1, h1]
  · cases hmn
  · cases hmn
  · simp [Instr.sliceBounds, Instr.sliceBound, asIntOf, hl, g1, g2, h2, h3, e2]
  · simp [Instr.sliceBounds, Instr.sliceBound, asIntOf, h0, g1, g2, h1, h2, h3, e1, e2]

theorem PRep.sub {X : Nat → Prop} {blk off len cap size : Nat} {es : List V} {f : Nat → Value} (hz : 0 < size) (hl : es.length = len) (hm : cap ≤ maxLen) (hx : es ≠ [] → ¬ X blk)
    (hs : ∀ e ∈ es, e.cells.length = size) (hcell : ∀ e ∈ es, ∀ v ∈ e.cells, v.isCell = true)
    (hw : ∀ i j, i < es.length → j < size → w.cell? ⟨blk, off + i * size + j, none⟩ = some (f (i * size + j)))
    (hr : ∀ i j, i < es.length → j < size → PRep w X (f (i * size + j)) ((es.getD i default).cells.getD j default))
    (l h m : Nat) (h1 : l ≤ h) (h2 : h ≤ len) (h3 : h ≤ m) (h4 : m ≤ cap) :
    PRep w X (.slice (some ⟨blk, off + l * size, none⟩) (h - l) (m - l)) (.sl ((es.take h).drop l)) := by
  have hlen : ((es.take h).drop l).length = h - l := by simp; omega
  refine .sl blk (off + l * size) (h - l) (m - l) size _ (fun j => f (l * size + j)) hz hlen (by omega) (by omega) (fun hne => hx (by rintro rfl; simp at hne))
    (fun e he => hs e (List.mem_of_mem_take (List.mem_of_mem_drop he))) (fun e he => hcell e (List.mem_of_mem_take (List.mem_of_mem_drop he))) ?_ ?_
  · intro i j hi hj
    rw [hlen] at hi
    have := hw (l + i) j (by omega) hj
    rw [Nat.add_mul] at this
    rw [show off + l * size + i * size + j = off + (l * size + i * size) + j by omega, show l * size + (i * size + j) = l * size + i * size + j by omega]
    exact this
  · intro i j hi hj
    rw [hlen] at hi
    have := hr (l + i) j (by omega) hj
    rw [Nat.add_mul] at this
    rw [show l * size + (i * size + j) = l * size + i * size + j by omega]
    rw [show ((es.take h).drop l).getD i default = es.getD (l + i) default by
      simp only [List.getD_eq_getElem?_getD]
      rw [List.getElem?_drop, List.getElem?_take_of_lt (by omega)]]
    exact this

theorem slc_sound (hrep : HRep w μ H) (hF : ∀ (b : Nat) (l : Loc), μ b = some l → HF[b]? = H[b]?) {t e : TypeId} {size : Nat} (ht : P.underlying t = some (.slice e)) (hs : sizeT P e = some size)
    {xv : Value} {lv hv mv : Option Value} {env : Env} {x : O} {lo hi mx : Option O} {s : S} (hx : Rep w (excl μ H) μ xv (x.ev env))
    (blo : BRel w (excl μ H) μ env lv lo) (bhi : BRel w (excl μ H) μ env hv hi) (bmx : BRel w (excl μ H) μ env mv mx) (hmh : mv.isSome = true → hv.isSome = true) (h : aFun env HF (.slc size x lo hi mx) = some s) :
    ∃ v, (Instr.sliceAt t xv lv hv mv).run P w = .ok v w ∧ Rep w (excl μ H) μ v s := by
  have low : ∀ {l : Int}, ((lv = none ∧ lo = none ∧ l = (0 : Nat)) ∨ (∃ k, lv = some (.int k l) ∧ lo.isSome = true)) → (lv = none ∧ l = 0) ∨ ∃ k, lv = some (.int k l) := by
    rintro l (⟨h1, _, h2⟩ | ⟨k, h1, _⟩)
    · exact .inl ⟨h1, by simpa using h2⟩
    · exact .inr ⟨k, h1⟩
  have hnoh : hv = none → mv = none := by
    intro h1
    cases hmv : mv with
    | none => rfl
    | some _ => rw [hmv, h1] at hmh; simp at hmh
  have run : ∀ (a : Option Addr) (len cap l h m : Nat), (Instr.sliceBounds true len cap lv hv mv).run P w = .ok (l, h, m) w →
      (Instr.sliceAt t (.slice a len cap) lv hv mv).run P w = .ok (.slice (if m = l then a else a.map (·.add (l * size))) (h - l) (m - l)) w := by
    intro a len cap l h m hb
    simp [Instr.sliceAt, run_underlying ht, Instr.slice, hb, run_sizeT hs]
  simp only [aFun] at h
  split at h
  · rename_i hxe
    rw [hxe] at hx
    obtain ⟨a, rfl, ha⟩ := hx.empty_inv
    split at h
    · rename_i l h' m hl hh hm
      split at h
      · rename_i hc
        obtain ⟨rfl, rfl, rfl⟩ := hc
        simp only [Option.some.injEq] at h
        subst h
        have := optInt_inv blo hl
        have := optInt_inv bhi hh
        have := optInt_inv bmx hm
        refine ⟨_, run a 0 0 0 0 0 (run_bounds (P := P) (l := 0) (h := 0) (m := 0) (low (optInt_inv blo hl)) ?_ ?_ (by decide) (by decide) (by decide) (by decide)), by simpa using .empty a ha⟩
        · rcases optInt_inv bhi hh with ⟨h1, _, _⟩ | ⟨k, h1, _⟩
          · exact .inl ⟨h1, rfl, hnoh h1⟩
          · exact .inr ⟨k, h1⟩
        · rcases optInt_inv bmx hm with ⟨h1, _, _⟩ | ⟨k, h1, _⟩
          · exact .inl ⟨h1, rfl⟩
          · exact .inr ⟨k, h1⟩
      · cases h
    · cases h
  · rename_i es hxe
    rw [hxe] at hx
    split at h
    · rename_i l h' m hl hh hm
      split at h
      · rename_i hc
        obtain ⟨h0, h1, h2, h3, hsz⟩ := hc
        obtain ⟨ln, rfl⟩ := Int.eq_ofNat_of_zero_le h0
        obtain ⟨hn, rfl⟩ := Int.eq_ofNat_of_zero_le (show 0 ≤ h' by omega)
        obtain ⟨mn, rfl⟩ := Int.eq_ofNat_of_zero_le (show 0 ≤ m by omega)
        have key : ∀ (a : Option Addr) (len cap : Nat), xv = .slice a len cap → len = es.length → len ≤ cap →
            (∀ mc : Nat, hn ≤ mc → mc ≤ cap → (mx = none → mc = cap) → (mx.isSome = true → mc = mn) → Rep w (excl μ H) μ (.slice (if mc = ln then a else a.map (·.add (ln * size))) (hn - ln) (mc - ln)) s) →
            ∃ v, (Instr.sliceAt t xv lv hv mv).run P w = .ok v w ∧ Rep w (excl μ H) μ v s := by
          intro a len cap hxv hle hcap hfin
          subst hxv
          rcases optInt_inv bmx hm with ⟨hm1, hm2, _⟩ | ⟨k, hm1, hm2⟩
          · refine ⟨_, run a len cap ln hn cap (run_bounds (P := P) (l := ln) (h := hn) (m := cap) (low (optInt_inv blo hl)) ?_ (.inl ⟨hm1, rfl⟩) (by omega) (by omega) (by omega) (by omega)), hfin cap (by omega) (by omega) (fun _ => rfl) (fun hh => by simp [hm2] at hh)⟩
            rcases optInt_inv bhi hh with ⟨h1, _, h4⟩ | ⟨k, h1, _⟩
            · exact .inl ⟨h1, by omega, hnoh h1⟩
            · exact .inr ⟨k, h1⟩
          · refine ⟨_, run a len cap ln hn mn (run_bounds (P := P) (l := ln) (h := hn) (m := mn) (low (optInt_inv blo hl)) ?_ (.inr ⟨k, hm1⟩) (by omega) (by omega) (by omega) (by omega)), hfin mn (by omega) (by omega) (fun hh => by simp [hh] at hm2) (fun _ => rfl)⟩
            rcases optInt_inv bhi hh with ⟨h1, _, h4⟩ | ⟨k', h1, _⟩
            · rw [hnoh h1] at hm1; cases hm1
            · exact .inr ⟨k', h1⟩
        cases hx.pure_inv with
        | nils =>
          refine key _ 0 0 rfl rfl (Nat.le_refl _) fun mc h5 h6 _ _ => ?_
          simp at h3
          have : mc = 0 := by omega
          subst this
          have : hn = 0 := by omega
          subst this
          have : ln = 0 := by omega
          subst this
          split at h
          · simp at h; subst h; exact .empty _ (fun _ _ => trivial)
          · simp at h; subst h; simpa using .pure _ _ (.nils _)
        | sl blk off len cap size' _ f hz hle hc hmx hx' hs' hcell hw hr =>
          refine key (some ⟨blk, off, none⟩) len cap rfl hle.symm hc fun mc h5 h6 h7 h8 => ?_
          split at h
          · rename_i hcnd
            simp only [Option.some.injEq] at h
            subst h
            have e1 := h8 hcnd.1
            have e2 : ln = mn := by have := hcnd.2; omega
            have e3 : hn = ln := by omega
            rw [if_pos (by omega), show hn - ln = 0 by omega, show mc - ln = 0 by omega]
            exact .empty _ (fun _ _ => trivial)
          · rename_i hcnd
            simp only [Option.some.injEq] at h
            subst h
            refine .pure _ _ ?_
            have hsub := PRep.sub (w := w) (X := excl μ H) hz hle hmx hx' hs' hcell hw hr ln hn mc (by omega) (by omega) h5 h6
            simp only [Int.toNat_natCast]
            by_cases hne : es = []
            · subst hne
              have e0 : mn = 0 := by simpa using h3
              have e1 : ln = 0 := by omega
              have e2 : hn = 0 := by omega
              subst e1 e2
              simpa [addr_add] using hsub
            · obtain ⟨e0, he0⟩ := List.exists_mem_of_ne_nil _ hne
              have : size' = size := by rw [← hs' e0 he0, hsz e0 he0]
              subst this
              split
              · rename_i heq
                have e3 : hn = ln := by omega
                subst e3
                rw [heq, Nat.sub_self, List.drop_take_self]
                exact .sl blk off 0 0 size' [] f hz rfl (Nat.le_refl _) (by simp [maxLen]) (fun h => absurd rfl h) (fun _ h => by cases h) (fun _ h => by cases h) (fun i j hi => by simp at hi) (fun i j hi => by simp at hi)
              · simpa [addr_add] using hsub
      · cases h
    · cases h
  · rename_i b off len hxe
    rw [hxe] at hx
    split at h
    · rename_i l h' r hl hh hrow
      split at h
      · rename_i hc
        obtain ⟨hmx, hsz, h0, h1, h2⟩ := hc
        simp only [Option.some.injEq] at h
        subst h
        have hmx' : mx = none := by simpa using hmx
        subst hmx'
        have hmv : mv = none := by
          cases hmv : mv with
          | none => rfl
          | some _ => rw [hmv] at bmx; exact bmx.elim
        obtain ⟨ln, rfl⟩ := Int.eq_ofNat_of_zero_le h0
        obtain ⟨hn, rfl⟩ := Int.eq_ofNat_of_zero_le (show 0 ≤ h' by omega)
        have hhv : (hv = none ∧ (hn : Int) = len ∧ mv = none) ∨ ∃ k, hv = some (.int k hn) := by
          rcases optInt_inv bhi hh with ⟨h1, _, h4⟩ | ⟨k, h1, _⟩
          · exact .inl ⟨h1, by omega, hmv⟩
          · exact .inr ⟨k, h1⟩
        simp only [Int.toNat_natCast]
        rw [show ((hn : Int) - (ln : Int)).toNat = hn - ln by omega]
        cases hx with
        | rslz a ha _ _ lc hl' =>
          refine ⟨_, run a 0 0 ln hn 0 (run_bounds (P := P) (l := ln) (h := hn) (m := 0) (low (optInt_inv blo hl)) hhv (.inl ⟨hmv, rfl⟩) (by omega) (by omega) (by omega) (by omega)), ?_⟩
          have e1 : ln = 0 := by omega
          have e2 : hn = 0 := by omega
          subst e1 e2
          simpa using .rslz a ha b (off + 0) lc hl'
        | rsl _ _ _ cap lc hl' hv' hc hm hr =>
          obtain ⟨hb, hd⟩ := rowAt_inv (rowAt_of hF hl' hrow)
          have rr := hrep.row b r lc hb hd hl'
          have hsz' : lc.size = size := by rw [← rr.size, hsz]
          refine ⟨_, run _ len cap ln hn cap (run_bounds (P := P) (l := ln) (h := hn) (m := cap) (low (optInt_inv blo hl)) hhv (.inl ⟨hmv, rfl⟩) (by omega) (by omega) (by omega) (by omega)), ?_⟩
          split
          · rename_i heq
            have e3 : hn = ln := by omega
            subst e3
            rw [heq, Nat.sub_self]
            exact .rslz _ (fun _ _ => trivial) b (off + hn) lc hl'
          · simp only [Option.map_some, addr_add]
            rw [show lc.base + off * lc.size + ln * size = lc.base + (off + ln) * lc.size by rw [hsz', Nat.add_mul]; omega]
            refine .rsl b (off + ln) (hn - ln) (cap - ln) lc hl' hv' (by omega) (by omega) ?_
            rw [show off + ln + (cap - ln) = off + cap by omega]
            exact hr
      · cases h
    · cases h
  · cases h
end slices

section small
variable {P : Program} {w : World} {X : Nat → Prop} {μ : Mu} {HF : Heap}

theorem Rep.agg_inv {v : Value} {e : S} (h : Rep w X μ v e) (hc : e.isCell = false) (hok : e.okv = true) : ∃ cs, v = .agg cs := by
  cases h with
  | agg cs => exact ⟨cs, rfl⟩
  | pure v d hp =>
    cases hp with
    | agg cs => exact ⟨cs, rfl⟩
    | _ => simp [S.isCell, V.isCell] at hc
  | tup => simp [S.okv] at hok
  | dead => simp [S.okv] at hok
  | _ => simp [S.isCell] at hc

theorem fld_sound {t : TypeId} {fs : Array Field} {f : Field} {i n : Nat} {agg : Bool} (ht : P.underlying t = some (.struct fs)) (hf : fs[i]? = some f) (hs : sizeT P f.type = some n) (ha : aggT P f.type = some agg)
    {xv : Value} {env : Env} {x : O} {s : S} (hx : Rep w X μ xv (x.ev env)) (h : aFun env HF (.fld agg f.offset n x) = some s) : ∃ v, (Instr.field t xv i).run P w = .ok v w ∧ Rep w X μ v s := by
  simp only [aFun] at h
  split at h
  · rename_i hc
    obtain ⟨cs, rfl⟩ := hx.agg_inv hc.1 hc.2
    obtain ⟨v, h1, h2⟩ := part_sound (P := P) ha hs hx hc.2 h
    exact ⟨v, by simp [Instr.field, run_underlying ht, hf, asAgg, h1], h2⟩
  · cases h

theorem idxV_sound {t e : TypeId} {len n : Nat} {agg : Bool} (ht : P.underlying t = some (.array len e)) (hs : sizeT P e = some n) (ha : aggT P e = some agg)
    {xv iv : Value} {env : Env} {x i : O} {s : S} (hx : Rep w X μ xv (x.ev env)) (hi : Rep w X μ iv (i.ev env)) (h : aFun env HF (.idxV agg len n x i) = some s) : ∃ v, (Instr.index t xv iv).run P w = .ok v w ∧ Rep w X μ v s := by
  simp only [aFun] at h
  split at h
  · rename_i k m hie
    rw [hie] at hi
    obtain ⟨rfl, _⟩ := hi.int_inv
    split at h
    · rename_i hc
      obtain ⟨h0, h1, hc1, hc2⟩ := hc
      obtain ⟨cs, rfl⟩ := hx.agg_inv hc1 hc2
      obtain ⟨v, h3, h4⟩ := part_sound (P := P) ha hs hx hc2 h
      exact ⟨v, by simp [Instr.index, asIntOf, run_underlying ht, h0, h1, run_sizeT hs, h3], h4⟩
    · cases h
  · cases h

theorem idxS_sound {t : TypeId} (ht : P.underlying t = some .string) {xv iv : Value} {env : Env} {x i : O} {s : S} (hx : Rep w X μ xv (x.ev env)) (hi : Rep w X μ iv (i.ev env)) (h : aFun env HF (.idxS x i) = some s) :
    ∃ v, (Instr.index t xv iv).run P w = .ok v w ∧ Rep w X μ v s := by
  simp only [aFun] at h
  split at h
  · rename_i bs k n hxe hie
    rw [hxe] at hx
    rw [hie] at hi
    obtain ⟨rfl, _⟩ := hi.int_inv
    obtain ⟨b, rfl, rfl, hb⟩ := hx.str_inv
    split at h
    · rename_i h0
      cases hg : b.data.toList[n.toNat]? with
      | none => simp [hg] at h
      | some c =>
        simp [hg] at h
        subst h
        have hlt : n.toNat < b.size := by
          have := (List.getElem?_eq_some_iff.1 hg).1
          simpa using this
        have hget : b[n.toNat]? = some c := by
          rw [getElem?_pos b n.toNat hlt]
          have := (List.getElem?_eq_some_iff.1 hg).2
          rw [← this]
          rfl
        refine ⟨.int .u8 c.toNat, by simp [Instr.index, asIntOf, run_underlying ht, h0, hget], .mkInt ?_⟩
        have := c.toNat_lt
        simp [Lit.wf, IntKind.min, IntKind.max, IntKind.signed, IntKind.bits]
        omega
    · cases h
  · cases h

theorem ext_sound {xv : Value} {env : Env} {x : O} {i : Nat} {s : S} (hx : Rep w X μ xv (x.ev env)) (h : aFun env HF (.ext i x) = some s) : ∃ v, (Instr.extract xv i).run P w = .ok v w ∧ Rep w X μ v s := by
  simp only [aFun] at h
  split at h
  · rename_i ss hxe
    rw [hxe] at hx
    cases hx with
    | tup vs _ hl hh =>
      obtain ⟨hlt, _⟩ := List.getElem?_eq_some_iff.1 h
      have h2 := hh i hlt
      rw [List.getD_eq_getElem?_getD, h] at h2
      obtain ⟨v, hv⟩ : ∃ v, vs[i]? = some v := ⟨_, Array.getElem?_eq_getElem (by omega)⟩
      rw [Array.getD_eq_getD_getElem?, hv] at h2
      exact ⟨v, by simp [Instr.extract, hv], h2⟩
  · cases h

theorem wf_len {n : Nat} (h : n ≤ maxLen) : (Lit.int .i64 (n : Int)).wf = true := by
  refine WalkArith.wf_i64 ?_
  simp only [maxLen] at h
  omega
theorem len_sound {t ty e : TypeId} (ht : P.underlying t = some (.slice e)) {xv : Value} {env : Env} {x : O} {s : S} (hx : Rep w X μ xv (x.ev env)) (h : aFun env HF (.len x) = some s) :
    ∃ n : Nat, (Builtin.len_ #[t] ty #[xv]).run P w = .ok (.int .i64 n) w ∧ s = .pure (.int .i64 n) ∧ n ≤ 9223372036854775807 := by
  have key : ∀ a n c, n ≤ maxLen → xv = .slice a n c → s = .pure (.int .i64 (n : Int)) → ∃ n : Nat, (Builtin.len_ #[t] ty #[xv]).run P w = .ok (.int .i64 n) w ∧ s = .pure (.int .i64 n) ∧ n ≤ 9223372036854775807 := by
    rintro a n c hn rfl rfl
    exact ⟨n, by simp [Builtin.len_, run_underlying ht, goInt], rfl, hn⟩
  simp only [aFun] at h
  split at h
  · rename_i hxe
    rw [hxe] at hx
    obtain ⟨a, rfl, _⟩ := hx.empty_inv
    exact key a 0 0 (by simp [maxLen]) rfl (by simpa using h.symm)
  · rename_i es hxe
    rw [hxe] at hx
    cases hx.pure_inv with
    | nils => exact key _ 0 0 (by simp [maxLen]) rfl (by simpa using h.symm)
    | sl blk off len cap size _ f hz hl hc hm => exact key _ len cap (by omega) rfl (by rw [← hl]; simpa using h.symm)
  · rename_i b off n hxe
    rw [hxe] at hx
    cases hx with
    | rsl _ _ _ cap l hl hv hc hm hr => exact key _ n cap (by omega) rfl (by simpa using h.symm)
    | rslz a ha _ _ l hl => exact key _ 0 0 (by simp [maxLen]) rfl (by simpa using h.symm)
  · cases h
theorem lenS_sound {t ty : TypeId} (ht : P.underlying t = some .string) {xv : Value} {env : Env} {x : O} {s : S} (hx : Rep w X μ xv (x.ev env)) (h : aFun env HF (.lenS x) = some s) :
    ∃ n : Nat, (Builtin.len_ #[t] ty #[xv]).run P w = .ok (.int .i64 n) w ∧ s = .pure (.int .i64 n) ∧ n ≤ 9223372036854775807 := by
  simp only [aFun] at h
  split at h
  · rename_i bs hxe
    rw [hxe] at hx
    obtain ⟨b, rfl, rfl, hb⟩ := hx.str_inv
    refine ⟨b.size, by simp [Builtin.len_, run_underlying ht, goInt], ?_, hb⟩
    simp only [Option.some.injEq] at h
    rw [← h]
    simp
  · cases h

theorem mx_sound {ats : Array TypeId} {ty : TypeId} {xv yv : Value} {env : Env} {x y : O} {s : S} (hx : Rep w X μ xv (x.ev env)) (hy : Rep w X μ yv (y.ev env)) (h : aFun env HF (.mx x y) = some s) :
    ∃ v, (Builtin.max_ ats ty #[xv, yv]).run P w = .ok v w ∧ Rep w X μ v s := by
  simp only [aFun] at h
  split at h
  · rename_i k a k' b hxe hye
    rw [hxe] at hx
    rw [hye] at hy
    obtain ⟨rfl, h1⟩ := hx.int_inv
    obtain ⟨rfl, h2⟩ := hy.int_inv
    split at h
    · simp only [Option.some.injEq] at h
      subst h
      rename_i hk
      subst hk
      refine ⟨_, by simp [Builtin.max_, Builtin.max2], .mkInt ?_⟩
      split <;> assumption
    · cases h
  · cases h
theorem mn_sound {ats : Array TypeId} {ty : TypeId} {xv yv : Value} {env : Env} {x y : O} {s : S} (hx : Rep w X μ xv (x.ev env)) (hy : Rep w X μ yv (y.ev env)) (h : aFun env HF (.mn x y) = some s) :
    ∃ v, (Builtin.min_ ats ty #[xv, yv]).run P w = .ok v w ∧ Rep w X μ v s := by
  simp only [aFun] at h
  split at h
  · rename_i k a k' b hxe hye
    rw [hxe] at hx
    rw [hye] at hy
    obtain ⟨rfl, h1⟩ := hx.int_inv
    obtain ⟨rfl, h2⟩ := hy.int_inv
    split at h
    · simp only [Option.some.injEq] at h
      subst h
      rename_i hk
      subst hk
      refine ⟨_, by simp [Builtin.min_, Builtin.min2], .mkInt ?_⟩
      split <;> assumption
    · cases h
  · cases h
theorem conv_sound {src dst : TypeId} {k : IntKind} {d : TypeDesc} (hs : P.underlying src = some d) (hd : P.underlying dst = some (.int k)) {xv : Value} {env : Env} {x : O} {s : S} (hx : Rep w X μ xv (x.ev env)) (h : aFun env HF (.conv k x) = some s) :
    ∃ v, (convert src dst xv).run P w = .ok v w ∧ Rep w X μ v s := by
  simp only [aFun] at h
  split at h
  · rename_i k' n hxe
    rw [hxe] at hx
    obtain ⟨rfl, _⟩ := hx.int_inv
    simp only [Option.some.injEq] at h
    subst h
    exact ⟨_, by simp [convert, run_underlying hs, run_underlying hd, Conv.intToInt], .mkInt (wf_wrap _ _)⟩
  · cases h
theorem un_sound {op : UnOp} {xv : Value} {env : Env} {x : O} {s : S} (hx : Rep w X μ xv (x.ev env)) (h : aFun env HF (.un op x) = some s) :
    ∃ v, (Op.unary op xv).run P w = .ok v w ∧ Rep w X μ v s := by
  simp only [aFun] at h
  split at h
  · rename_i b hxe
    rw [hxe] at hx
    obtain rfl := hx.bool_inv
    simp only [Option.some.injEq] at h
    subst h
    exact ⟨_, by simp [Op.unary], .mkBool⟩
  · rename_i k n hxe
    rw [hxe] at hx
    obtain ⟨rfl, _⟩ := hx.int_inv
    simp only [Option.some.injEq] at h
    subst h
    exact ⟨_, by simp only [Op.unary, Op.intArith]; rfl, .mkInt (wf_wrap k (0 - n))⟩
  · cases h
theorem bin_sound {op : BinOp} {t : TypeId} {xv yv : Value} {env : Env} {x y : O} {s : S} (hx : Rep w X μ xv (x.ev env)) (hy : Rep w X μ yv (y.ev env)) (h : aFun env HF (.bin op x y) = some s) (xo yo : Operand) :
    ∃ v, (do eqGuard op t xo yo xv yv; binOp op t xv yv : Sem Value).run P w = .ok v w ∧ Rep w X μ v s := by
  simp only [aFun] at h
  split at h
  · rename_i k a k' b hxe hye
    rw [hxe] at hx
    rw [hye] at hy
    obtain ⟨rfl, h1⟩ := hx.int_inv
    obtain ⟨rfl, h2⟩ := hy.int_inv
    split at h
    · rename_i hc
      cases hr : intF op k a b with
      | none => simp [hr] at h
      | some r =>
        simp [hr] at h
        subst h
        obtain ⟨v, h3, h4⟩ := intF_sound (P := P) (w := w) (X := X) (t := t) h1 hc hr
        refine ⟨v, ?_, .pure _ _ h4⟩
        have : (eqGuard op t xo yo (.int k a) (.int k' b)).run P w = .ok () w := by cases op <;> simp [eqGuard]
        simp [this, h3]
    · cases h
  · cases h
theorem eqb_sound {neg : Bool} {t : TypeId} (ht : P.underlying t = some .bool) {xv yv : Value} {env : Env} {x y : O} {s : S} (hx : Rep w X μ xv (x.ev env)) (hy : Rep w X μ yv (y.ev env)) (h : aFun env HF (.eqb neg x y) = some s) (xo yo : Operand) :
    ∃ v, (do eqGuard (if neg then .neq else .eql) t xo yo xv yv; binOp (if neg then .neq else .eql) t xv yv : Sem Value).run P w = .ok v w ∧ Rep w X μ v s := by
  simp only [aFun] at h
  split at h
  · rename_i a b hxe hye
    rw [hxe] at hx
    rw [hye] at hy
    obtain rfl := hx.bool_inv
    obtain rfl := hy.bool_inv
    simp only [Option.some.injEq] at h
    subst h
    have he := run_equal_bool (P := P) w t a b ht
    cases neg
    · refine ⟨_, ?_, .mkBool⟩
      simp [eqGuard, binOp, he]
    · refine ⟨_, ?_, .mkBool⟩
      simp [eqGuard, binOp, he]
      cases a <;> cases b <;> rfl
  · cases h
theorem slnil_sound (neg : Bool) {t e : TypeId} (ht : P.underlying t = some (.slice e)) {xv : Value} {s : S} {n : Nat} (hx : Rep w X μ xv s) (h : lenN s = some n) (l c : Nat) (xo yo : Operand) :
    ∃ b : Bool, (do eqGuard (if neg = true then .neq else .eql) t xo yo xv (.slice none l c); binOp (if neg = true then .neq else .eql) t xv (.slice none l c) : Sem Value).run P w = .ok (.bool b) w ∧ (n ≠ 0 → b = neg) := by
  obtain ⟨a, len, cap, rfl, hn⟩ : ∃ (a : Option Addr) (len cap : Nat), xv = .slice a len cap ∧ (n ≠ 0 → a.isNone = false) := by
    cases s with
    | pure v =>
      cases v with
      | sl es =>
        simp only [lenN, Option.some.injEq] at h
        subst h
        cases hx.pure_inv with
        | nils a => exact ⟨a, 0, 0, rfl, fun h => absurd rfl h⟩
        | sl => exact ⟨_, _, _, rfl, fun _ => rfl⟩
      | _ => cases h
    | empty =>
      cases h
      obtain ⟨a, rfl, _⟩ := hx.empty_inv
      exact ⟨a, 0, 0, rfl, fun h => absurd rfl h⟩
    | rsl b off m =>
      cases h
      cases hx with
      | rsl => exact ⟨_, _, _, rfl, fun _ => rfl⟩
      | rslz a => exact ⟨a, 0, 0, rfl, fun h => absurd rfl h⟩
    | _ => cases h
  have key : ∀ d : Nat, (Op.equalIn (d + 1) t (.slice a len cap) (.slice none l c)).run P w = .ok a.isNone w := by
    intro d
    simp only [Op.equalIn, Sem.run_bind, run_underlying ht, Result.andThen_ok]
    cases a <;> rfl
  have he : (Op.equal t (.slice a len cap) (.slice none l c)).run P w = .ok a.isNone w := key 9999
  cases neg
  · refine ⟨a.isNone, ?_, hn⟩
    simp [eqGuard, binOp, he]
  · refine ⟨!a.isNone, ?_, fun h => by simp [hn h]⟩
    simp [eqGuard, binOp, he]
end small
end Go.Vm
