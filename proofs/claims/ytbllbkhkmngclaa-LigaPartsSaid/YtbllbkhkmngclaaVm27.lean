/-
  The abstract machine, part 27: forgetting, for slots and rows that are listed; a call that takes some of the rows (the frame rule).
-/
import Derived.Test.YtbllbkhkmngclaaVm26
namespace Go.Vm
open Go Go.RowKit

/-! ### forgetting -/
def pick (l : List Nat) (i : Nat) : Nat := l.getD i 0
theorem pick_inj {l : List Nat} (hl : l.Nodup) {i j : Nat} (hi : i < l.length) (hj : j < l.length) (h : pick l i = pick l j) : i = j := by
  have hp := List.pairwise_iff_getElem.1 hl
  simp only [pick, List.getD_eq_getElem?_getD, List.getElem?_eq_getElem hi, List.getElem?_eq_getElem hj, Option.getD_some] at h
  rcases Nat.lt_trichotomy i j with h1 | h1 | h1
  · exact absurd h (hp i j hi hj h1)
  · exact h1
  · exact absurd h.symm (hp j i hj hi h1)
theorem pick_mem {l : List Nat} {i : Nat} (hi : i < l.length) : pick l i ∈ l := by
  simp only [pick, List.getD_eq_getElem?_getD, List.getElem?_eq_getElem hi, Option.getD_some]
  exact List.getElem_mem _
theorem mem_pick {l : List Nat} {b : Nat} (h : b ∈ l) : ∃ i, i < l.length ∧ pick l i = b := by
  obtain ⟨i, hi, rfl⟩ := List.mem_iff_getElem.1 h
  exact ⟨i, hi, by simp [pick, List.getD_eq_getElem?_getD, List.getElem?_eq_getElem hi]⟩

def keepE (env : Env) (n : Nat) (ρ : Nat → Nat) : Env → Prop
  | [] => True
  | p :: r => (p.2.inb n = true ∧ p.2.ren ρ = env.get p.1) ∧ keepE env n ρ r
theorem keepE_mem {env : Env} {n : Nat} {ρ : Nat → Nat} : ∀ {E : Env}, keepE env n ρ E → ∀ p ∈ E, p.2.inb n = true ∧ p.2.ren ρ = env.get p.1
  | [], _, _, hp => by cases hp
  | q :: r, h, p, hp => by
    rcases List.mem_cons.1 hp with rfl | hp
    · exact h.1
    · exact keepE_mem h.2 p hp
/-- a row that is kept -/
def keepR (n : Nat) (ρ : Nat → Nat) (r' : Row) : Option Row → Prop
  | none => r'.st = .dead
  | some r => r'.st = .dead ∨ (r.st ≠ .dead ∧ (r'.st = r.st ∨ r'.st = .frozen) ∧ r'.size = r.size ∧ r.es = r'.es.map (S.ren ρ) ∧ ∀ e ∈ r'.es, e.inb n = true)
def keepH (H : Heap) (n : Nat) (ρ : Nat → Nat) : List Nat → Heap → Prop
  | k :: l, r :: q => keepR n ρ r H[k]? ∧ keepH H n ρ l q
  | [], [] => True
  | _, _ => False
theorem keepH_get {H : Heap} {n : Nat} {ρ : Nat → Nat} : ∀ {l : List Nat} {HE : Heap}, keepH H n ρ l HE → l.length = HE.length ∧ ∀ b r', HE[b]? = some r' → keepR n ρ r' H[pick l b]?
  | [], [], _ => ⟨rfl, fun b r' h => by simp at h⟩
  | k :: l, r :: q, h => by
    obtain ⟨h1, h2⟩ := keepH_get h.2
    refine ⟨by simp [h1], fun b r' hb => ?_⟩
    cases b with
    | zero =>
      obtain rfl : r = r' := by simpa using hb
      exact h.1
    | succ b => simpa [pick] using h2 b r' (by simpa using hb)
  | [], _ :: _, h => h.elim
  | _ :: _, [], h => h.elim

theorem Up.to {kp : Nat} {K : Env → Heap → Prop} {env : Env} {H : Heap} (l : List Nat) (E : Env) (HE : Heap) (hl : l.Nodup) (hk : l.take kp = List.range kp)
    (hE : keepE env l.length (pick l) E) (hH : keepH H l.length (pick l) l HE) (h : K E HE) : Up kp K env H := by
  obtain ⟨h1, h2⟩ := keepH_get hH
  refine .weak E HE (pick l) ⟨fun i j hi hj => pick_inj hl (by omega) (by omega), fun i hi => ?_, fun p hp => ?_, fun b r' hb => ?_⟩ (.here h)
  · have hlen := congrArg List.length hk
    simp only [List.length_take, List.length_range] at hlen
    have hi' : i < l.length := by omega
    refine ⟨by omega, ?_⟩
    have := congrArg (fun q : List Nat => q[i]?) hk
    simp only [List.getElem?_take, hi, if_true, List.getElem?_range hi] at this
    simp [pick, List.getD_eq_getElem?_getD, this]
  · rw [← h1]; exact keepE_mem hE p hp
  · have := h2 b r' hb
    rw [← h1]
    cases hg : H[pick l b]? with
    | none => rw [hg] at this; exact .inl this
    | some r =>
      rw [hg] at this
      exact this.imp id fun h => ⟨r, rfl, h⟩

/-! ### a call that takes some of the rows -/
theorem Rep.ren {w : World} {X X' : Nat → Prop} {μ μ' : Mu} {ρ : Nat → Nat} (hX : ∀ k, X' k → X k) (hμ : ∀ b l, μ b = some l → μ' (ρ b) = some l) {v : Value} {s : S} (h : Rep w X μ v s) : Rep w X' μ' v (s.ren ρ) := by
  have get : ∀ {l : List S} {i : Nat} {v : Value}, i < l.length → Rep w X' μ' v ((l.getD i .dead).ren ρ) → Rep w X' μ' v ((l.map (S.ren ρ)).getD i .dead) := by
    intro l i v hi h
    simpa [List.getD_eq_getElem?_getD, List.getElem?_map, List.getElem?_eq_getElem hi] using h
  induction h with
  | pure v d h => exact .pure _ _ (h.less hX)
  | empty a ha => exact .empty a ha
  | rsl b off len cap l hl hv hc hm hr => exact .rsl _ _ _ cap l (hμ _ _ hl) hv hc hm hr
  | rslz a ha b off l hl => exact .rslz a ha _ _ l (hμ _ _ hl)
  | ptr b i off l hl hv => exact .ptr _ _ _ l (hμ _ _ hl) hv
  | pptr blk o d off f hz hx hcell hw hr => exact .pptr blk o _ _ f hz (fun h => hx (hX _ h)) hcell hw (fun j hj => (hr j hj).less hX)
  | agg cs ss hl hc _ ih =>
    simp only [S.ren, S.rens_eq]
    refine .agg cs _ (by simpa using hl) (fun s hs => ?_) fun i hi => get (by simpa using hi) (ih i (by simpa using hi))
    obtain ⟨s0, h0, rfl⟩ := List.mem_map.1 hs
    rw [S.ren_isCell]
    exact hc s0 h0
  | func fn f c fs cs h1 h2 _ _ ih1 ih2 =>
    simp only [S.ren, S.rens_eq]
    exact .func _ f c _ _ (by simpa using h1) (by simpa using h2) (fun i hi => get (by simpa using hi) (ih1 i (by simpa using hi))) (fun i hi => get (by simpa using hi) (ih2 i (by simpa using hi)))
  | iface t v s0 _ ih => exact .iface _ _ _ ih
  | tup vs ss hl _ ih =>
    simp only [S.ren, S.rens_eq]
    exact .tup vs _ (by simpa using hl) fun i hi => get (by simpa using hi) (ih i (by simpa using hi))
  | dead v => exact .dead v

def embRow (ρ : Nat → Nat) (r : Row) : Row := ⟨r.es.map (S.ren ρ), r.size, r.st⟩
theorem RowRep.ren {w : World} {X X' : Nat → Prop} {μ μ' : Mu} {ρ : Nat → Nat} {loc : Loc} {r : Row} (hX : ∀ k, X' k → X k) (hμ : ∀ b l, μ b = some l → μ' (ρ b) = some l) (h : RowRep w X μ loc r) : RowRep w X' μ' loc (embRow ρ r) := by
  refine ⟨h.size, h.pos, fun hv => ?_, fun e he => ?_, fun e he s hs => ?_, fun hv => ?_, fun hv i j hi hj => ?_, fun hv hst => h.live hv hst, fun hv hst hne hx => ?_⟩
  · simp [embRow, h.virt hv]
  · obtain ⟨e0, h0, rfl⟩ := List.mem_map.1 he
    rw [S.ren_cells, List.length_map]
    exact h.lens e0 h0
  · obtain ⟨e0, h0, rfl⟩ := List.mem_map.1 he
    rw [S.ren_cells] at hs
    obtain ⟨s0, h1, rfl⟩ := List.mem_map.1 hs
    rw [S.ren_isCell]
    exact h.cellOk e0 h0 s0 h1
  · have := h.fits hv
    simpa [embRow] using this
  · have hi' : i < r.es.length := by simpa [embRow] using hi
    obtain ⟨v, h1, h2⟩ := h.cells hv i j hi' hj
    refine ⟨v, h1, ?_⟩
    have := h2.ren hX hμ
    have hm : r.es[i] ∈ r.es := List.getElem_mem _
    have hl := h.lens _ hm
    have he : r.es.getD i .dead = r.es[i] := by rw [List.getD_eq_getElem?_getD, List.getElem?_eq_getElem hi']; rfl
    have he' : (embRow ρ r).es.getD i .dead = (r.es[i]).ren ρ := by
      simp only [embRow, List.getD_eq_getElem?_getD, List.getElem?_map, List.getElem?_eq_getElem hi', Option.map_some, Option.getD_some]
    rw [he', S.ren_cells]
    rw [he] at this
    simp only [List.getD_eq_getElem?_getD, List.getElem?_map, List.getElem?_eq_getElem (show j < (r.es[i]).cells.length by omega), Option.map_some, Option.getD_some] at this ⊢
    exact this
  · exact h.frozen hv hst (fun e => hne (by simp [embRow, e])) (hX _ hx)
theorem RowRep.unren {w : World} {X X' : Nat → Prop} {μ μ' : Mu} {ρ : Nat → Nat} {N : Nat} {loc : Loc} {r r' : Row} (hX : ∀ k, X' k → X k) (hμ : ∀ b l, b < N → μ (ρ b) = some l → μ' b = some l) (h : RowRep w X μ loc r)
    (h3 : r'.st = r.st) (h4 : r'.size = r.size) (h5 : r.es = r'.es.map (S.ren ρ)) (h6 : ∀ e ∈ r'.es, e.inb N = true) : RowRep w X' μ' loc r' := by
  have hlen : r.es.length = r'.es.length := by rw [h5]; simp
  refine ⟨by rw [h4, h.size], h.pos, (fun hv => ?_), (fun e he => ?_), (fun e he s hs => ?_), (fun hv => by rw [← hlen]; exact h.fits hv), (fun hv i j hi hj => ?_), (fun hv hst => h.live hv (by rw [← h3, hst])), (fun hv hst hne hx => ?_)⟩
  · have := h.virt hv
    rw [h5] at this
    exact List.map_eq_nil_iff.1 this
  · have := h.lens (e.ren ρ) (by rw [h5]; exact List.mem_map_of_mem he)
    rw [S.ren_cells] at this
    simpa using this
  · have := h.cellOk (e.ren ρ) (by rw [h5]; exact List.mem_map_of_mem he) (s.ren ρ) (by rw [S.ren_cells]; exact List.mem_map_of_mem hs)
    rwa [S.ren_isCell] at this
  · obtain ⟨v, h7, h8⟩ := h.cells hv i j (by omega) hj
    have hi' : i < r'.es.length := hi
    have hm : r'.es[i] ∈ r'.es := List.getElem_mem _
    have he : r'.es.getD i .dead = r'.es[i] := by rw [List.getD_eq_getElem?_getD, List.getElem?_eq_getElem hi']; rfl
    have hcl : (r'.es[i]).cells.length = loc.size := by
      have := h.lens ((r'.es[i]).ren ρ) (by rw [h5]; exact List.mem_map_of_mem hm)
      rw [S.ren_cells] at this
      simpa using this
    refine ⟨v, h7, h8.unren hX hμ _ ?_ ?_⟩
    · rw [h5, he]
      simp only [List.getD_eq_getElem?_getD, List.getElem?_map, List.getElem?_eq_getElem hi', Option.map_some, Option.getD_some, S.ren_cells]
      rw [List.getElem?_eq_getElem (by omega)]
      rfl
    · rw [he]
      refine S.inb_cells (h6 _ hm) _ ?_
      rw [List.getD_eq_getElem?_getD, List.getElem?_eq_getElem (by omega)]
      exact List.getElem_mem _
  · have hne' : r.es ≠ [] := by rw [h5]; simpa using hne
    exact h.frozen hv (by rw [← h3, hst]) hne' (hX _ hx)

/-- the rows of a call, among the caller's -/
def ext (l : List Nat) (N : Nat) (i : Nat) : Nat := if i < l.length then pick l i else N + (i - l.length)
def setAll (ρ : Nat → Nat) (H : Heap) : List Nat → Heap → Heap
  | k :: l, r :: q => (setAll ρ H l q).set k (embRow ρ r)
  | _, _ => H
def emb (l : List Nat) (H H' : Heap) : Heap := setAll (ext l H.length) H l H' ++ (H'.drop l.length).map (embRow (ext l H.length))

theorem setAll_length {ρ : Nat → Nat} {H : Heap} : ∀ {l : List Nat} {q : Heap}, (setAll ρ H l q).length = H.length
  | [], _ => by simp [setAll]
  | _ :: _, [] => by simp [setAll]
  | k :: l, r :: q => by simp [setAll, setAll_length]
theorem setAll_out {ρ : Nat → Nat} {H : Heap} : ∀ {l : List Nat} {q : Heap} {b : Nat}, b ∉ l → (setAll ρ H l q)[b]? = H[b]?
  | [], _, _, _ => by simp [setAll]
  | _ :: _, [], _, _ => by simp [setAll]
  | k :: l, r :: q, b, h => by
    simp only [List.mem_cons, not_or] at h
    rw [setAll, List.getElem?_set_ne (Ne.symm h.1), setAll_out h.2]
theorem setAll_in {ρ : Nat → Nat} {H : Heap} : ∀ {l : List Nat} {q : Heap} {i : Nat}, l.Nodup → (∀ k ∈ l, k < H.length) → l.length ≤ q.length → i < l.length → (setAll ρ H l q)[pick l i]? = (q[i]?).map (embRow ρ)
  | [], _, i, _, _, _, hi => by simp at hi
  | _ :: _, [], _, _, _, h, _ => by simp at h
  | k :: l, r :: q, 0, _, hb, _, _ => by
    simp only [setAll, pick, List.getD_cons_zero, List.getElem?_cons_zero, Option.map_some]
    rw [List.getElem?_set_self (by rw [setAll_length]; exact hb k (by simp))]
  | k :: l, r :: q, i + 1, hn, hb, hle, hi => by
    have hn' := List.nodup_cons.1 hn
    have hi' : i < l.length := by simpa using hi
    have : pick (k :: l) (i + 1) = pick l i := by simp [pick]
    rw [this, setAll, List.getElem?_set_ne, setAll_in hn'.2 (fun k hk => hb k (by simp [hk])) (by simpa using hle) hi']
    · simp
    · rintro rfl
      exact hn'.1 (pick_mem hi')
theorem emb_length {l : List Nat} {H H' : Heap} : (emb l H H').length = H.length + (H'.length - l.length) := by simp [emb, setAll_length]
theorem emb_out {l : List Nat} {H H' : Heap} {b : Nat} (hb : b < H.length) (hn : b ∉ l) : (emb l H H')[b]? = H[b]? := by
  rw [emb, List.getElem?_append_left (by rw [setAll_length]; exact hb), setAll_out hn]
theorem emb_in {l : List Nat} {H H' : Heap} (hl : l.Nodup) (hb : ∀ k ∈ l, k < H.length) (hle : l.length ≤ H'.length) (i : Nat) : (emb l H H')[ext l H.length i]? = (H'[i]?).map (embRow (ext l H.length)) := by
  by_cases hi : i < l.length
  · have he : ext l H.length i = pick l i := by simp [ext, hi]
    rw [he, emb, List.getElem?_append_left (by rw [setAll_length]; exact hb _ (pick_mem hi)), setAll_in hl hb hle hi]
  · have he : ext l H.length i = H.length + (i - l.length) := by simp [ext, hi]
    rw [he, emb, List.getElem?_append_right (by rw [setAll_length]; omega), setAll_length, List.getElem?_map, List.getElem?_drop]
    congr 2
    omega
theorem ext_inj {l : List Nat} {N : Nat} (hl : l.Nodup) (hb : ∀ k ∈ l, k < N) {i j : Nat} (h : ext l N i = ext l N j) : i = j := by
  unfold ext at h
  split at h <;> split at h
  · exact pick_inj hl (by assumption) (by assumption) h
  · have := hb _ (pick_mem (i := i) (by assumption)); omega
  · have := hb _ (pick_mem (i := j) (by assumption)); omega
  · omega
theorem emb_some {l : List Nat} {H H' : Heap} {b : Nat} {r : Row} (h : (emb l H H')[b]? = some r) (hle : l.length ≤ H'.length) : (∃ i, i < H'.length ∧ ext l H.length i = b) ∨ (b < H.length ∧ b ∉ l) := by
  have hb := (List.getElem?_eq_some_iff.1 h).1
  rw [emb_length] at hb
  by_cases hlt : b < H.length
  · by_cases hm : b ∈ l
    · obtain ⟨i, hi, rfl⟩ := mem_pick hm
      exact .inl ⟨i, by omega, by simp [ext, hi]⟩
    · exact .inr ⟨hlt, hm⟩
  · exact .inl ⟨l.length + (b - H.length), by omega, by unfold ext; rw [if_neg (by omega)]; omega⟩

theorem embMu {l : List Nat} {N : Nat} (μ μ' : Mu) (hl : l.Nodup) (hb : ∀ k ∈ l, k < N) : ∃ m : Mu, m.xo = μ.xo ∧ (∀ i, m (ext l N i) = μ' i) ∧ ∀ b, b < N → b ∉ l → m b = μ b := by
  classical
  refine ⟨⟨fun b => if h : ∃ i, ext l N i = b then μ' h.choose else μ b, μ.xo⟩, rfl, fun i => ?_, fun b hlt hn => ?_⟩
  · have h : ∃ j, ext l N j = ext l N i := ⟨i, rfl⟩
    simp only [dif_pos h]
    rw [ext_inj hl hb h.choose_spec]
  · have h : ¬ ∃ i, ext l N i = b := by
      rintro ⟨i, rfl⟩
      unfold ext at hlt hn
      split at hlt
      · rename_i hi; rw [if_pos hi] at hn; exact hn (pick_mem hi)
      · omega
    simp only [dif_neg h]

/-- what a call asks of the caller's rows -/
def sameR (n : Nat) (ρ : Nat → Nat) (r0 : Row) : Option Row → Prop
  | none => False
  | some r => r.st = r0.st ∧ (r0.st = .dead ∨ r0.size = r.size ∧ r.es = r0.es.map (S.ren ρ) ∧ ∀ e ∈ r0.es, e.inb n = true)
def sameH (H : Heap) (n : Nat) (ρ : Nat → Nat) : List Nat → Heap → Prop
  | k :: l, r :: q => sameR n ρ r H[k]? ∧ sameH H n ρ l q
  | [], [] => True
  | _, _ => False
theorem sameH_get {H : Heap} {n : Nat} {ρ : Nat → Nat} : ∀ {l : List Nat} {HE : Heap}, sameH H n ρ l HE → l.length = HE.length ∧ ∀ b r', HE[b]? = some r' → sameR n ρ r' H[pick l b]?
  | [], [], _ => ⟨rfl, fun b r' h => by simp at h⟩
  | k :: l, r :: q, h => by
    obtain ⟨h1, h2⟩ := sameH_get h.2
    refine ⟨by simp [h1], fun b r' hb => ?_⟩
    cases b with
    | zero =>
      obtain rfl : r = r' := by simpa using hb
      exact h.1
    | succ b => simpa [pick] using h2 b r' (by simpa using hb)
  | [], _ :: _, h => h.elim
  | _ :: _, [], h => h.elim

theorem CallA.frame {P : Program} {f : Nat} {args0 : List S} {H0 : Heap} {K0 : S → Heap → Prop} (h : CallA P f args0 H0 K0) {H : Heap} {args : List S} {K : S → Heap → Prop} (l : List Nat) (hl : l.Nodup)
    (hH : sameH H l.length (pick l) l H0) (hargs : args = args0.map (S.ren (pick l))) (hin : ∀ a ∈ args0, a.inb l.length = true)
    (hK : ∀ s0 H0', K0 s0 H0' → l.length ≤ H0'.length ∧ K (s0.ren (ext l H.length)) (emb l H H0')) : CallA P f args H K := by
  obtain ⟨hlen, hrow⟩ := sameH_get hH
  have hb : ∀ k ∈ l, k < H.length := by
    intro k hk
    obtain ⟨i, hi, rfl⟩ := mem_pick hk
    have := hrow i _ (List.getElem?_eq_getElem (by omega))
    cases hg : H[pick l i]? with
    | none => rw [hg] at this; exact this.elim
    | some r => exact (List.getElem?_eq_some_iff.1 hg).1
  refine ⟨h.1, fun w μ cargs hrep hcl ha => ?_⟩
  let μa : Mu := ⟨fun b => if b < l.length then μ (pick l b) else none, μ.xo⟩
  let μ0 : Mu := ⟨μa.at_, fun k => μ.xo k ∨ (owned μ H k ∧ ¬ owned μa H0 k)⟩
  have hat : ∀ b loc, μ0 b = some loc → b < l.length ∧ μ (pick l b) = some loc := by
    intro b loc hb
    have hb' : (if b < l.length then μ (pick l b) else none) = some loc := hb
    split at hb'
    · exact ⟨by assumption, hb'⟩
    · cases hb'
  have hat' : ∀ b loc, b < l.length → μ (pick l b) = some loc → μ0 b = some loc := by
    intro b loc hb h
    show (if b < l.length then μ (pick l b) else none) = some loc
    rw [if_pos hb, h]
  have big : ∀ {b : Nat} {r0 : Row}, H0[b]? = some r0 → ∃ r, H[pick l b]? = some r ∧ r.st = r0.st ∧ (r0.st = .dead ∨ r0.size = r.size ∧ r.es = r0.es.map (S.ren (pick l)) ∧ ∀ e ∈ r0.es, e.inb l.length = true) := by
    intro b r0 hb
    have := hrow b r0 hb
    cases hg : H[pick l b]? with
    | none => rw [hg] at this; exact this.elim
    | some r => rw [hg] at this; exact ⟨r, rfl, this⟩
  have ho : ∀ k, owned μ0 H0 k → owned μ H k := by
    rintro k ⟨b, r0, loc, h1, h2, h3, h4, rfl⟩
    obtain ⟨r, g1, g2, _⟩ := big h1
    exact ⟨pick l b, r, loc, g1, by rw [g2, h2], (hat b loc h3).2, h4, rfl⟩
  have hexc : ∀ k, excl μ0 H0 k ↔ excl μ H k := by
    intro k
    constructor
    · rintro (h1 | h1 | h1)
      · exact .inl (ho k h1)
      · exact .inr h1
      · exact .inl h1.1
    · rintro (h1 | h1)
      · by_cases h2 : owned μa H0 k
        · exact .inl h2
        · exact .inr (.inr ⟨h1, h2⟩)
      · exact .inr (.inl h1)
  have hrep0 : HRep w μ0 H0 := by
    refine ⟨fun b loc hb => by have := (hat b loc hb).1; omega, ?_, ?_, ?_⟩
    · rintro k (h1 | h1)
      · exact ⟨(hrep.xo k h1).1, fun h2 => (hrep.xo k h1).2 (ho k h2)⟩
      · exact ⟨owned_lt hrep h1.1, h1.2⟩
    · intro b r0 loc hb hd hloc
      obtain ⟨r, g1, g2, g3⟩ := big hb
      have g3 := g3.resolve_left hd
      exact (hrep.row (pick l b) r loc g1 (by rw [g2]; exact hd) (hat b loc hloc).2).unren (fun k hk => (hexc k).1 hk) hat' g2.symm g3.1 g3.2.1 g3.2.2
    · intro b b' r r' loc loc' h1 h2 h3 h4 h5 h6 h7 h8 h9
      obtain ⟨q, g1, g2, _⟩ := big h1
      obtain ⟨q', g3, g4, _⟩ := big h2
      exact pick_inj hl (hat b loc h5).1 (hat b' loc' h6).1 (hrep.inj _ _ q q' loc loc' g1 g3 (by rw [g2, h3]) (by rw [g4, h4]) (hat b loc h5).2 (hat b' loc' h6).2 h7 h8 h9)
  subst hargs
  refine (h.2 w μ0 cargs hrep0 (by simpa using hcl) (fun i hi => ?_)).mono ?_
  · have := ha i (by simpa using hi)
    refine this.unren (fun k hk => (hexc k).1 hk) hat' _ ?_ (hin _ ?_)
    · simp [List.getD_eq_getElem?_getD, List.getElem?_map, List.getElem?_eq_getElem hi]
    · rw [List.getD_eq_getElem?_getD, List.getElem?_eq_getElem hi]
      exact List.getElem_mem _
  rintro e w' ⟨v, s0, H0', μ0', rfl, hk, st⟩
  obtain ⟨hge, hk'⟩ := hK _ _ hk
  obtain ⟨m, hmx, hmi, hmo⟩ := embMu μ μ0' hl hb
  have hxo' : ∀ k, μ0'.xo k ↔ (μ.xo k ∨ (owned μ H k ∧ ¬ owned μ0 H0 k)) := fun k => by rw [st.xo]; exact Iff.rfl
  -- the caller's other rows lie elsewhere
  have other : ∀ {b : Nat} {r : Row} {loc : Loc}, b ∉ l → H[b]? = some r → r.st = .live → μ b = some loc → loc.virt = false → ¬ owned μ0 H0 loc.blk := by
    rintro b r loc hn h1 h2 h3 h4 ⟨b0, r0, loc0, g1, g2, g3, g4, g5⟩
    obtain ⟨q, g6, g7, _⟩ := big g1
    have := hrep.inj _ _ q r loc0 loc g6 h1 (by rw [g7, g2]) h2 (hat b0 loc0 g3).2 h3 g4 h4 g5
    subst this
    exact hn (pick_mem (hat b0 loc0 g3).1)
  have hμ : ∀ b loc, μ b = some loc → m b = some loc := by
    intro b loc hbl
    have hlt := hrep.dom b loc hbl
    by_cases hm : b ∈ l
    · obtain ⟨i, hi, rfl⟩ := mem_pick hm
      have : ext l H.length i = pick l i := by simp [ext, hi]
      rw [← this, hmi]
      exact st.ext _ _ (hat' i loc hi hbl)
    · rw [hmo _ hlt hm, hbl]
  have hμ' : ∀ b loc, μ0' b = some loc → m (ext l H.length b) = some loc := fun b loc h => by rw [hmi, h]
  -- where the caller's rows lie now
  have own' : ∀ k, owned m (emb l H H0') k → owned μ0' H0' k ∨ ∃ b r loc, b ∉ l ∧ H[b]? = some r ∧ r.st = .live ∧ μ b = some loc ∧ loc.virt = false ∧ loc.blk = k := by
    rintro k ⟨b, r, loc, h1, h2, h3, h4, rfl⟩
    rcases emb_some h1 hge with ⟨i, hi, rfl⟩ | ⟨hlt, hm⟩
    · rw [emb_in hl hb hge] at h1
      obtain ⟨r0, g1, rfl⟩ := Option.map_eq_some_iff.1 h1
      rw [hmi] at h3
      exact .inl ⟨i, r0, loc, g1, h2, h3, h4, rfl⟩
    · rw [emb_out hlt hm] at h1
      rw [hmo _ hlt hm] at h3
      exact .inr ⟨b, r, loc, hm, h1, h2, h3, h4, rfl⟩
  have hexc' : ∀ k, excl m (emb l H H0') k → excl μ0' H0' k := by
    rintro k (h1 | h1)
    · rcases own' k h1 with h2 | ⟨b, r, loc, g1, g2, g3, g4, g5, rfl⟩
      · exact .inl h2
      · exact .inr ((hxo' _).2 (.inr ⟨⟨b, r, loc, g2, g3, g4, g5, rfl⟩, other g1 g2 g3 g4 g5⟩))
    · exact .inr ((hxo' _).2 (.inl (by rw [← hmx]; exact h1)))
  have hown : ∀ k, owned m (emb l H H0') k → owned μ H k ∨ w.heap.size ≤ k := by
    intro k hk
    rcases own' k hk with h2 | ⟨b, r, loc, g1, g2, g3, g4, g5, rfl⟩
    · exact (st.own k h2).imp (ho k) id
    · exact .inl ⟨b, r, loc, g2, g3, g4, g5, rfl⟩
  have hfr : Fr (owned μ H) w w' := ⟨st.fr.os, st.fr.tape, st.fr.output, st.fr.size, fun k hk hx => st.fr.keep k hk fun h => hx (ho k h)⟩
  have hkeep : ∀ k, k < w.heap.size → ¬ owned μ0 H0 k → w'.heap[k]? = w.heap[k]? := st.fr.keep
  have mixed : ∀ {i b : Nat} {r0 r : Row} {loc0 loc : Loc}, b ∉ l → H[b]? = some r → r.st = .live → μ b = some loc → loc.virt = false → H0'[i]? = some r0 → r0.st = .live → μ0' i = some loc0 → loc0.virt = false → loc0.blk = loc.blk → False := by
    intro i b r0 r loc0 loc hn h1 h2 h3 h4 g1 g2 g3 g4 g5
    rcases st.own loc.blk ⟨i, r0, loc0, g1, g2, g3, g4, g5⟩ with h5 | h5
    · exact other hn h1 h2 h3 h4 h5
    · have := live_lt hrep h1 h2 h3 h4; omega
  refine ⟨v, _, emb l H H0', m, rfl, hk', ?_⟩
  refine ⟨hrep.alter hfr.keep hown hμ hmx hfr.size ?_ ?_ ?_, st.val.ren hexc' hμ', hμ, hmx, hfr, hown⟩
  · intro b loc hbl
    rw [emb_length]
    by_cases hlt : b < H.length
    · omega
    · have : ext l H.length (l.length + (b - H.length)) = b := by unfold ext; rw [if_neg (by omega)]; omega
      rw [← this, hmi] at hbl
      have := st.heap.dom _ _ hbl
      omega
  · intro b r loc h1 h2 h3
    rcases emb_some h1 hge with ⟨i, hi, rfl⟩ | ⟨hlt, hm⟩
    · rw [emb_in hl hb hge] at h1
      obtain ⟨r0, g1, rfl⟩ := Option.map_eq_some_iff.1 h1
      rw [hmi] at h3
      exact .inl ((st.heap.row i r0 loc g1 h2 h3).ren hexc' hμ')
    · rw [emb_out hlt hm] at h1
      rw [hmo _ hlt hm] at h3
      exact .inr ⟨h1, h3, fun hst hv => hkeep _ (live_lt hrep h1 hst h3 hv) (other hm h1 hst h3 hv)⟩
  · intro b b' r r' loc loc' h1 h2 h3 h4 h5 h6 h7 h8 h9
    rcases emb_some h1 hge with ⟨i, hi, rfl⟩ | ⟨hlt, hm⟩ <;> rcases emb_some h2 hge with ⟨i', hi', rfl⟩ | ⟨hlt', hm'⟩
    · rw [emb_in hl hb hge] at h1 h2
      obtain ⟨r0, g1, rfl⟩ := Option.map_eq_some_iff.1 h1
      obtain ⟨r0', g1', rfl⟩ := Option.map_eq_some_iff.1 h2
      rw [hmi] at h5 h6
      rw [st.heap.inj i i' r0 r0' loc loc' g1 g1' h3 h4 h5 h6 h7 h8 h9]
    · rw [emb_in hl hb hge] at h1
      obtain ⟨r0, g1, rfl⟩ := Option.map_eq_some_iff.1 h1
      rw [hmi] at h5
      rw [emb_out hlt' hm'] at h2
      rw [hmo _ hlt' hm'] at h6
      exact (mixed hm' h2 h4 h6 h8 g1 h3 h5 h7 h9).elim
    · rw [emb_in hl hb hge] at h2
      obtain ⟨r0, g1, rfl⟩ := Option.map_eq_some_iff.1 h2
      rw [hmi] at h6
      rw [emb_out hlt hm] at h1
      rw [hmo _ hlt hm] at h5
      exact (mixed hm h1 h3 h5 h7 g1 h4 h6 h8 h9.symm).elim
    · rw [emb_out hlt hm] at h1
      rw [hmo _ hlt hm] at h5
      rw [emb_out hlt' hm'] at h2
      rw [hmo _ hlt' hm'] at h6
      exact hrep.inj b b' r r' loc loc' h1 h2 h3 h4 h5 h6 h7 h8 h9
end Go.Vm
