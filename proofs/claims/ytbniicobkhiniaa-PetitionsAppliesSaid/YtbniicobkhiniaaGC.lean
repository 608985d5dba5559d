/- append onto a slice that has no room: helpers of no program. -/
import Derived.Test.YtbniicobkhiniaaGB
namespace Go.Sz
open Go.RowKit
section
variable {P : Program}

theorem flat_len {size : Nat} : ∀ (rows : List (List Value)), (∀ r ∈ rows, r.length = size) → rows.flatten.length = rows.length * size := by
  intro rows hw
  induction rows with
  | nil => simp
  | cons x xs ih => rw [List.flatten_cons, List.length_append, ih (fun r hr => hw r (by simp [hr])), hw x (by simp), List.length_cons, Nat.add_mul]; omega

theorem SL.flatCells {w : World} {size : Nat} {b o cap : Nat} {rows : List (List Value)} (h : SL w size (some ⟨b, o, none⟩) cap rows) : ∀ j u, rows.flatten[j]? = some u → w.cell? ((⟨b, o, none⟩ : Addr).add j) = some u := by
  intro j u hu
  rw [Addr.add_mid]
  have key : ∀ (rows : List (List Value)) (k : Nat), (∀ r ∈ rows, r.length = size) → (∀ i j r u, rows[i]? = some r → r[j]? = some u → w.cell? ⟨b, o + (k + i) * size + j, none⟩ = some u) → ∀ j u, rows.flatten[j]? = some u → w.cell? ⟨b, o + k * size + j, none⟩ = some u := by
    intro rows
    induction rows with
    | nil => intro k _ _ j u hu; simp at hu
    | cons x xs ih =>
      intro k hw hc j u hu
      have hx : x.length = size := hw x (by simp)
      rw [List.flatten_cons] at hu
      by_cases hj : j < x.length
      · rw [List.getElem?_append_left hj] at hu
        exact hc 0 j x u rfl hu
      · rw [List.getElem?_append_right (by omega)] at hu
        have := ih (k + 1) (fun r hr => hw r (by simp [hr])) (fun i j r u hr hu => by
          have := hc (i + 1) j r u (by simpa using hr) hu
          rwa [show k + (i + 1) = k + 1 + i from by omega] at this) (j - x.length) u hu
        rwa [show o + (k + 1) * size + (j - x.length) = o + k * size + j from by rw [Nat.add_mul, hx]; omega] at this
  have := key rows 0 h.wid (fun i j r u hr hu => by
    have := h.cellAt hr hu
    simpa using this) j u hu
  simpa using this

/-- append onto a slice of n elements and capacity n that is only read -/
theorem run_append_full (w : World) (t tx ty e : TypeId) (i : TypeInfo) (z : Value) (size bytes : Nat) (ht : P.underlying t = some (.slice e)) (hi : P.info? e = some i) (hz : i.zero = some z)
    (hsize : i.size = size) (hby : i.bytes = bytes) (hzs : z.cells.size = size) (hsz : 0 < size)
    (ao : Option Addr) (n : Nat) (rows : List (List Value)) (hs : SL w size ao n rows) (hrn : rows.length = n) (sv : Value) (m : Nat) (hsp : m = 0 → rows = [] → ∀ a, ao = some a → a.spot = none)
    (rows2 : List (List Value)) (hsrc : Src P size tx sv m rows2.flatten w) (hw2 : ∀ r ∈ rows2, r.length = size) (hm : rows2.length = m)
    (h63 : n + m ≤ maxLen) (hbytes : (n + m) * bytes ≤ 140737488355328) :
    ∃ ao' cap' w', (Builtin.append_ #[t, tx] ty #[.slice ao n n, sv]).run P w = .ok (.slice ao' (n + m) cap') w' ∧ SL w' size ao' cap' (rows ++ rows2) ∧ Ext w w' ∧ ((m = 0 ∧ ao' = ao) ∨ ∀ a, ao' = some a → w.heap.size ≤ a.block) := by
  subst hsize
  subst hby
  have hsmall : n + m ≤ 9223372036854775807 := by simp only [maxLen] at h63; omega
  have hsp0 : rows ≠ [] → ∀ a, ao = some a → a.spot = none := fun hr a ha => by
    obtain ⟨b, o, e, _⟩ := hs.at hsz 0 (List.length_pos_iff.2 hr)
    rw [ha] at e
    cases e
    rfl
  by_cases hm0 : m = 0
  · subst hm0
    have h2 : rows2 = [] := List.eq_nil_of_length_eq_zero hm
    subst h2
    refine ⟨ao, n, w, ?_, by simpa using hs, Ext.refl w, .inl ⟨rfl, rfl⟩⟩
    cases ao with
    | none =>
      have : n = 0 := hs.nil rfl
      subst this
      rcases hsrc.kind with ⟨e', hk⟩ | hk <;> simp [Builtin.append_, run_underlying ht, run_underlying hk, sizeOf, typeInfo, hi, hsrc.len, hsrc.cells]
    | some a =>
      obtain ⟨b, o, sp⟩ := a
      have : sp = none := by
        by_cases h0 : rows = []
        · exact hsp rfl h0 _ rfl
        · exact hsp0 h0 _ rfl
      subst this
      have hr := run_append_room_src (P := P) (w := w) t tx ty e i ht hi b o n n sv 0 [] hsrc (by omega) (by simp) (by simp)
      simpa [World.setCells] using hr
  · have hx : (Builtin.firstCells i.size n (.slice ao n n)).run P w.drew = .ok rows.flatten.toArray w.drew := by
      cases ao with
      | none =>
        have : n = 0 := hs.nil rfl
        subst this
        have h2 : rows = [] := List.eq_nil_of_length_eq_zero hrn
        subst h2
        exact run_firstCells_none w.drew i.size 0 0 0
      | some a =>
        refine run_firstCells_some w.drew i.size n a n n rows.flatten (by rw [flat_len rows hs.wid, hrn]) (fun j u hu => ?_)
        have hne : rows ≠ [] := by rintro rfl; simp at hu
        obtain ⟨b, o, sp⟩ := a
        have : sp = none := hsp0 hne _ rfl
        subst this
        simpa using hs.flatCells j u hu
    have hr := run_append_grow_src (P := P) w t tx ty e i z ht hi hz ao n n rows.flatten hx sv m rows2.flatten hsrc (by omega) (by omega) (growslice_fits (by omega) hbytes)
    have hge := grownCap_ge w (n + m) n e
    have hcm : grownCap w (n + m) n e ≤ maxLen := grownCap_le_maxLen w (n + m) n e h63
    have hlen : (rows.flatten ++ rows2.flatten).length = (n + m) * i.size := by rw [List.length_append, flat_len rows hs.wid, flat_len rows2 hw2, hrn, hm, Nat.add_mul]
    have hown : (w.drew.alloc (.cells ((rows.flatten ++ rows2.flatten).toArray ++ Builtin.zeroCells z.cells (grownCap w (n + m) n e - (n + m))) e)).ownsRow 0 e i.size
        (.slice (some ⟨w.heap.size, 0, none⟩) (n + m) (grownCap w (n + m) n e)) (n + m) (rows ++ rows2).flatten := by
      refine ⟨by rw [List.flatten_append]; exact hlen, .inr ⟨w.heap.size, _, _, rfl, Nat.zero_le _, heap_alloc_new w.drew _, hge, hcm, ?_, ?_⟩⟩
      · simp only [Array.size_append, List.size_toArray, size_zeroCells, hzs, hlen, ← Nat.add_mul]
        congr 1
        omega
      · simp only [Array.toList_append]
        rw [List.flatten_append, ← hlen]
        exact List.take_left
    obtain ⟨ao', cap', hv, hsl, _⟩ := SL.of_owns hown (fun r hr => (List.mem_append.1 hr).elim (hs.wid r) (hw2 r)) (by simp [hrn, hm])
    simp only [List.length_append, hrn, hm, Value.slice.injEq, true_and] at hv
    obtain ⟨e1, e2⟩ := hv
    subst e1 e2
    refine ⟨_, _, _, hr, hsl, ((Ext.refl w).drew).alloc _, .inr ?_⟩
    rintro a ⟨⟩
    exact Nat.le_refl _

theorem wp_append_full {o : Oper} {a : Act} {w : World} {K : Act → World → Prop} {Q : Exit → Act → World → Prop} (s x : Operand) (t tx : TypeId)
    (ho : o.op = .call { callee := .builtin .append, args := #[s, x], argTypes := #[t, tx] })
    (e : TypeId) (i : TypeInfo) (z : Value) (size bytes : Nat) (ht : P.underlying t = some (.slice e)) (hi : P.info? e = some i) (hz : i.zero = some z)
    (hsize : i.size = size) (hby : i.bytes = bytes) (hzs : z.cells.size = size) (hsz : 0 < size)
    (ao : Option Addr) (n : Nat) (rows : List (List Value)) (hv : a.eval s = .slice ao n n) (hs : SL w size ao n rows) (hrn : rows.length = n) (sv : Value) (m : Nat) (hsp : m = 0 → rows = [] → ∀ a, ao = some a → a.spot = none)
    (rows2 : List (List Value)) (hx : a.eval x = sv) (hsrc : Src P size tx sv m rows2.flatten w) (hw2 : ∀ r ∈ rows2, r.length = size) (hm : rows2.length = m)
    (h63 : n + m ≤ maxLen) (hbytes : (n + m) * bytes ≤ 140737488355328)
    (h : ∀ ao' cap' w', SL w' size ao' cap' (rows ++ rows2) → Ext w w' → ((m = 0 ∧ ao' = ao) ∨ ∀ a, ao' = some a → w.heap.size ≤ a.block) → K (a.put o.dst (.slice ao' (n + m) cap')) w') : o.wp P a w K Q := by
  obtain ⟨ao', cap', w', hr, h2, h3, h4⟩ := run_append_full (P := P) w t tx o.type e i z size bytes ht hi hz hsize hby hzs hsz ao n rows hs hrn sv m hsp rows2 hsrc hw2 hm h63 hbytes
  unfold Oper.wp execOp
  simp only [ho, resolve, invoke, builtin, Sem.run_bind, Sem.run_pure, Result.andThen_ok, List.map_toArray, List.map_cons, List.map_nil, hv, hx, hr]
  exact h ao' cap' w' h2 h3 h4

theorem wpList_append_full {ops : Array Oper} {rest : List Oper} {o : Oper} {a : Act} {w : World} {Q : Exit → Act → World → Prop} (hgd : o.guard = none) (s x : Operand) (t tx : TypeId)
    (ho : o.op = .call { callee := .builtin .append, args := #[s, x], argTypes := #[t, tx] })
    (e : TypeId) (i : TypeInfo) (z : Value) (size bytes : Nat) (ht : P.underlying t = some (.slice e)) (hi : P.info? e = some i) (hz : i.zero = some z)
    (hsize : i.size = size) (hby : i.bytes = bytes) (hzs : z.cells.size = size) (hsz : 0 < size)
    (ao : Option Addr) (n : Nat) (rows : List (List Value)) (hv : a.eval s = .slice ao n n) (hs : SL w size ao n rows) (hrn : rows.length = n) (sv : Value) (m : Nat) (hsp : m = 0 → rows = [] → ∀ a, ao = some a → a.spot = none)
    (rows2 : List (List Value)) (hx : a.eval x = sv) (hsrc : Src P size tx sv m rows2.flatten w) (hw2 : ∀ r ∈ rows2, r.length = size) (hm : rows2.length = m)
    (h63 : n + m ≤ maxLen) (hbytes : (n + m) * bytes ≤ 140737488355328)
    (h : ∀ ao' cap' w', SL w' size ao' cap' (rows ++ rows2) → Ext w w' → ((m = 0 ∧ ao' = ao) ∨ ∀ a, ao' = some a → w.heap.size ≤ a.block) → wpList P ops Q rest (a.put o.dst (.slice ao' (n + m) cap')) w') : wpList P ops Q (o :: rest) a w :=
  wpList_plain hgd fun _ hK => wp_append_full s x t tx ho e i z size bytes ht hi hz hsize hby hzs hsz ao n rows hv hs hrn sv m hsp rows2 hx hsrc hw2 hm h63 hbytes fun ao' cap' w' h2 h3 h4 => hK _ _ (h ao' cap' w' h2 h3 h4)

theorem step_append_full {ops : Array Oper} {o : Oper} {a : Act} {w : World} {K : Act → World → Prop} {Q : Exit → Act → World → Prop} {E : Prop} (hgd : o.guard = none) (s x : Operand) (t tx : TypeId)
    (ho : o.op = .call { callee := .builtin .append, args := #[s, x], argTypes := #[t, tx] })
    (e : TypeId) (i : TypeInfo) (z : Value) (size bytes : Nat) (ht : P.underlying t = some (.slice e)) (hi : P.info? e = some i) (hz : i.zero = some z)
    (hsize : i.size = size) (hby : i.bytes = bytes) (hzs : z.cells.size = size) (hsz : 0 < size)
    (ao : Option Addr) (n : Nat) (rows : List (List Value)) (hv : a.eval s = .slice ao n n) (hs : SL w size ao n rows) (hrn : rows.length = n) (sv : Value) (m : Nat) (hsp : m = 0 → rows = [] → ∀ a, ao = some a → a.spot = none)
    (rows2 : List (List Value)) (hx : a.eval x = sv) (hsrc : Src P size tx sv m rows2.flatten w) (hw2 : ∀ r ∈ rows2, r.length = size) (hm : rows2.length = m)
    (h63 : n + m ≤ maxLen) (hbytes : (n + m) * bytes ≤ 140737488355328)
    (h : ∀ ao' cap' w', SL w' size ao' cap' (rows ++ rows2) → Ext w w' → ((m = 0 ∧ ao' = ao) ∨ ∀ a, ao' = some a → w.heap.size ≤ a.block) → K (a.put o.dst (.slice ao' (n + m) cap')) w') :
    if Region.wanted o (yielded ops a.tmps) = true then Oper.wp P o a w K Q else E := by
  have hw : Region.wanted o (yielded ops a.tmps) = true := by simp [Region.wanted, hgd]
  rw [if_pos hw]
  exact wp_append_full s x t tx ho e i z size bytes ht hi hz hsize hby hzs hsz ao n rows hv hs hrn sv m hsp rows2 hx hsrc hw2 hm h63 hbytes h
end
theorem SL.setCell {w : World} {n : Nat} {ao : Option Addr} {cap : Nat} {rows : List (List Value)} (h : SL w n ao cap rows) {p : Addr} (u : Value) (hp : ∀ a, ao = some a → rows ≠ [] → a.block ≠ p.block) : SL (w.setCell p u) n ao cap rows :=
  h.keep fun a ha hr => heap_setCell_far w p u a.block (hp a ha hr)
end Go.Sz
