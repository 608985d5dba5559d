/- Petitions: facts.values. -/
import Derived.Test.YtbniicobkhiniaaFA
import Derived.Test.YtbniicobkhiniaaRG4
import Derived.Deep.MidRow
import Derived.OwnWalkIn
namespace Go.Sz
theorem heap_al {w : World} {o : Obj} {i : Nat} : (w.alloc o).heap[i]? = if i = w.heap.size then some o else w.heap[i]? := by
  show (w.heap.push o)[i]? = _
  rw [Array.getElem?_push]
theorem Ext.keepsOthers {A B : World} (h : Ext A B) : KeepsOthers A B := ⟨h.size, fun k _ hk _ => (h.block k (Array.getElem?_eq_some_iff.1 hk).1).trans hk⟩
theorem midB_put {bs : Nat → Option Ft} {x : Ft} {m : Nat} (h1 : x.fr ≤ (m : Int)) (h2 : (m : Int) < x.to) (h3 : betF (bs m) x = true) (t : Nat) : midB bs x (m + 1) t = if t = m then some x else midB bs x m t := by
  rw [midB_next, show stB m (bs m) x = some x by unfold stB; rw [if_pos ⟨h1, h2, h3⟩]]
theorem midB_stay {bs : Nat → Option Ft} {x : Ft} {m : Nat} (h3 : betF (bs m) x = false) (t : Nat) : midB bs x (m + 1) t = midB bs x m t := by
  rw [midB_next]
  by_cases h : t = m
  · subst h
    unfold stB
    rw [if_pos rfl, if_neg (by rw [h3]; simp), midB_at]
  · rw [if_neg h]
theorem CB.of_heap {w : World} {B : Nat} {cs : Array Value} {t : TypeId} (h : w.heap[B]? = some (.cells cs t (0, 0))) : CB w B cs.toList :=
  ⟨fun i v hv => by simpa [World.cell?, h] using hv, fun i => by simp [World.frozen?, h]⟩
theorem operWide_of {P : Program} {n : Nat} {o : Oper} {a : Act} {w : World} {K : Act → World → Prop} {Q : Exit → Act → World → Prop} (h : o.wp P a w K Q) : o.wpIn Fence.wide n P a w K Q := by
  refine ⟨fun _ _ => trivial, ?_⟩
  rw [show Fence.wide.round = none from rfl, Oper.semAt_none]
  unfold Oper.wp at h
  generalize (execOp a.eval o).run P w = r at *
  cases r with
  | ok x w' =>
    cases x <;> simp only [Oper.upon, Oper.uponIn] at h ⊢
    case enter =>
      refine ⟨fun e => (by cases e), callsIn_wide.2 (Calls.mono h ?_)⟩
      intro e w' he
      cases e <;> exact he
    case row => exact ⟨fun e => (by cases e), rows_in (l := 0) h⟩
    all_goals first | exact h | exact h.elim
  | halt x w' =>
    cases x <;> simp only [Oper.upon, Oper.uponIn] at h ⊢ <;> first | exact h | exact h.elim
theorem rep_at {n t : Nat} (v : Value) (h : t < n) : (Array.replicate n v).toList[t]? = some v := by simp [h]
theorem vrow_one (l : List Ft) (k : Ky) (kn : Int) : (vrow l k kn).toArray.all (·.oneCell') = true := by
  refine all_oneCell_toArray fun v hv => ?_
  simp only [vrow, List.mem_map] at hv
  obtain ⟨t, _, rfl⟩ := hv
  rfl
theorem setRow_id {w : World} {g : Nat} {cs : Array Value} {t : TypeId} {fr : Nat × Nat} (h : w.heap[g]? = some (.cells cs t fr)) : w.setRow g cs = w := by
  have : (w.setRow g cs).heap = w.heap := by
    apply Array.ext_getElem?
    intro i
    by_cases hi : i = g
    · subst hi
      rw [h]
      exact setRow_heap w i cs _ t _ h
    · exact setRow_other w g i cs hi
  show ({ w with heap := (w.setRow g cs).heap } : World) = w
  rw [this]
theorem set_at {cs : Array Value} {m t : Nat} {u : Value} (hm : m < cs.size) : (cs.setIfInBounds m u)[t]? = if t = m then some u else cs[t]? := by
  rw [Array.getElem?_setIfInBounds]
  by_cases h : m = t
  · subst h; rw [if_pos rfl, if_pos hm, if_pos rfl]
  · rw [if_neg h, if_neg (Ne.symm h)]
/-- the row of values, as far as it is filled -/
structure RowM (W : World) (B6 : Nat) (t : TypeId) (bs : Nat → Option Ft) (m : Nat) (cs : Array Value) : Prop where
  heap : W.heap[B6]? = some (.cells cs t (0, 0))
  size : cs.size = 1024
  at_ : ∀ i, i < m → cs[i]? = some (.int .i64 (vlF (bs i)))
theorem RowM.cell {W : World} {B6 : Nat} {t : TypeId} {bs : Nat → Option Ft} {m : Nat} {cs : Array Value} (h : RowM W B6 t bs m cs) {i : Nat} (hi : i < 1024) : ∃ v, W.cell? ⟨B6, i, none⟩ = some v :=
  ⟨cs[i]'(by rw [h.size]; exact hi), by rw [cell_of_row W B6 i cs t (0, 0) h.heap]; simp [h.size, hi]⟩
theorem RowM.fz {W : World} {B6 : Nat} {t : TypeId} {bs : Nat → Option Ft} {m : Nat} {cs : Array Value} (h : RowM W B6 t bs m cs) (i : Nat) : W.frozen? ⟨B6, i, none⟩ = false := frozen_of_row W B6 i cs t h.heap
theorem RowM.put {W : World} {B6 : Nat} {t : TypeId} {bs : Nat → Option Ft} {m : Nat} {cs : Array Value} (h : RowM W B6 t bs m cs) (hm : m < 1024) {n : Int} (hn : n = vlF (bs m)) : RowM (W.setCell ⟨B6, m, none⟩ (.int .i64 n)) B6 t bs (m + 1) (cs.setIfInBounds m (.int .i64 n)) := by
  refine ⟨heap_setCell_same W B6 m cs t _ h.heap, by simp [h.size], fun i hi => ?_⟩
  rw [set_at (by rw [h.size]; exact hm)]
  by_cases e : i = m
  · subst e; rw [if_pos rfl, hn]
  · rw [if_neg e]; exact h.at_ i (by omega)
theorem RowM.put0 {W : World} {B6 : Nat} {t : TypeId} {bs : Nat → Option Ft} {m : Nat} {cs : Array Value} (h : RowM W B6 t bs m cs) (hm : m < 1024) (u : Value) : RowM (W.setCell ⟨B6, m, none⟩ u) B6 t bs m (cs.setIfInBounds m u) := by
  refine ⟨heap_setCell_same W B6 m cs t _ h.heap, by simp [h.size], fun i hi => ?_⟩
  rw [set_at (by rw [h.size]; exact hm), if_neg (by omega)]
  exact h.at_ i hi
theorem RowM.done {W : World} {B6 : Nat} {t : TypeId} {l : List Ft} {k : Ky} {kn : Int} {cs : Array Value} (h : RowM W B6 t (bsF (l.filter (selF k kn))) 1024 cs) : cs = (vrow l k kn).toArray := by
  apply Array.ext_getElem?
  intro i
  by_cases hi : i < 1024
  · rw [h.at_ i hi]
    simp only [List.getElem?_toArray]
    rw [vrow_at l k kn hi]
    unfold valF
    rw [bestF_sel]
  · rw [Array.getElem?_eq_none (by rw [h.size]; omega), Array.getElem?_eq_none (by simp [vrow_length]; omega)]
theorem setCells_put8 (w : World) (b p : Nat) (f : Ft) : w.setCells b p [.int .i64 f.k, .int .i64 f.s, .int .i64 f.o, .int .i64 f.v, .int .i64 f.fr, .int .i64 f.to, .int .i64 f.kn, .int .i64 f.no] = put8 w b p f := by
  simp only [World.setCells, put8, Nat.add_assoc, Nat.reduceAdd]
theorem wpListIn_put8 {F : Fence} {n : Nat} {P : Program} {ops : Array Oper} {rest : List Oper} {o : Oper} {a : Act} {w : World} {Q : Exit → Act → World → Prop} (hgd : o.guard = none) (ty : TypeId) (x y : Operand) (ho : o.op = .store ty x y)
    (b p : Nat) (f : Ft) (hx : a.eval x = .pointer (some ⟨b, p, none⟩)) (hy : a.eval y = .agg #[.int .i64 f.k, .int .i64 f.s, .int .i64 f.o, .int .i64 f.v, .int .i64 f.fr, .int .i64 f.to, .int .i64 f.kn, .int .i64 f.no])
    (hc : ∀ j, j < 8 → ∃ v, w.cell? ⟨b, p + j, none⟩ = some v) (hf : ∀ i, w.frozen? ⟨b, i, none⟩ = false) (hi : (P.info? ty).map (·.size) = some 8)
    (h : ∀ W4, W4 = put8 w b p f → wpListIn F n P ops Q rest (a.put o.dst undef) W4) : wpListIn F n P ops Q (o :: rest) a w := by
  refine wpListIn_plain hgd fun K hK => ⟨fun g hg => ?_, ?_⟩
  · simp [Oper.about, ho] at hg
  rw [Oper.semAt_plain F _ _ (by rw [ho]; intro c hc'; cases hc')]
  unfold execOp
  have hr := run_storeAt_mid (P := P) w b p ty #[.int .i64 f.k, .int .i64 f.s, .int .i64 f.o, .int .i64 f.v, .int .i64 f.fr, .int .i64 f.to, .int .i64 f.kn, .int .i64 f.no] (fun j hj => by
    obtain ⟨v, hv⟩ := hc j (by simpa using hj)
    exact ⟨by rw [hv]; rfl, hf _⟩) hi (by simp [Value.oneCell'])
  simp only [ho, hx, hy, Sem.run_bind, hr, Result.andThen_ok]
  have := hK _ _ (h _ rfl)
  rw [← setCells_put8] at this
  exact this
end Go.Sz
namespace Go.Proofs.Ytbniicobkhiniaa
open Go.RowKit Go.Sz Go.Shelf
attribute [local go_sem] Oper.semAt_some
theorem zv96s : ((Try.prog.info? 96).bind (·.zero)).map (fun z => z.cells.size) = some 8192 := by kernel_rfl
theorem zv97s : ((Try.prog.info? 97).bind (·.zero)).map (fun z => z.cells.size) = some 1024 := by kernel_rfl
theorem zv97 : (Try.prog.info? 97).bind (·.zero) = some (.agg (Array.replicate 1024 (.bool false))) := by kernel_rfl
theorem zv91 : (Try.prog.info? 91).bind (·.zero) = some (.agg (Array.replicate 1024 (.int .i64 0))) := by kernel_rfl
theorem zv_run {t : TypeId} {z : Value} (h : (Try.prog.info? t).bind (·.zero) = some z) (w : World) : (zeroValue t).run Try.prog w = .ok z w := by
  cases hi : Try.prog.info? t with
  | none => simp [hi] at h
  | some i =>
    simp [hi] at h
    simp [zeroValue, typeInfo, hi, h, Sem.run_bind]
theorem zv96 : ∃ cs : Array Value, cs.size = 8192 ∧ ∀ w, (zeroValue 96).run Try.prog w = .ok (.agg cs) w := by
  have h := zv96s
  cases hz : (Try.prog.info? 96).bind (·.zero) with
  | none => rw [hz] at h; cases h
  | some z =>
    rw [hz] at h
    simp only [Option.map_some, Option.some.injEq] at h
    cases z with
    | agg cs => exact ⟨cs, h, zv_run hz⟩
    | _ => simp [Value.cells] at h
noncomputable def z96 : Array Value := zv96.choose
theorem z96_size : z96.size = 8192 := zv96.choose_spec.1
theorem zr96 (w : World) : (zeroValue (96 : Nat)).run Try.prog w = .ok (.agg z96) w := zv96.choose_spec.2 w
def z97 : Array Value := Array.replicate 1024 (.bool false)
theorem zr97 (w : World) : (zeroValue (97 : Nat)).run Try.prog w = .ok (.agg z97) w := zv_run zv97 w
def z91 : Array Value := Array.replicate 1024 (.int .i64 0)
theorem zr91 (w : World) : (zeroValue (91 : Nat)).run Try.prog w = .ok (.agg z91) w := zv_run zv91 w
attribute [local go_sem] zr91 zr96 zr97
set_option maxRecDepth 100000 in
set_option maxHeartbeats 6400000 in
theorem values_any (l : List Ft) (k : Ky) (kn : Int) (ao : Option Addr) (cap : Nat) (w : World) (h : RepF w ao cap l) : Calls Try.prog 48 #[.slice ao l.length cap, .agg #[.int .i64 k.k, .int .i64 k.s, .int .i64 k.o], .int .i64 kn] w fun e w' => e = .returned (.agg (vrow l k kn).toArray) ∧ Ext w w' := by
  have hwf : Fence.wide.fn 51 := trivial
  have hX5 := ((((((((Ext.refl w).alloc (.cells #[.int .i64 k.k, .int .i64 k.s, .int .i64 k.o] 26)).alloc (.cells z91 91)).alloc (.cells z96 96)).alloc (.cells z97 97)).alloc (.cells #[.slice ao l.length cap] 33)).alloc (.cells #[.int .i64 k.k, .int .i64 k.s, .int .i64 k.o] 26)).alloc (.cells #[.int .i64 kn] 3))
  have h4 : ∀ x, ao = some x → l ≠ [] → x.block < w.heap.size := fun z hz hne => by
    obtain ⟨b, o, e, hlt⟩ := SL.at h (by omega) 0 (by rw [frows_length]; exact List.length_pos_iff.2 hne)
    rw [e] at hz; cases hz; exact hlt
  have hH5 : OfH (((((((w.alloc (.cells #[.int .i64 k.k, .int .i64 k.s, .int .i64 k.o] 26)).alloc (.cells z91 91)).alloc (.cells z96 96)).alloc (.cells z97 97)).alloc (.cells #[.slice ao l.length cap] 33)).alloc (.cells #[.int .i64 k.k, .int .i64 k.s, .int .i64 k.o] 26)).alloc (.cells #[.int .i64 kn] 3)) (w.heap.size + 1 + 1 + 1 + 1) (w.heap.size + 1 + 1 + 1 + 1 + 1) (w.heap.size + 1 + 1 + 1 + 1 + 1 + 1) k kn ao cap l :=
    ⟨by (simp only [World.cell?, heap_al, World.size_alloc]; all_goals (repeat rw [if_neg (by omega)]); all_goals rfl), by (simp only [World.cell?, heap_al, World.size_alloc]; all_goals (repeat rw [if_neg (by omega)]); all_goals rfl), by (simp only [World.cell?, heap_al, World.size_alloc]; all_goals (repeat rw [if_neg (by omega)]); all_goals rfl), by (simp only [World.cell?, heap_al, World.size_alloc]; all_goals (repeat rw [if_neg (by omega)]); all_goals rfl), by (simp only [World.cell?, heap_al, World.size_alloc]; all_goals (repeat rw [if_neg (by omega)]); all_goals rfl), h.ext hX5⟩
  have hb7 : (((((((w.alloc (.cells #[.int .i64 k.k, .int .i64 k.s, .int .i64 k.o] 26)).alloc (.cells z91 91)).alloc (.cells z96 96)).alloc (.cells z97 97)).alloc (.cells #[.slice ao l.length cap] 33)).alloc (.cells #[.int .i64 k.k, .int .i64 k.s, .int .i64 k.o] 26)).alloc (.cells #[.int .i64 kn] 3)).heap[w.heap.size + 1 + 1]? = some (.cells z96 96 (0, 0)) := by (simp only [heap_al, World.size_alloc]; all_goals (repeat rw [if_neg (by omega)]); all_goals rfl)
  have hb8 : (((((((w.alloc (.cells #[.int .i64 k.k, .int .i64 k.s, .int .i64 k.o] 26)).alloc (.cells z91 91)).alloc (.cells z96 96)).alloc (.cells z97 97)).alloc (.cells #[.slice ao l.length cap] 33)).alloc (.cells #[.int .i64 k.k, .int .i64 k.s, .int .i64 k.o] 26)).alloc (.cells #[.int .i64 kn] 3)).heap[w.heap.size + 1 + 1 + 1]? = some (.cells z97 97 (0, 0)) := by (simp only [heap_al, World.size_alloc]; all_goals (repeat rw [if_neg (by omega)]); all_goals rfl)
  have hb6 : (((((((w.alloc (.cells #[.int .i64 k.k, .int .i64 k.s, .int .i64 k.o] 26)).alloc (.cells z91 91)).alloc (.cells z96 96)).alloc (.cells z97 97)).alloc (.cells #[.slice ao l.length cap] 33)).alloc (.cells #[.int .i64 k.k, .int .i64 k.s, .int .i64 k.o] 26)).alloc (.cells #[.int .i64 kn] 3)).heap[w.heap.size + 1]? = some (.cells z91 91 (0, 0)) := by (simp only [heap_al, World.size_alloc]; all_goals (repeat rw [if_neg (by omega)]); all_goals rfl)
  clear h
  refine (callsIn_wide (n := 6)).1 ?_
  refine callsIn_of_wp_marks Try.func48 rfl trivial ?_ rfl
  simp only [Try.ntmps48, List.size_toArray, List.length_cons, List.length_nil, Nat.reduceAdd, Nat.reduceSub, Array.replicate_succ, Array.replicate_zero, List.push_toArray, List.append_toArray, List.nil_append, List.cons_append]
  gi_wp2_with (gi_at_call 51; refine (callsIn_wide.2 (of_any _ _ _ _ _ _)).mono ?_; rintro e w5 ⟨rfl, hw5⟩; subst hw5)
  have hsz5 : (((((((w.alloc (.cells #[.int .i64 k.k, .int .i64 k.s, .int .i64 k.o] 26)).alloc (.cells z91 91)).alloc (.cells z96 96)).alloc (.cells z97 97)).alloc (.cells #[.slice ao l.length cap] 33)).alloc (.cells #[.int .i64 k.k, .int .i64 k.s, .int .i64 k.o] 26)).alloc (.cells #[.int .i64 kn] 3)).heap.size = w.heap.size + 7 := by simp
  generalize (((((((w.alloc (.cells #[.int .i64 k.k, .int .i64 k.s, .int .i64 k.o] 26)).alloc (.cells z91 91)).alloc (.cells z96 96)).alloc (.cells z97 97)).alloc (.cells #[.slice ao l.length cap] 33)).alloc (.cells #[.int .i64 k.k, .int .i64 k.s, .int .i64 k.o] 26)).alloc (.cells #[.int .i64 kn] 3)) = W0 at *
  have HS0 := Lib.hid hsz5
  clear hsz5
  have hseq : SeqStopsK Fence.wide 5 Try.prog 52 #[.pointer (some ⟨w.heap.size + 1 + 1 + 1 + 1, 0, none⟩), .pointer (some ⟨w.heap.size + 1 + 1 + 1 + 1 + 1, 0, none⟩), .pointer (some ⟨w.heap.size + 1 + 1 + 1 + 1 + 1 + 1, 0, none⟩)] (fun x : Ft => #[Value.agg #[.int .i64 x.k, .int .i64 x.s, .int .i64 x.o, .int .i64 x.v, .int .i64 x.fr, .int .i64 x.to, .int .i64 x.kn, .int .i64 x.no]]) (KpY W0.heap.size (w.heap.size + 1 + 1) (w.heap.size + 1 + 1 + 1)) (fun xs => xs = l.filter (selF k kn)) (fun _ => True) l.length W0 := fun yl J Jx W hW hJ hJx hY h0 =>
    of1_in 5 (by omega) yl (w.heap.size + 1 + 1 + 1 + 1) (w.heap.size + 1 + 1 + 1 + 1 + 1) (w.heap.size + 1 + 1 + 1 + 1 + 1 + 1) W0.heap.size (w.heap.size + 1 + 1) (w.heap.size + 1 + 1 + 1) k kn ao cap l J Jx (fun pre A B hA hE => hJ pre A B none hA ⟨hE.os, hE.tape, hE.output, hE.size, fun k hk _ => hE.block k hk⟩ (fun r hr => by cases hr)) hY (by have := HS0.out; omega) (by have := HS0.out; omega) (by have := HS0.out; omega) (fun z hz hne => by have := h4 z hz hne; have := HS0.out; omega) W (hH5.ext hW) h0
  refine wpIn_rangeFunc_ownH rfl (by omega) (gf := 52) (lb := #[.pointer (some ⟨w.heap.size + 1 + 1 + 1 + 1, 0, none⟩), .pointer (some ⟨w.heap.size + 1 + 1 + 1 + 1 + 1, 0, none⟩), .pointer (some ⟨w.heap.size + 1 + 1 + 1 + 1 + 1 + 1, 0, none⟩)]) rfl trivial (enters_of Try.func52 (by kernel_rfl) rfl)
    hseq KpY.trans (fun W l o o' hl _ _ _ => kpY_put W l o' hl) (Below.refl _ _) (fun _ => rfl)
    (fun pre W => ∃ vs us, BW W (w.heap.size + 1 + 1) (w.heap.size + 1 + 1 + 1) (bsF pre) vs us ∧ KpY W0.heap.size (w.heap.size + 1 + 1) (w.heap.size + 1 + 1 + 1) W0 W ∧ Ext w W)
    (fun _ _ _ => False)
    (fun pre X Y row hs hg hr => by
      obtain ⟨vs, us, h1, h6, h7⟩ := hs
      exact ⟨vs, us, h1.own hg hr, ⟨Nat.le_trans h6.1 hg.size, fun b hb hne hne2 => (hg.block b (by have := h6.1; omega) (fun e => by have := (hr b e.symm).1; omega)).trans (h6.2 b hb hne hne2)⟩, ownFrom_below (Nat.le_refl _) hX5.size () X Y row h7 hg hr⟩)
    (fun _ _ _ _ _ hs _ _ => hs)
    ⟨z96.toList, z97.toList, ⟨by simp [z96_size], by simp [z97], CB.of_heap hb7, CB.of_heap hb8, fun t ht => rep_at _ ht, fun t _ g hg => by simp [bsF] at hg⟩, ⟨Nat.le_refl _, fun _ _ _ _ => rfl⟩, hX5⟩
    (fun x a' W => ∃ Bx, W0.heap.size ≤ Bx ∧ W.heap[Bx]? = some (.cells x.enc.toArray 28 (0, 0)) ∧ a' = { tmps := #[.slice ao l.length cap, .agg #[.int .i64 k.k, .int .i64 k.s, .int .i64 k.o], .int .i64 kn, undef, .pointer (some ⟨w.heap.size, 0, none⟩), undef, .pointer (some ⟨w.heap.size + 1, 0, none⟩), .pointer (some ⟨w.heap.size + 1 + 1, 0, none⟩), .pointer (some ⟨w.heap.size + 1 + 1 + 1, 0, none⟩), .pointer (some ⟨Bx, 0, none⟩), undef, undef, .slice ao l.length cap, .agg #[.int .i64 k.k, .int .i64 k.s, .int .i64 k.o], .int .i64 kn, .func (.func 52) #[] #[.pointer (some ⟨w.heap.size + 1 + 1 + 1 + 1, 0, none⟩), .pointer (some ⟨w.heap.size + 1 + 1 + 1 + 1 + 1, 0, none⟩), .pointer (some ⟨w.heap.size + 1 + 1 + 1 + 1 + 1 + 1, 0, none⟩)], .agg #[.int .i64 x.k, .int .i64 x.s, .int .i64 x.o, .int .i64 x.v, .int .i64 x.fr, .int .i64 x.to, .int .i64 x.kn, .int .i64 x.no], undef, undef, undef, undef, undef, undef, undef, undef, undef, undef, undef, undef, undef, undef, undef, undef, undef, undef, undef, undef, undef, undef, undef, undef, undef, undef, undef, undef, undef, undef, undef, undef, undef, undef, undef, undef, undef, undef, undef, undef, undef, undef, undef, undef, undef, undef], defers := [] })
    (fun p a' _ X Y row hs hg hr => by
      obtain ⟨Bx, h1, h2, h3⟩ := hs
      exact ⟨Bx, h1, (hg.block Bx (Array.getElem?_eq_some_iff.1 h2).1 (fun e' => by obtain ⟨_, o, ho, hc⟩ := hr Bx e'.symm; rw [h2] at ho; cases ho; cases hc)).trans h2, h3⟩)
    ?assign ?body ?done ?stop
  case assign =>
    rintro yl pre x W K ⟨vs, us, h1, h6, h7⟩ hK
    gi_wp2
    have hA := (Ext.refl W).alloc (.cells #[.int .i64 x.k, .int .i64 x.s, .int .i64 x.o, .int .i64 x.v, .int .i64 x.fr, .int .i64 x.to, .int .i64 x.kn, .int .i64 x.no] 28)
    exact hK _ _ ((KeepsOthers.alloc _ _).from _) (hA.kpY h6.1) ⟨vs, us, h1.ext hA, h6.trans (hA.kpY h6.1), h7.trans hA⟩ ⟨W.heap.size, h6.1, heap_alloc_new W _, rfl⟩
  case body =>
    rintro yl pre x a' W hl ⟨r, hr⟩ ⟨vs, us, h1, h6, h7⟩ ⟨Bx, hBx, hbx, rfl⟩ hlt
    have x4 : W.cell? ⟨Bx, 4, none⟩ = some (.int .i64 x.fr) := by simp [World.cell?, hbx, Ft.enc]
    have x5 : W.cell? ⟨Bx, 5, none⟩ = some (.int .i64 x.to) := by simp [World.cell?, hbx, Ft.enc]
    clear hlt
    obtain ⟨m0, hm0⟩ : ∃ m0 : Nat, (if x.fr > 0 then x.fr else 0) = (m0 : Int) := by
      by_cases h0 : x.fr > 0
      · exact ⟨x.fr.toNat, by rw [if_pos h0]; omega⟩
      · exact ⟨0, by rw [if_neg h0]; rfl⟩
    have HM0 : Hid ((m0 : Int) = max 0 x.fr) := Lib.hid (by rw [← hm0]; split <;> omega)
    have HMS : Hid (∀ t, midB (bsF pre) x m0 t = bsF pre t) := Lib.hid (midB_start (by rw [HM0.out]; omega))
    by_cases h0 : x.fr > 0
    · rw [if_pos h0] at hm0
      rw [hm0] at x4
      rw [hm0] at h0
      clear hm0
      gi_wp2
      gi_loopw [10] (fun iv wr => ∃ m : Nat, iv = .int .i64 m ∧ m0 ≤ m ∧ (m ≤ m0 ∨ (m : Int) ≤ min x.to 1024) ∧ wr.heap[Bx]? = some (.cells x.enc.toArray 28 (0, 0)) ∧ KeepsOthers W wr ∧ KpY W0.heap.size (w.heap.size + 1 + 1) (w.heap.size + 1 + 1 + 1) W wr ∧ Ext w wr ∧ ∃ vs us, BW wr (w.heap.size + 1 + 1) (w.heap.size + 1 + 1 + 1) (midB (bsF pre) x m) vs us) (fun iv _ => 1024 - (intOf iv).toNat)
      case atStart => exact ⟨m0, rfl, Nat.le_refl _, .inl (Nat.le_refl _), hbx, .refl _, ⟨Nat.le_refl _, fun _ _ _ _ => rfl⟩, h7, vs, us, h1.congr fun t _ => HMS.out t⟩
      case round =>
        clear x4 x5 hbx h1 h7 h0
        obtain ⟨m, rfl, hm1, hm2, hbx, hKO, hKp, h7, vs', us', hBW⟩ := hrel
        have x5 : wr.cell? ⟨Bx, 5, none⟩ = some (.int .i64 x.to) := by simp [World.cell?, hbx, Ft.enc]
        have HM1 := Lib.hid hm1
        have HM2 := Lib.hid hm2
        have HKO := Lib.hid hKO
        have HKP := Lib.hid hKp
        have HE := Lib.hid h7
        have HBW := Lib.hid hBW
        have HBX := Lib.hid hbx
        clear hm1 hm2 hKO hKp h7 hBW hbx
        by_cases hlt : (m : Int) < min x.to 1024
        · have hl1 : (m : Int) < 1024 := by omega
          have hl2 : (m : Int) < x.to := by omega
          have hl3 : (0 : Int) ≤ m := by omega
          have HLT := Lib.hid hlt
          clear hlt
          have u0 := HBW.out.bool (m := m) (by omega)
          rw [midB_at] at u0
          cases hbm : bsF pre m with
          | none =>
            rw [hbm] at u0
            dsimp only [Option.isSome] at u0
            have gu0 := grow_cell u0
            by_cases ht : (1024 : Int) < x.to
            all_goals
              gi_wp2
              refine wpIn_round_rel_all (fun _ => none) (by kernel_rfl) (by kernel_rfl) (by kernel_rfl) ?_
              repeat (first
                | (refine wpRel_quick ?_ ?_ ?_ ?_
                   · rfl
                   · rfl
                   · first | exact noEnter rfl | (intro f args W W'; go_simp)
                   intro K hK
                   go_big_quiet_op
                   go_big_quiet_on)
                | (refine wpRel_skip ?_ ?_
                   · rfl
                   simp only [Act.put, List.setIfInBounds_toArray, List.set_cons_zero, List.set_cons_succ]))
              refine wpRel_nil ?_
              intro W3 hW3
              have HE3 := Lib.hid ((Ext.refl wr).drew.trans hW3.1)
              have HBX3 : Hid (W3.heap[Bx]? = some (.cells x.enc.toArray 28 (0, 0))) := Lib.hid ((HE3.out.block Bx (Array.getElem?_eq_some_iff.1 HBX.out).1).trans HBX.out)
              have HB3 := Lib.hid (HBW.out.ext HE3.out)
              clear hW3
              clear gu0 u0 x5
              have a0 : W3.cell? ⟨Bx, 0, none⟩ = some (.int .i64 x.k) := by simp [World.cell?, HBX3.out, Ft.enc]
              have a1 : W3.cell? ⟨Bx, 1, none⟩ = some (.int .i64 x.s) := by simp [World.cell?, HBX3.out, Ft.enc]
              have a2 : W3.cell? ⟨Bx, 2, none⟩ = some (.int .i64 x.o) := by simp [World.cell?, HBX3.out, Ft.enc]
              have a3 : W3.cell? ⟨Bx, 3, none⟩ = some (.int .i64 x.v) := by simp [World.cell?, HBX3.out, Ft.enc]
              have a4 : W3.cell? ⟨Bx, 4, none⟩ = some (.int .i64 x.fr) := by simp [World.cell?, HBX3.out, Ft.enc]
              have a5 : W3.cell? ⟨Bx, 5, none⟩ = some (.int .i64 x.to) := by simp [World.cell?, HBX3.out, Ft.enc]
              have a6 : W3.cell? ⟨Bx, 6, none⟩ = some (.int .i64 x.kn) := by simp [World.cell?, HBX3.out, Ft.enc]
              have a7 : W3.cell? ⟨Bx, 7, none⟩ = some (.int .i64 x.no) := by simp [World.cell?, HBX3.out, Ft.enc]
              have HOLD := Lib.hid (fun (j : Nat) (hj : j < 8) => HB3.out.old (m := m) (j := j) (by omega) hj)
              have HY8 := Lib.hid (fun (W4 : World) (e : W4 = put8 W3 (w.heap.size + 1 + 1) (m * 8) x) => show (∃ v, W4.cell? ⟨w.heap.size + 1 + 1 + 1, m, none⟩ = some v) ∧ W4.frozen? ⟨w.heap.size + 1 + 1 + 1, m, none⟩ = false from e ▸ ⟨⟨_, (World.cell?_of_block (put8_far W3 (m * 8) x (show w.heap.size + 1 + 1 + 1 ≠ w.heap.size + 1 + 1 by omega))).trans (HB3.out.bool (m := m) (by omega))⟩, (HB3.out.c8.keep (put8_far W3 (m * 8) x (show w.heap.size + 1 + 1 + 1 ≠ w.heap.size + 1 + 1 by omega))).fz m⟩)
              gi_wp2_with (refine wpListIn_put8 rfl 28 _ _ rfl (w.heap.size + 1 + 1) (m * 8) x rfl rfl HOLD.out HB3.out.c7.fz (by kernel_rfl) ?_; intro W4 hW4; obtain ⟨⟨v8, y8⟩, z8⟩ := HY8.out W4 hW4; have HW4 := Lib.hid hW4; clear hW4)
              have HBN := Lib.hid (HB3.out.put (bs' := midB (bsF pre) x (m + 1)) (by omega) (m := m) (by omega) x (fun t _ => midB_put (by have := HM0.out; have := HM1.out; omega) (by omega) (by rw [hbm]; rfl) t))
              obtain rfl := HW4.out
              clear y8 z8 a0 a1 a2 a3 a4 a5 a6 a7
              go_roundw
              case rel =>
                refine ⟨m + 1, by go_num, by have := HM1.out; omega, .inr (by have := HLT.out; omega), ?_, ?_, ?_, ?_, _, _, HBN.out⟩
                · exact (putB_heap W3 m x (by have := HS0.out; omega) (by have := HS0.out; omega)).trans HBX3.out
                · exact (HKO.out.trans HE3.out.keepsOthers).trans (putB_keeps W3 _ _ m x)
                · exact putB_kpY (HKP.out.trans (HE3.out.kpY (by have := HKP.out.1; have := h6.1; omega))) m x
                · exact putB_ext (HE.out.trans HE3.out) (by omega) (by omega) m x
              case measure => simp [intOf] <;> (have := HLT.out; omega)
          | some g =>
            rw [hbm] at u0
            dsimp only [Option.isSome] at u0
            have gu0 := grow_cell u0
            have HMG : Hid (midB (bsF pre) x m m = some g) := Lib.hid (by rw [midB_at]; exact hbm)
            have c0 : wr.cell? ⟨Bx, 0, none⟩ = some (.int .i64 x.k) := by simp [World.cell?, HBX.out, Ft.enc]
            have gc0 := grow_cell c0
            have d0 : wr.cell? ⟨w.heap.size + 1 + 1, m * 8, none⟩ = some (.int .i64 g.k) := HBW.out.fact (j := 0) (by omega) HMG.out (by omega) rfl
            have gd0 := grow_cell d0
            have c1 : wr.cell? ⟨Bx, 1, none⟩ = some (.int .i64 x.s) := by simp [World.cell?, HBX.out, Ft.enc]
            have gc1 := grow_cell c1
            have d1 : wr.cell? ⟨w.heap.size + 1 + 1, m * 8 + 1, none⟩ = some (.int .i64 g.s) := HBW.out.fact (j := 1) (by omega) HMG.out (by omega) rfl
            have gd1 := grow_cell d1
            have c2 : wr.cell? ⟨Bx, 2, none⟩ = some (.int .i64 x.o) := by simp [World.cell?, HBX.out, Ft.enc]
            have gc2 := grow_cell c2
            have d2 : wr.cell? ⟨w.heap.size + 1 + 1, m * 8 + 2, none⟩ = some (.int .i64 g.o) := HBW.out.fact (j := 2) (by omega) HMG.out (by omega) rfl
            have gd2 := grow_cell d2
            have c3 : wr.cell? ⟨Bx, 3, none⟩ = some (.int .i64 x.v) := by simp [World.cell?, HBX.out, Ft.enc]
            have gc3 := grow_cell c3
            have d3 : wr.cell? ⟨w.heap.size + 1 + 1, m * 8 + 3, none⟩ = some (.int .i64 g.v) := HBW.out.fact (j := 3) (by omega) HMG.out (by omega) rfl
            have gd3 := grow_cell d3
            have c4 : wr.cell? ⟨Bx, 4, none⟩ = some (.int .i64 x.fr) := by simp [World.cell?, HBX.out, Ft.enc]
            have gc4 := grow_cell c4
            have d4 : wr.cell? ⟨w.heap.size + 1 + 1, m * 8 + 4, none⟩ = some (.int .i64 g.fr) := HBW.out.fact (j := 4) (by omega) HMG.out (by omega) rfl
            have gd4 := grow_cell d4
            have c5 : wr.cell? ⟨Bx, 5, none⟩ = some (.int .i64 x.to) := by simp [World.cell?, HBX.out, Ft.enc]
            have gc5 := grow_cell c5
            have d5 : wr.cell? ⟨w.heap.size + 1 + 1, m * 8 + 5, none⟩ = some (.int .i64 g.to) := HBW.out.fact (j := 5) (by omega) HMG.out (by omega) rfl
            have gd5 := grow_cell d5
            have c6 : wr.cell? ⟨Bx, 6, none⟩ = some (.int .i64 x.kn) := by simp [World.cell?, HBX.out, Ft.enc]
            have gc6 := grow_cell c6
            have d6 : wr.cell? ⟨w.heap.size + 1 + 1, m * 8 + 6, none⟩ = some (.int .i64 g.kn) := HBW.out.fact (j := 6) (by omega) HMG.out (by omega) rfl
            have gd6 := grow_cell d6
            have c7 : wr.cell? ⟨Bx, 7, none⟩ = some (.int .i64 x.no) := by simp [World.cell?, HBX.out, Ft.enc]
            have gc7 := grow_cell c7
            have d7 : wr.cell? ⟨w.heap.size + 1 + 1, m * 8 + 7, none⟩ = some (.int .i64 g.no) := HBW.out.fact (j := 7) (by omega) HMG.out (by omega) rfl
            have gd7 := grow_cell d7
            by_cases ht : (1024 : Int) < x.to
            all_goals
              obtain ⟨q, hq⟩ : ∃ q, cmpF x g = q := ⟨_, rfl⟩
              have HQ := Lib.hid hq
              have HCP : Hid (∀ W, Calls Try.prog 36 #[.agg #[.int .i64 x.k, .int .i64 x.s, .int .i64 x.o, .int .i64 x.v, .int .i64 x.fr, .int .i64 x.to, .int .i64 x.kn, .int .i64 x.no], .agg #[.int .i64 g.k, .int .i64 g.s, .int .i64 g.o, .int .i64 g.v, .int .i64 g.fr, .int .i64 g.to, .int .i64 g.kn, .int .i64 g.no]] W fun e w' => e = .returned (.int .i64 q) ∧ Ext W w') := Lib.hid fun W => hq ▸ compare_any x g W
              clear hq
              gi_wp2
              refine wpIn_round_rel_all (fun i => if i = 9 then some (spV (.int .i64 q)) else none) (by kernel_rfl) (by kernel_rfl) (by kernel_rfl) ?_
              repeat (first
                | (refine wpRel_quick ?_ ?_ ?_ ?_
                   · rfl
                   · rfl
                   · first | exact noEnter rfl | (intro f args W W'; go_simp)
                   intro K hK
                   go_big_quiet_op
                   go_big_quiet_on)
                | (refine wpRel_skip ?_ ?_
                   · rfl
                   simp only [Act.put, List.setIfInBounds_toArray, List.set_cons_zero, List.set_cons_succ]))
              refine wpRel_rich _ rfl rfl (fun W hW => ?_) (fun v W3 hW3 hv => ?_)
              · have hc := HCP.out W
                go_simp
                refine Calls.mono hc ?_
                rintro e w' ⟨rfl, h⟩
                exact ⟨_, rfl, rfl, by first | exact h | (subst h; exact Ext.refl _)⟩
              obtain rfl := hv
              clear hW3
              simp only [Act.put, List.setIfInBounds_toArray, List.set_cons_zero, List.set_cons_succ]
              repeat (first
                | (refine wpRel_quick ?_ ?_ ?_ ?_
                   · rfl
                   · rfl
                   · first | exact noEnter rfl | (intro f args W W'; go_simp)
                   intro K hK
                   go_big_quiet_op
                   go_big_quiet_on)
                | (refine wpRel_skip ?_ ?_
                   · rfl
                   simp only [Act.put, List.setIfInBounds_toArray, List.set_cons_zero, List.set_cons_succ]))
              refine wpRel_nil ?_
              intro W3 hW3
              by_cases hq0 : q ≥ 0
              · have HE3 := Lib.hid ((Ext.refl wr).drew.trans hW3.1)
                have HBX3 : Hid (W3.heap[Bx]? = some (.cells x.enc.toArray 28 (0, 0))) := Lib.hid ((HE3.out.block Bx (Array.getElem?_eq_some_iff.1 HBX.out).1).trans HBX.out)
                have HB3 := Lib.hid (HBW.out.ext HE3.out)
                clear hW3
                clear gu0 u0 x5 HCP c0 c1 c2 c3 c4 c5 c6 c7 d0 d1 d2 d3 d4 d5 d6 d7 gc0 gc1 gc2 gc3 gc4 gc5 gc6 gc7 gd0 gd1 gd2 gd3 gd4 gd5 gd6 gd7
                have a0 : W3.cell? ⟨Bx, 0, none⟩ = some (.int .i64 x.k) := by simp [World.cell?, HBX3.out, Ft.enc]
                have a1 : W3.cell? ⟨Bx, 1, none⟩ = some (.int .i64 x.s) := by simp [World.cell?, HBX3.out, Ft.enc]
                have a2 : W3.cell? ⟨Bx, 2, none⟩ = some (.int .i64 x.o) := by simp [World.cell?, HBX3.out, Ft.enc]
                have a3 : W3.cell? ⟨Bx, 3, none⟩ = some (.int .i64 x.v) := by simp [World.cell?, HBX3.out, Ft.enc]
                have a4 : W3.cell? ⟨Bx, 4, none⟩ = some (.int .i64 x.fr) := by simp [World.cell?, HBX3.out, Ft.enc]
                have a5 : W3.cell? ⟨Bx, 5, none⟩ = some (.int .i64 x.to) := by simp [World.cell?, HBX3.out, Ft.enc]
                have a6 : W3.cell? ⟨Bx, 6, none⟩ = some (.int .i64 x.kn) := by simp [World.cell?, HBX3.out, Ft.enc]
                have a7 : W3.cell? ⟨Bx, 7, none⟩ = some (.int .i64 x.no) := by simp [World.cell?, HBX3.out, Ft.enc]
                have HOLD := Lib.hid (fun (j : Nat) (hj : j < 8) => HB3.out.old (m := m) (j := j) (by omega) hj)
                have HY8 := Lib.hid (fun (W4 : World) (e : W4 = put8 W3 (w.heap.size + 1 + 1) (m * 8) x) => show (∃ v, W4.cell? ⟨w.heap.size + 1 + 1 + 1, m, none⟩ = some v) ∧ W4.frozen? ⟨w.heap.size + 1 + 1 + 1, m, none⟩ = false from e ▸ ⟨⟨_, (World.cell?_of_block (put8_far W3 (m * 8) x (show w.heap.size + 1 + 1 + 1 ≠ w.heap.size + 1 + 1 by omega))).trans (HB3.out.bool (m := m) (by omega))⟩, (HB3.out.c8.keep (put8_far W3 (m * 8) x (show w.heap.size + 1 + 1 + 1 ≠ w.heap.size + 1 + 1 by omega))).fz m⟩)
                gi_wp2_with (refine wpListIn_put8 rfl 28 _ _ rfl (w.heap.size + 1 + 1) (m * 8) x rfl rfl HOLD.out HB3.out.c7.fz (by kernel_rfl) ?_; intro W4 hW4; obtain ⟨⟨v8, y8⟩, z8⟩ := HY8.out W4 hW4; have HW4 := Lib.hid hW4; clear hW4)
                have HBN := Lib.hid (HB3.out.put (bs' := midB (bsF pre) x (m + 1)) (by omega) (m := m) (by omega) x (fun t _ => midB_put (by have := HM0.out; have := HM1.out; omega) (by omega) (by rw [hbm]; exact decide_eq_true (by rw [HQ.out]; exact hq0)) t))
                obtain rfl := HW4.out
                clear y8 z8 a0 a1 a2 a3 a4 a5 a6 a7
                go_roundw
                case rel =>
                  refine ⟨m + 1, by go_num, by have := HM1.out; omega, .inr (by have := HLT.out; omega), ?_, ?_, ?_, ?_, _, _, HBN.out⟩
                  · exact (putB_heap W3 m x (by have := HS0.out; omega) (by have := HS0.out; omega)).trans HBX3.out
                  · exact (HKO.out.trans HE3.out.keepsOthers).trans (putB_keeps W3 _ _ m x)
                  · exact putB_kpY (HKP.out.trans (HE3.out.kpY (by have := HKP.out.1; have := h6.1; omega))) m x
                  · exact putB_ext (HE.out.trans HE3.out) (by omega) (by omega) m x
                case measure => simp [intOf] <;> (have := HLT.out; omega)
              · have HE3 := Lib.hid ((Ext.refl wr).drew.trans hW3.1)
                clear hW3
                clear gu0 u0 x5 HCP c0 c1 c2 c3 c4 c5 c6 c7 d0 d1 d2 d3 d4 d5 d6 d7 gc0 gc1 gc2 gc3 gc4 gc5 gc6 gc7 gd0 gd1 gd2 gd3 gd4 gd5 gd6 gd7
                gi_wp2
                go_roundw
                case rel =>
                  refine ⟨m + 1, by go_num, by have := HM1.out; omega, .inr (by have := HLT.out; omega), (HE3.out.block Bx (Array.getElem?_eq_some_iff.1 HBX.out).1).trans HBX.out, HKO.out.trans HE3.out.keepsOthers, HKP.out.trans (HE3.out.kpY (by have := HKP.out.1; have := h6.1; omega)), HE.out.trans HE3.out, _, _, (HBW.out.ext HE3.out).congr fun t _ => midB_stay (by rw [hbm]; exact decide_eq_false (by rw [HQ.out]; exact hq0)) t⟩
                case measure => simp [intOf] <;> (have := HLT.out; omega)
        · by_cases ht : (1024 : Int) < x.to
          all_goals
            have hl1 : ¬ (m : Int) < min x.to 1024 := hlt
            have hl2 : (1024 : Int) < x.to → ¬ (m : Int) < 1024 := fun _ => by omega
            have hl3 : ¬ (1024 : Int) < x.to → ¬ (m : Int) < x.to := fun _ => by omega
            have HEND := Lib.hid hlt
            clear hl1 hlt
            first | (replace hl2 := hl2 ht; clear hl3) | (replace hl3 := hl3 ht; clear hl2)
            gi_wp2
            refine ⟨HKO.out.from _, HKP.out, ⟨vs', us', HBW.out.congr fun t ht => ?_⟩, h6.trans HKP.out, HE.out⟩
            rw [bsF_snoc, midB_end (by have := HEND.out; omega) ht]
    · have hz : m0 = 0 := by rw [if_neg h0] at hm0; omega
      have HZ := Lib.hid hz
      clear hm0 hz
      gi_wp2
      gi_loopw [10] (fun iv wr => ∃ m : Nat, iv = .int .i64 m ∧ m0 ≤ m ∧ (m ≤ m0 ∨ (m : Int) ≤ min x.to 1024) ∧ wr.heap[Bx]? = some (.cells x.enc.toArray 28 (0, 0)) ∧ KeepsOthers W wr ∧ KpY W0.heap.size (w.heap.size + 1 + 1) (w.heap.size + 1 + 1 + 1) W wr ∧ Ext w wr ∧ ∃ vs us, BW wr (w.heap.size + 1 + 1) (w.heap.size + 1 + 1 + 1) (midB (bsF pre) x m) vs us) (fun iv _ => 1024 - (intOf iv).toNat)
      case atStart => exact ⟨m0, by rw [HZ.out]; rfl, Nat.le_refl _, .inl (Nat.le_refl _), hbx, .refl _, ⟨Nat.le_refl _, fun _ _ _ _ => rfl⟩, h7, vs, us, h1.congr fun t _ => HMS.out t⟩
      case round =>
        clear x4 x5 hbx h1 h7 h0
        obtain ⟨m, rfl, hm1, hm2, hbx, hKO, hKp, h7, vs', us', hBW⟩ := hrel
        have x5 : wr.cell? ⟨Bx, 5, none⟩ = some (.int .i64 x.to) := by simp [World.cell?, hbx, Ft.enc]
        have HM1 := Lib.hid hm1
        have HM2 := Lib.hid hm2
        have HKO := Lib.hid hKO
        have HKP := Lib.hid hKp
        have HE := Lib.hid h7
        have HBW := Lib.hid hBW
        have HBX := Lib.hid hbx
        clear hm1 hm2 hKO hKp h7 hBW hbx
        by_cases hlt : (m : Int) < min x.to 1024
        · have hl1 : (m : Int) < 1024 := by omega
          have hl2 : (m : Int) < x.to := by omega
          have hl3 : (0 : Int) ≤ m := by omega
          have HLT := Lib.hid hlt
          clear hlt
          have u0 := HBW.out.bool (m := m) (by omega)
          rw [midB_at] at u0
          cases hbm : bsF pre m with
          | none =>
            rw [hbm] at u0
            dsimp only [Option.isSome] at u0
            have gu0 := grow_cell u0
            by_cases ht : (1024 : Int) < x.to
            all_goals
              gi_wp2
              refine wpIn_round_rel_all (fun _ => none) (by kernel_rfl) (by kernel_rfl) (by kernel_rfl) ?_
              repeat (first
                | (refine wpRel_quick ?_ ?_ ?_ ?_
                   · rfl
                   · rfl
                   · first | exact noEnter rfl | (intro f args W W'; go_simp)
                   intro K hK
                   go_big_quiet_op
                   go_big_quiet_on)
                | (refine wpRel_skip ?_ ?_
                   · rfl
                   simp only [Act.put, List.setIfInBounds_toArray, List.set_cons_zero, List.set_cons_succ]))
              refine wpRel_nil ?_
              intro W3 hW3
              have HE3 := Lib.hid ((Ext.refl wr).drew.trans hW3.1)
              have HBX3 : Hid (W3.heap[Bx]? = some (.cells x.enc.toArray 28 (0, 0))) := Lib.hid ((HE3.out.block Bx (Array.getElem?_eq_some_iff.1 HBX.out).1).trans HBX.out)
              have HB3 := Lib.hid (HBW.out.ext HE3.out)
              clear hW3
              clear gu0 u0 x5
              have a0 : W3.cell? ⟨Bx, 0, none⟩ = some (.int .i64 x.k) := by simp [World.cell?, HBX3.out, Ft.enc]
              have a1 : W3.cell? ⟨Bx, 1, none⟩ = some (.int .i64 x.s) := by simp [World.cell?, HBX3.out, Ft.enc]
              have a2 : W3.cell? ⟨Bx, 2, none⟩ = some (.int .i64 x.o) := by simp [World.cell?, HBX3.out, Ft.enc]
              have a3 : W3.cell? ⟨Bx, 3, none⟩ = some (.int .i64 x.v) := by simp [World.cell?, HBX3.out, Ft.enc]
              have a4 : W3.cell? ⟨Bx, 4, none⟩ = some (.int .i64 x.fr) := by simp [World.cell?, HBX3.out, Ft.enc]
              have a5 : W3.cell? ⟨Bx, 5, none⟩ = some (.int .i64 x.to) := by simp [World.cell?, HBX3.out, Ft.enc]
              have a6 : W3.cell? ⟨Bx, 6, none⟩ = some (.int .i64 x.kn) := by simp [World.cell?, HBX3.out, Ft.enc]
              have a7 : W3.cell? ⟨Bx, 7, none⟩ = some (.int .i64 x.no) := by simp [World.cell?, HBX3.out, Ft.enc]
              have HOLD := Lib.hid (fun (j : Nat) (hj : j < 8) => HB3.out.old (m := m) (j := j) (by omega) hj)
              have HY8 := Lib.hid (fun (W4 : World) (e : W4 = put8 W3 (w.heap.size + 1 + 1) (m * 8) x) => show (∃ v, W4.cell? ⟨w.heap.size + 1 + 1 + 1, m, none⟩ = some v) ∧ W4.frozen? ⟨w.heap.size + 1 + 1 + 1, m, none⟩ = false from e ▸ ⟨⟨_, (World.cell?_of_block (put8_far W3 (m * 8) x (show w.heap.size + 1 + 1 + 1 ≠ w.heap.size + 1 + 1 by omega))).trans (HB3.out.bool (m := m) (by omega))⟩, (HB3.out.c8.keep (put8_far W3 (m * 8) x (show w.heap.size + 1 + 1 + 1 ≠ w.heap.size + 1 + 1 by omega))).fz m⟩)
              gi_wp2_with (refine wpListIn_put8 rfl 28 _ _ rfl (w.heap.size + 1 + 1) (m * 8) x rfl rfl HOLD.out HB3.out.c7.fz (by kernel_rfl) ?_; intro W4 hW4; obtain ⟨⟨v8, y8⟩, z8⟩ := HY8.out W4 hW4; have HW4 := Lib.hid hW4; clear hW4)
              have HBN := Lib.hid (HB3.out.put (bs' := midB (bsF pre) x (m + 1)) (by omega) (m := m) (by omega) x (fun t _ => midB_put (by have := HM0.out; have := HM1.out; omega) (by omega) (by rw [hbm]; rfl) t))
              obtain rfl := HW4.out
              clear y8 z8 a0 a1 a2 a3 a4 a5 a6 a7
              go_roundw
              case rel =>
                refine ⟨m + 1, by go_num, by have := HM1.out; omega, .inr (by have := HLT.out; omega), ?_, ?_, ?_, ?_, _, _, HBN.out⟩
                · exact (putB_heap W3 m x (by have := HS0.out; omega) (by have := HS0.out; omega)).trans HBX3.out
                · exact (HKO.out.trans HE3.out.keepsOthers).trans (putB_keeps W3 _ _ m x)
                · exact putB_kpY (HKP.out.trans (HE3.out.kpY (by have := HKP.out.1; have := h6.1; omega))) m x
                · exact putB_ext (HE.out.trans HE3.out) (by omega) (by omega) m x
              case measure => simp [intOf] <;> (have := HLT.out; omega)
          | some g =>
            rw [hbm] at u0
            dsimp only [Option.isSome] at u0
            have gu0 := grow_cell u0
            have HMG : Hid (midB (bsF pre) x m m = some g) := Lib.hid (by rw [midB_at]; exact hbm)
            have c0 : wr.cell? ⟨Bx, 0, none⟩ = some (.int .i64 x.k) := by simp [World.cell?, HBX.out, Ft.enc]
            have gc0 := grow_cell c0
            have d0 : wr.cell? ⟨w.heap.size + 1 + 1, m * 8, none⟩ = some (.int .i64 g.k) := HBW.out.fact (j := 0) (by omega) HMG.out (by omega) rfl
            have gd0 := grow_cell d0
            have c1 : wr.cell? ⟨Bx, 1, none⟩ = some (.int .i64 x.s) := by simp [World.cell?, HBX.out, Ft.enc]
            have gc1 := grow_cell c1
            have d1 : wr.cell? ⟨w.heap.size + 1 + 1, m * 8 + 1, none⟩ = some (.int .i64 g.s) := HBW.out.fact (j := 1) (by omega) HMG.out (by omega) rfl
            have gd1 := grow_cell d1
            have c2 : wr.cell? ⟨Bx, 2, none⟩ = some (.int .i64 x.o) := by simp [World.cell?, HBX.out, Ft.enc]
            have gc2 := grow_cell c2
            have d2 : wr.cell? ⟨w.heap.size + 1 + 1, m * 8 + 2, none⟩ = some (.int .i64 g.o) := HBW.out.fact (j := 2) (by omega) HMG.out (by omega) rfl
            have gd2 := grow_cell d2
            have c3 : wr.cell? ⟨Bx, 3, none⟩ = some (.int .i64 x.v) := by simp [World.cell?, HBX.out, Ft.enc]
            have gc3 := grow_cell c3
            have d3 : wr.cell? ⟨w.heap.size + 1 + 1, m * 8 + 3, none⟩ = some (.int .i64 g.v) := HBW.out.fact (j := 3) (by omega) HMG.out (by omega) rfl
            have gd3 := grow_cell d3
            have c4 : wr.cell? ⟨Bx, 4, none⟩ = some (.int .i64 x.fr) := by simp [World.cell?, HBX.out, Ft.enc]
            have gc4 := grow_cell c4
            have d4 : wr.cell? ⟨w.heap.size + 1 + 1, m * 8 + 4, none⟩ = some (.int .i64 g.fr) := HBW.out.fact (j := 4) (by omega) HMG.out (by omega) rfl
            have gd4 := grow_cell d4
            have c5 : wr.cell? ⟨Bx, 5, none⟩ = some (.int .i64 x.to) := by simp [World.cell?, HBX.out, Ft.enc]
            have gc5 := grow_cell c5
            have d5 : wr.cell? ⟨w.heap.size + 1 + 1, m * 8 + 5, none⟩ = some (.int .i64 g.to) := HBW.out.fact (j := 5) (by omega) HMG.out (by omega) rfl
            have gd5 := grow_cell d5
            have c6 : wr.cell? ⟨Bx, 6, none⟩ = some (.int .i64 x.kn) := by simp [World.cell?, HBX.out, Ft.enc]
            have gc6 := grow_cell c6
            have d6 : wr.cell? ⟨w.heap.size + 1 + 1, m * 8 + 6, none⟩ = some (.int .i64 g.kn) := HBW.out.fact (j := 6) (by omega) HMG.out (by omega) rfl
            have gd6 := grow_cell d6
            have c7 : wr.cell? ⟨Bx, 7, none⟩ = some (.int .i64 x.no) := by simp [World.cell?, HBX.out, Ft.enc]
            have gc7 := grow_cell c7
            have d7 : wr.cell? ⟨w.heap.size + 1 + 1, m * 8 + 7, none⟩ = some (.int .i64 g.no) := HBW.out.fact (j := 7) (by omega) HMG.out (by omega) rfl
            have gd7 := grow_cell d7
            by_cases ht : (1024 : Int) < x.to
            all_goals
              obtain ⟨q, hq⟩ : ∃ q, cmpF x g = q := ⟨_, rfl⟩
              have HQ := Lib.hid hq
              have HCP : Hid (∀ W, Calls Try.prog 36 #[.agg #[.int .i64 x.k, .int .i64 x.s, .int .i64 x.o, .int .i64 x.v, .int .i64 x.fr, .int .i64 x.to, .int .i64 x.kn, .int .i64 x.no], .agg #[.int .i64 g.k, .int .i64 g.s, .int .i64 g.o, .int .i64 g.v, .int .i64 g.fr, .int .i64 g.to, .int .i64 g.kn, .int .i64 g.no]] W fun e w' => e = .returned (.int .i64 q) ∧ Ext W w') := Lib.hid fun W => hq ▸ compare_any x g W
              clear hq
              gi_wp2
              refine wpIn_round_rel_all (fun i => if i = 9 then some (spV (.int .i64 q)) else none) (by kernel_rfl) (by kernel_rfl) (by kernel_rfl) ?_
              repeat (first
                | (refine wpRel_quick ?_ ?_ ?_ ?_
                   · rfl
                   · rfl
                   · first | exact noEnter rfl | (intro f args W W'; go_simp)
                   intro K hK
                   go_big_quiet_op
                   go_big_quiet_on)
                | (refine wpRel_skip ?_ ?_
                   · rfl
                   simp only [Act.put, List.setIfInBounds_toArray, List.set_cons_zero, List.set_cons_succ]))
              refine wpRel_rich _ rfl rfl (fun W hW => ?_) (fun v W3 hW3 hv => ?_)
              · have hc := HCP.out W
                go_simp
                refine Calls.mono hc ?_
                rintro e w' ⟨rfl, h⟩
                exact ⟨_, rfl, rfl, by first | exact h | (subst h; exact Ext.refl _)⟩
              obtain rfl := hv
              clear hW3
              simp only [Act.put, List.setIfInBounds_toArray, List.set_cons_zero, List.set_cons_succ]
              repeat (first
                | (refine wpRel_quick ?_ ?_ ?_ ?_
                   · rfl
                   · rfl
                   · first | exact noEnter rfl | (intro f args W W'; go_simp)
                   intro K hK
                   go_big_quiet_op
                   go_big_quiet_on)
                | (refine wpRel_skip ?_ ?_
                   · rfl
                   simp only [Act.put, List.setIfInBounds_toArray, List.set_cons_zero, List.set_cons_succ]))
              refine wpRel_nil ?_
              intro W3 hW3
              by_cases hq0 : q ≥ 0
              · have HE3 := Lib.hid ((Ext.refl wr).drew.trans hW3.1)
                have HBX3 : Hid (W3.heap[Bx]? = some (.cells x.enc.toArray 28 (0, 0))) := Lib.hid ((HE3.out.block Bx (Array.getElem?_eq_some_iff.1 HBX.out).1).trans HBX.out)
                have HB3 := Lib.hid (HBW.out.ext HE3.out)
                clear hW3
                clear gu0 u0 x5 HCP c0 c1 c2 c3 c4 c5 c6 c7 d0 d1 d2 d3 d4 d5 d6 d7 gc0 gc1 gc2 gc3 gc4 gc5 gc6 gc7 gd0 gd1 gd2 gd3 gd4 gd5 gd6 gd7
                have a0 : W3.cell? ⟨Bx, 0, none⟩ = some (.int .i64 x.k) := by simp [World.cell?, HBX3.out, Ft.enc]
                have a1 : W3.cell? ⟨Bx, 1, none⟩ = some (.int .i64 x.s) := by simp [World.cell?, HBX3.out, Ft.enc]
                have a2 : W3.cell? ⟨Bx, 2, none⟩ = some (.int .i64 x.o) := by simp [World.cell?, HBX3.out, Ft.enc]
                have a3 : W3.cell? ⟨Bx, 3, none⟩ = some (.int .i64 x.v) := by simp [World.cell?, HBX3.out, Ft.enc]
                have a4 : W3.cell? ⟨Bx, 4, none⟩ = some (.int .i64 x.fr) := by simp [World.cell?, HBX3.out, Ft.enc]
                have a5 : W3.cell? ⟨Bx, 5, none⟩ = some (.int .i64 x.to) := by simp [World.cell?, HBX3.out, Ft.enc]
                have a6 : W3.cell? ⟨Bx, 6, none⟩ = some (.int .i64 x.kn) := by simp [World.cell?, HBX3.out, Ft.enc]
                have a7 : W3.cell? ⟨Bx, 7, none⟩ = some (.int .i64 x.no) := by simp [World.cell?, HBX3.out, Ft.enc]
                have HOLD := Lib.hid (fun (j : Nat) (hj : j < 8) => HB3.out.old (m := m) (j := j) (by omega) hj)
                have HY8 := Lib.hid (fun (W4 : World) (e : W4 = put8 W3 (w.heap.size + 1 + 1) (m * 8) x) => show (∃ v, W4.cell? ⟨w.heap.size + 1 + 1 + 1, m, none⟩ = some v) ∧ W4.frozen? ⟨w.heap.size + 1 + 1 + 1, m, none⟩ = false from e ▸ ⟨⟨_, (World.cell?_of_block (put8_far W3 (m * 8) x (show w.heap.size + 1 + 1 + 1 ≠ w.heap.size + 1 + 1 by omega))).trans (HB3.out.bool (m := m) (by omega))⟩, (HB3.out.c8.keep (put8_far W3 (m * 8) x (show w.heap.size + 1 + 1 + 1 ≠ w.heap.size + 1 + 1 by omega))).fz m⟩)
                gi_wp2_with (refine wpListIn_put8 rfl 28 _ _ rfl (w.heap.size + 1 + 1) (m * 8) x rfl rfl HOLD.out HB3.out.c7.fz (by kernel_rfl) ?_; intro W4 hW4; obtain ⟨⟨v8, y8⟩, z8⟩ := HY8.out W4 hW4; have HW4 := Lib.hid hW4; clear hW4)
                have HBN := Lib.hid (HB3.out.put (bs' := midB (bsF pre) x (m + 1)) (by omega) (m := m) (by omega) x (fun t _ => midB_put (by have := HM0.out; have := HM1.out; omega) (by omega) (by rw [hbm]; exact decide_eq_true (by rw [HQ.out]; exact hq0)) t))
                obtain rfl := HW4.out
                clear y8 z8 a0 a1 a2 a3 a4 a5 a6 a7
                go_roundw
                case rel =>
                  refine ⟨m + 1, by go_num, by have := HM1.out; omega, .inr (by have := HLT.out; omega), ?_, ?_, ?_, ?_, _, _, HBN.out⟩
                  · exact (putB_heap W3 m x (by have := HS0.out; omega) (by have := HS0.out; omega)).trans HBX3.out
                  · exact (HKO.out.trans HE3.out.keepsOthers).trans (putB_keeps W3 _ _ m x)
                  · exact putB_kpY (HKP.out.trans (HE3.out.kpY (by have := HKP.out.1; have := h6.1; omega))) m x
                  · exact putB_ext (HE.out.trans HE3.out) (by omega) (by omega) m x
                case measure => simp [intOf] <;> (have := HLT.out; omega)
              · have HE3 := Lib.hid ((Ext.refl wr).drew.trans hW3.1)
                clear hW3
                clear gu0 u0 x5 HCP c0 c1 c2 c3 c4 c5 c6 c7 d0 d1 d2 d3 d4 d5 d6 d7 gc0 gc1 gc2 gc3 gc4 gc5 gc6 gc7 gd0 gd1 gd2 gd3 gd4 gd5 gd6 gd7
                gi_wp2
                go_roundw
                case rel =>
                  refine ⟨m + 1, by go_num, by have := HM1.out; omega, .inr (by have := HLT.out; omega), (HE3.out.block Bx (Array.getElem?_eq_some_iff.1 HBX.out).1).trans HBX.out, HKO.out.trans HE3.out.keepsOthers, HKP.out.trans (HE3.out.kpY (by have := HKP.out.1; have := h6.1; omega)), HE.out.trans HE3.out, _, _, (HBW.out.ext HE3.out).congr fun t _ => midB_stay (by rw [hbm]; exact decide_eq_false (by rw [HQ.out]; exact hq0)) t⟩
                case measure => simp [intOf] <;> (have := HLT.out; omega)
        · by_cases ht : (1024 : Int) < x.to
          all_goals
            have hl1 : ¬ (m : Int) < min x.to 1024 := hlt
            have hl2 : (1024 : Int) < x.to → ¬ (m : Int) < 1024 := fun _ => by omega
            have hl3 : ¬ (1024 : Int) < x.to → ¬ (m : Int) < x.to := fun _ => by omega
            have HEND := Lib.hid hlt
            clear hl1 hlt
            first | (replace hl2 := hl2 ht; clear hl3) | (replace hl3 := hl3 ht; clear hl2)
            gi_wp2
            refine ⟨HKO.out.from _, HKP.out, ⟨vs', us', HBW.out.congr fun t ht => ?_⟩, h6.trans HKP.out, HE.out⟩
            rw [bsF_snoc, midB_end (by have := HEND.out; omega) ht]
  case done =>
    rintro D xs W hD rfl ⟨vs, us, h1, h6, h7⟩ hK
    have hR : RowM W (w.heap.size + 1) 91 (bsF (l.filter (selF k kn))) 0 z91 := ⟨(h6.2 _ (by have := HS0.out; omega) (by omega) (by omega)).trans hb6, by simp [z91], fun i hi => absurd hi (by omega)⟩
    have HH := Lib.hid (And.intro h1 (And.intro h7 (And.intro hK hR)))
    have HD := Lib.hid hD
    clear h1 h6 h7 hK hR hb6 hb7 hb8 hH5 hX5 h4 hD hseq hwf
    gi_wp2
    gi_loopw [46] (fun iv wr => ∃ m : Nat, iv = .int .i64 m ∧ m ≤ 1024 ∧ BW wr (w.heap.size + 1 + 1) (w.heap.size + 1 + 1 + 1) (bsF (l.filter (selF k kn))) vs us ∧ Ext w wr ∧ wr.heap[D]? = some (.deferred (some [])) ∧ ∃ cs, RowM wr (w.heap.size + 1) 91 (bsF (l.filter (selF k kn))) m cs) (fun iv _ => 1024 - (intOf iv).toNat)
    case atStart => exact ⟨0, rfl, by omega, HH.out.1, HH.out.2.1, HH.out.2.2.1, _, HH.out.2.2.2⟩
    case round =>
      obtain ⟨m, rfl, hm, h1, h7, hK, cs, hR⟩ := hrel
      have HBW := Lib.hid h1
      have HE := Lib.hid h7
      have HK := Lib.hid hK
      have HR := Lib.hid hR
      clear h1 h7 hK hR
      by_cases hlt : m < 1024
      · have hl1 : (m : Int) < 1024 := by omega
        have hl3 : (0 : Int) ≤ m := by omega
        have u0 := HBW.out.bool hlt
        obtain ⟨v6, y6⟩ := HR.out.cell hlt
        have z6 := HR.out.fz m
        cases hbm : bsF (l.filter (selF k kn)) m with
        | none =>
          rw [hbm] at u0
          dsimp only [Option.isSome] at u0
          gi_wp2
          have HN := Lib.hid (HR.out.put hlt (n := -1) (by rw [hbm]; rfl))
          clear u0 y6 z6
          go_roundw
          case rel => exact ⟨m + 1, by go_num, by omega, HBW.out.keep (heap_far (show w.heap.size + 1 + 1 ≠ w.heap.size + 1 by omega)) (heap_far (show w.heap.size + 1 + 1 + 1 ≠ w.heap.size + 1 by omega)), HE.out.setCell (show w.heap.size ≤ w.heap.size + 1 by omega) _, (heap_far (show D ≠ w.heap.size + 1 by have := HD.out; have := HS0.out; omega)).trans HK.out, _, HN.out⟩
          case measure => simp [intOf] <;> omega
        | some g =>
          rw [hbm] at u0
          dsimp only [Option.isSome] at u0
          have g3 := HBW.out.fact (j := 3) hlt hbm (by omega) rfl
          by_cases hv : (-1 : Int) > g.v
          · gi_wp2
            have HN := Lib.hid ((HR.out.put0 hlt (.int .i64 (-1))).put hlt (n := -1) (by rw [hbm]; show _ = max g.v (-1); omega))
            clear u0 y6 z6 g3
            go_roundw
            case rel => exact ⟨m + 1, by go_num, by omega, HBW.out.keep ((heap_far (show w.heap.size + 1 + 1 ≠ w.heap.size + 1 by omega)).trans (heap_far (show w.heap.size + 1 + 1 ≠ w.heap.size + 1 by omega))) ((heap_far (show w.heap.size + 1 + 1 + 1 ≠ w.heap.size + 1 by omega)).trans (heap_far (show w.heap.size + 1 + 1 + 1 ≠ w.heap.size + 1 by omega))), (HE.out.setCell (show w.heap.size ≤ w.heap.size + 1 by omega) _).setCell (show w.heap.size ≤ w.heap.size + 1 by omega) _, ((heap_far (show D ≠ w.heap.size + 1 by have := HD.out; have := HS0.out; omega)).trans (heap_far (show D ≠ w.heap.size + 1 by have := HD.out; have := HS0.out; omega))).trans HK.out, _, HN.out⟩
            case measure => simp [intOf] <;> omega
          · gi_wp2
            have HN := Lib.hid ((HR.out.put0 hlt (.int .i64 (-1))).put hlt (n := g.v) (by rw [hbm]; show _ = max g.v (-1); omega))
            clear u0 y6 z6 g3
            go_roundw
            case rel => exact ⟨m + 1, by go_num, by omega, HBW.out.keep ((heap_far (show w.heap.size + 1 + 1 ≠ w.heap.size + 1 by omega)).trans (heap_far (show w.heap.size + 1 + 1 ≠ w.heap.size + 1 by omega))) ((heap_far (show w.heap.size + 1 + 1 + 1 ≠ w.heap.size + 1 by omega)).trans (heap_far (show w.heap.size + 1 + 1 + 1 ≠ w.heap.size + 1 by omega))), (HE.out.setCell (show w.heap.size ≤ w.heap.size + 1 by omega) _).setCell (show w.heap.size ≤ w.heap.size + 1 by omega) _, ((heap_far (show D ≠ w.heap.size + 1 by have := HD.out; have := HS0.out; omega)).trans (heap_far (show D ≠ w.heap.size + 1 by have := HD.out; have := HS0.out; omega))).trans HK.out, _, HN.out⟩
            case measure => simp [intOf] <;> omega
      · have hl1 : ¬ (m : Int) < 1024 := by omega
        obtain rfl : m = 1024 := by omega
        have hcs := HR.out.done
        have hhp := HR.out.heap
        have hsz := HR.out.size
        subst hcs
        have HHP := Lib.hid hhp
        have HSZ := Lib.hid hsz
        clear hhp hsz
        gi_wp2_with (first | (refine wpListIn_plain rfl fun K hK2 => operWide_of (wp_load_row 91 _ rfl (w.heap.size + 1) rfl 91 (vrow l k kn).toArray (0, 0) _ HHP.out Try.underlying91 rfl (by rw [HSZ.out]; kernel_rfl) (hK2 _ _ ?_))) | (refine wpListIn_plain rfl fun K hK2 => operWide_of (wp_store_row 91 _ _ rfl (w.heap.size + 1) (vrow l k kn).toArray rfl rfl 91 (vrow l k kn).toArray HHP.out (by rw [HSZ.out]; kernel_rfl) rfl (vrow_one l k kn) (hK2 _ _ ?_))))
        rw [setRow_id HHP.out]
        have hKd := HK.out
        refine ⟨by simp, .inl ⟨_, _, rfl, run_takeDeferred hKd, ?_⟩⟩
        have hF : Ext w (wr.putObj D (.deferred none)) := Below.trans HE.out (belowK_b (w := w) (Nat.le_refl _) wr D _ _ (by have := HD.out; have := HS0.out; omega) hKd rfl rfl)
        have hg : (wr.putObj D (.deferred none)).heap[w.heap.size + 1]? = some (.cells (vrow l k kn).toArray 91 (0, 0)) := (World.putObj_heap_other (by have := HD.out; have := HS0.out; omega)).trans HHP.out
        exact ⟨_, results_cell_row rfl _ _ (w.heap.size + 1) 91 (vrow l k kn).toArray (0, 0) _ rfl hg Try.underlying91 rfl (by rw [HSZ.out]; kernel_rfl), rfl, hF⟩
  case stop =>
    rintro D c pre W _ _ h _
    exact h.elim
end Go.Proofs.Ytbniicobkhiniaa
