/- What an append onto a row of packets leaves of a net: the spare room of the row holds zero packets. And plain facts on what a move does. -/
import Derived.Test.YtdlahgmbilkdcaaNLd
import Derived.Test.YtdlahgmbilkdcaaNMe
namespace Go.Sz
open Go.RowKit
def zc (j : Nat) : Value := if j % 3 = 2 then .slice none 0 0 else .int .i64 0
/-- behind the n packets of the row v lie zero packets -/
def Spare (W : World) (v : Value) (n : Nat) : Prop := ∀ a k c, v = .slice (some a) k c → a.block < W.heap.size ∧ ∀ j u, n * 3 ≤ j → W.cell? ⟨a.block, j, none⟩ = some u → u = zc j
theorem Spare.nil (W : World) (n k c : Nat) : Spare W (.slice none k c) n := fun a k c h => by cases h
theorem Spare.ext {W W' : World} {v : Value} {n : Nat} (h : Spare W v n) (hE : Ext W W') : Spare W' v n := fun a k c hv =>
  let ⟨h1, h2⟩ := h a k c hv
  ⟨Nat.lt_of_lt_of_le h1 hE.size, fun j u hj hc => h2 j u hj (by rw [← Below.cell hE (p := ⟨a.block, j, none⟩) h1]; exact hc)⟩
/-- w' holds what w held, but for the first packet of v's spare room -/
def Zed (w w' : World) (v : Value) (n : Nat) : Prop := ∀ p u, p.spot = none → w.cell? p = some u → w'.cell? p = some u ∨ ∃ a k c, v = .slice (some a) k c ∧ p.block = a.block ∧ n * 3 ≤ p.off ∧ p.off < n * 3 + 3
theorem zeroCells_get {k j : Nat} {u : Value} (h : (Builtin.zeroCells #[.int .i64 0, .int .i64 0, .slice none 0 0] k)[j]? = some u) : u = zc j := by
  unfold Builtin.zeroCells at h
  rw [Array.getElem?_map] at h
  obtain ⟨i, hi, hu⟩ := Option.map_eq_some_iff.1 h
  have hij : i = j := by
    obtain ⟨h1, h2⟩ := Array.getElem?_eq_some_iff.1 hi
    simpa using h2.symm
  subst hij
  have hs : (#[.int .i64 0, .int .i64 0, .slice none 0 0] : Array Value).size = 3 := rfl
  rw [← hu, hs]
  unfold zc
  have h3 : i % 3 = 0 ∨ i % 3 = 1 ∨ i % 3 = 2 := by omega
  rcases h3 with h | h | h <;> simp [h]
section
variable {P : Program}
theorem run_append_Z (w : World) (base : Nat) (t tx ty e : TypeId) (i : TypeInfo) (bytes : Nat) (ht : P.underlying t = some (.slice e)) (hi : P.info? e = some i) (hz : i.zero = some (.agg #[.int .i64 0, .int .i64 0, .slice none 0 0]))
    (hsize : i.size = 3) (hby : i.bytes = bytes)
    (v : Value) (n : Nat) (xs : List Value) (hown : w.ownsRow base e 3 v n xs) (hsp : Spare w v n)
    (sv : Value) (news : List Value) (hs : Src P 3 tx sv 1 news w)
    (h63 : n + 1 ≤ maxLen) (hbytes : (n + 1) * bytes ≤ 140737488355328) (hbase : base ≤ w.heap.size) :
    ∃ v' w', (Builtin.append_ #[t, tx] ty #[v, sv]).run P w = .ok v' w' ∧ w'.ownsRow base e 3 v' (n + 1) (xs ++ news) ∧ Grows w v w' v' ∧ Zed w w' v n ∧ Spare w' v' (n + 1) := by
  have hzs : (Value.agg #[.int .i64 0, .int .i64 0, .slice none 0 0]).cells.size = 3 := rfl
  have hzc : (Value.agg #[.int .i64 0, .int .i64 0, .slice none 0 0]).cells = #[.int .i64 0, .int .i64 0, .slice none 0 0] := rfl
  have hlen : (xs ++ news).length = (n + 1) * 3 := by rw [List.length_append, hown.1, hs.newsLen, Nat.add_mul]
  have hsmall : n + 1 ≤ 9223372036854775807 := by simp only [maxLen] at h63; omega
  obtain ⟨v0, w0, hr0, ho0, hg0⟩ := run_append_src_own (P := P) w base t tx ty e i _ 3 bytes ht hi hz hsize hby hzs v n xs hown sv 1 news hs h63 hbytes hbase
  -- a new block
  have fresh : ∀ (k cap : Nat), Zed w (w.drew.alloc (.cells ((xs ++ news).toArray ++ Builtin.zeroCells (Value.agg #[.int .i64 0, .int .i64 0, .slice none 0 0]).cells k) e)) v n ∧
      Spare (w.drew.alloc (.cells ((xs ++ news).toArray ++ Builtin.zeroCells (Value.agg #[.int .i64 0, .int .i64 0, .slice none 0 0]).cells k) e)) (.slice (some ⟨w.heap.size, 0, none⟩) (n + 1) cap) (n + 1) := by
    intro k cap
    refine ⟨fun p u _ hc => .inl (((Ext.refl w).drew.alloc _).cell hc), fun a k' c' ha => ?_⟩
    cases ha
    refine ⟨by simp, fun j u hj hc => ?_⟩
    have hcell : (w.drew.alloc (.cells ((xs ++ news).toArray ++ Builtin.zeroCells (Value.agg #[.int .i64 0, .int .i64 0, .slice none 0 0]).cells k) e)).cell? ⟨w.heap.size, j, none⟩ = ((xs ++ news).toArray ++ Builtin.zeroCells (Value.agg #[.int .i64 0, .int .i64 0, .slice none 0 0]).cells k)[j]? := by
      simp only [World.cell?]
      erw [heap_alloc_new w.drew _]
      simp
    rw [hcell, Array.getElem?_append_right (by simp only [List.size_toArray]; omega)] at hc
    have := zeroCells_get hc
    rw [this]
    simp only [List.size_toArray, hlen]
    unfold zc
    rw [show (j - (n + 1) * 3) % 3 = j % 3 by omega]
  rcases hown.2 with ⟨rfl, rfl⟩ | ⟨g, cap, cur, rfl, hbg, hg, hnc, hcm, hcs, htake⟩
  · have hx : xs = [] := List.eq_nil_of_length_eq_zero (by simpa using hown.1)
    subst hx
    have hr := run_append_grow_src (P := P) w t tx ty e i _ ht hi hz none 0 0 [] (run_firstCells_none w.drew i.size 0 0 0) sv 1 news (by rw [hsize]; exact hs) (by omega) (by omega)
      (by rw [nextslicecap_zero (by omega)]; rw [hby]; omega)
    rw [hr0] at hr
    cases hr
    obtain ⟨h1, h2⟩ := fresh (grownCap w (0 + 1) 0 e - (0 + 1)) (grownCap w (0 + 1) 0 e)
    exact ⟨_, _, hr0, ho0, hg0, h1, h2⟩
  · by_cases hroom : n + 1 ≤ cap
    · have hfit : n * 3 + news.length ≤ cur.size := by rw [hs.newsLen, hcs, ← Nat.add_mul]; exact Nat.mul_le_mul_right _ hroom
      have hst := run_storeCells_at P g (n * 3) e news 0 cur w hg (by simpa using hfit) hs.one
      simp only [Nat.add_zero] at hst
      have hr : (Builtin.append_ #[t, tx] ty #[.slice (some ⟨g, 0, none⟩) n cap, sv]).run P w =
          .ok (.slice (some ⟨g, 0, none⟩) (n + 1) cap) (w.setRow g (cur.toList.take (n * 3) ++ news ++ cur.toList.drop (n * 3 + news.length)).toArray) := by
        rcases hs.kind with ⟨e', hk⟩ | hk <;> simp [Builtin.append_, run_underlying ht, run_underlying hk, sizeOf, typeInfo, hi, hsize, hs.len, hroom, hs.cells, Addr.add_lit, hst]
      rw [hr0] at hr
      cases hr
      have hnl : news.length = 3 := by rw [hs.newsLen]
      have hold : ∀ j, w.cell? ⟨g, j, none⟩ = cur[j]? := fun j => by unfold World.cell?; rw [hg]; simp
      have hnew : ∀ j, j < n * 3 ∨ n * 3 + 3 ≤ j → (w.setRow g (cur.toList.take (n * 3) ++ news ++ cur.toList.drop (n * 3 + news.length)).toArray).cell? ⟨g, j, none⟩ = cur[j]? := fun j hj => by
        rw [cell_setRow_same w g j cur _ e _ hg]
        have hlt : (cur.toList.take (n * 3)).length = n * 3 := by simp; omega
        rcases hj with hj | hj
        · simp only [List.getElem?_toArray]
          rw [List.getElem?_append_left (by rw [List.length_append, hlt]; omega), List.getElem?_append_left (by omega), List.getElem?_take, if_pos hj]
          simp
        · simp only [List.getElem?_toArray]
          rw [List.getElem?_append_right (by rw [List.length_append, hlt]; omega), List.length_append, hlt, List.getElem?_drop, show n * 3 + news.length + (j - (n * 3 + news.length)) = j by omega]
          simp
      refine ⟨_, _, hr0, ho0, hg0, fun p u hp hc => ?_, fun a k c ha => ?_⟩
      · obtain ⟨b, o, sp⟩ := p
        simp only at hp
        subst hp
        by_cases hb : b = g
        · subst hb
          by_cases ho : n * 3 ≤ o ∧ o < n * 3 + 3
          · exact .inr ⟨_, _, _, rfl, rfl, ho.1, ho.2⟩
          · rw [hnew o (by omega), ← hold o]
            exact .inl hc
        · rw [cell_setRow_other _ _ _ _ hb]
          exact .inl hc
      · cases ha
        obtain ⟨h1, h2⟩ := hsp _ _ _ rfl
        refine ⟨Nat.lt_of_lt_of_le h1 hg0.by_.size, fun j u hj hc => h2 j u (by omega) ?_⟩
        simp only at hc ⊢
        rw [hnew j (by omega)] at hc
        rw [hold]
        exact hc
    · have holds : ∀ j u, xs[j]? = some u → w.cell? ((⟨g, 0, none⟩ : Addr).add j) = some u := hown.cells (g := g) rfl
      have hr := run_append_grow_src (P := P) w t tx ty e i _ ht hi hz (some ⟨g, 0, none⟩) n cap xs (run_firstCells_some w.drew i.size n ⟨g, 0, none⟩ n cap xs (by rw [hsize]; exact hown.1) (by simpa using holds)) sv 1 news (by rw [hsize]; exact hs) (by omega) (by omega) (by rw [hby]; exact growslice_fits (by omega) hbytes)
      rw [hr0] at hr
      cases hr
      obtain ⟨h1, h2⟩ := fresh (grownCap w (n + 1) cap e - (n + 1)) (grownCap w (n + 1) cap e)
      exact ⟨_, _, hr0, ho0, hg0, h1, h2⟩
theorem wpList_append_Z {ops : Array Oper} {rest : List Oper} {o : Oper} {a : Act} {w : World} {Q : Exit → Act → World → Prop} (hgd : o.guard = none) (s x : Operand) (t tx : TypeId)
    (ho : o.op = .call { callee := .builtin .append, args := #[s, x], argTypes := #[t, tx] })
    (base : Nat) (e : TypeId) (i : TypeInfo) (bytes : Nat) (ht : P.underlying t = some (.slice e)) (hi : P.info? e = some i) (hz : i.zero = some (.agg #[.int .i64 0, .int .i64 0, .slice none 0 0]))
    (hsize : i.size = 3) (hby : i.bytes = bytes)
    (v : Value) (n : Nat) (xs : List Value) (hv : a.eval s = v) (hown : w.ownsRow base e 3 v n xs) (hsp : Spare w v n)
    (sv : Value) (news : List Value) (hx : a.eval x = sv) (hs : Src P 3 tx sv 1 news w)
    (h63 : n + 1 ≤ maxLen) (hbytes : (n + 1) * bytes ≤ 140737488355328) (hbase : base ≤ w.heap.size)
    (h : ∀ v' w', w'.ownsRow base e 3 v' (n + 1) (xs ++ news) → Grows w v w' v' → Zed w w' v n → Spare w' v' (n + 1) → wpList P ops Q rest (a.put o.dst v') w') : wpList P ops Q (o :: rest) a w :=
  wpList_plain hgd fun _ hK => by
    obtain ⟨v', w', hr, h2, h3, h4, h5⟩ := run_append_Z (P := P) w base t tx o.type e i bytes ht hi hz hsize hby v n xs hown hsp sv news hs h63 hbytes hbase
    unfold Oper.wp execOp
    simp only [ho, resolve, invoke, builtin, Sem.run_bind, Sem.run_pure, Result.andThen_ok, List.map_toArray, List.map_cons, List.map_nil, hv, hx, hr]
    exact hK _ _ (h v' w' h2 h3 h4 h5)
end
/-- every cell that a net is read from -/
theorem RepN.move2 {W W' : World} {cs : List Value} {n : Nw} (h : RepN W cs n) (Z : Nat → Nat → Prop)
    (hk : ∀ b o v, W.cell? ⟨b, o, none⟩ = some v → ¬ Z b o → W'.cell? ⟨b, o, none⟩ = some v)
    (hq : ∀ (b s j : Nat) (x : Pk) ao c, j < 3 → Z b (s + j) → x ∈ n.q → W.cell? ⟨b, s, none⟩ = some (.int .i64 x.f) → W.cell? ⟨b, s + 1, none⟩ = some (.int .i64 x.t) → W.cell? ⟨b, s + 2, none⟩ = some (.slice ao x.d.length c) → False)
    (ha : ∀ (b s j : Nat) (x : Int × Int), j < 2 → Z b (s + j) → x ∈ n.a → W.cell? ⟨b, s, none⟩ = some (.int .i64 x.1) → W.cell? ⟨b, s + 1, none⟩ = some (.int .i64 x.2) → False)
    (hb : ∀ (b s : Nat) (u : Int), Z b s → W.cell? ⟨b, s, none⟩ ≠ some (.int .u8 u)) : RepN W' cs n := by
  obtain ⟨ao, cap, bo, cap', rows, rfl, ⟨hs, hl, hel⟩, ⟨hsa, hra⟩⟩ := h
  refine ⟨ao, cap, bo, cap', rows, rfl, ⟨⟨hs.le, hs.max, hs.nil, hs.wid, fun i j r v hr hv => ?_⟩, hl, fun i r p hr hp => ?_⟩, ⟨⟨hsa.le, hsa.max, hsa.nil, hsa.wid, fun i j r v hr hv => ?_⟩, hra⟩⟩
  · obtain ⟨b, o, e, hc⟩ := hs.cells i j r v hr hv
    refine ⟨b, o, e, hk _ _ _ hc fun hZ => ?_⟩
    have hi : i < n.q.length := by have := (List.getElem?_eq_some_iff.1 hr).1; omega
    obtain ⟨ao', c', hrow, _⟩ := hel i r n.q[i] hr (List.getElem?_eq_getElem hi)
    subst hrow
    have c0 := hs.cells i 0 _ _ hr rfl
    have c1 := hs.cells i 1 _ _ hr rfl
    have c2 := hs.cells i 2 _ _ hr rfl
    rw [e] at c0 c1 c2
    obtain ⟨_, _, e0, c0⟩ := c0
    obtain ⟨_, _, e1, c1⟩ := c1
    obtain ⟨_, _, e2, c2⟩ := c2
    cases e0; cases e1; cases e2
    have hj : j < 3 := by have := (List.getElem?_eq_some_iff.1 hv).1; simpa using this
    exact hq b (o + i * 3) j n.q[i] _ _ hj hZ (List.getElem_mem hi) (by simpa using c0) (by simpa using c1) (by simpa using c2)
  · obtain ⟨ao', c', hrow, h1, h2, hsd⟩ := hel i r p hr hp
    refine ⟨ao', c', hrow, h1, h2, ⟨hsd.le, hsd.max, hsd.nil, hsd.wid, fun i j r v hr hv => ?_⟩⟩
    obtain ⟨b, o, e, hc⟩ := hsd.cells i j r v hr hv
    refine ⟨b, o, e, hk _ _ _ hc fun hZ => ?_⟩
    simp only [br] at hr
    rw [List.getElem?_map] at hr
    obtain ⟨u, hu, hr⟩ := Option.map_eq_some_iff.1 hr
    subst hr
    have : v = .int .u8 u.toNat := by
      match j, hv with
      | 0, hv => simpa using hv.symm
      | j + 1, hv => simp at hv
    rw [this] at hc
    exact hb _ _ _ hZ hc
  · obtain ⟨b, o, e, hc⟩ := hsa.cells i j r v hr hv
    refine ⟨b, o, e, hk _ _ _ hc fun hZ => ?_⟩
    have hi : i < n.a.length := by have := (List.getElem?_eq_some_iff.1 hr).1; rw [pr_length] at this; exact this
    have hrow : r = [.int .i64 n.a[i].1, .int .i64 n.a[i].2] := by
      simp only [pr] at hr
      rw [List.getElem?_map, List.getElem?_eq_getElem hi] at hr
      simpa using hr.symm
    subst hrow
    have c0 := hsa.cells i 0 _ _ hr rfl
    have c1 := hsa.cells i 1 _ _ hr rfl
    rw [e] at c0 c1
    obtain ⟨_, _, e0, c0⟩ := c0
    obtain ⟨_, _, e1, c1⟩ := c1
    cases e0; cases e1
    have hj : j < 2 := by have := (List.getElem?_eq_some_iff.1 hv).1; simpa using this
    exact ha b (o + i * 2) j n.a[i] hj hZ (List.getElem_mem hi) (by simpa using c0) (by simpa using c1)
/-- what the cells of such a row are -/
theorem row_cells {W : World} {D e n : Nat} {v : Value} {rws : List (List Value)} (hown : W.ownsRow D e 3 v n rws.flatten) (hr : ∀ r ∈ rws, ∃ f t x, r = [.int .i64 f, .int .i64 t, x]) (hx : ∀ r ∈ rws, ∀ f t x, r = [Value.int .i64 f, .int .i64 t, x] → ∃ a k c, x = .slice a k c) (hn : rws.length = n) (hsp : Spare W v n)
    {a : Addr} {k c : Nat} (hv : v = .slice (some a) k c) (j : Nat) (u : Value) (hu : W.cell? ⟨a.block, j, none⟩ = some u) : (j % 3 = 2 → ∃ a k c, u = .slice a k c) ∧ (j % 3 ≠ 2 → ∃ z, u = .int .i64 z) := by
  by_cases hj : n * 3 ≤ j
  · have := (hsp a k c hv).2 j u hj hu
    subst this
    unfold zc
    exact ⟨fun h => by rw [if_pos h]; exact ⟨_, _, _, rfl⟩, fun h => by rw [if_neg h]; exact ⟨_, rfl⟩⟩
  · obtain ⟨ao, cap, hvs, hs, _⟩ := SL.of_own hown (fun r h => by obtain ⟨f, t, x, rfl⟩ := hr r h; rfl) hn
    rw [hv] at hvs
    cases hvs
    have hq : j / 3 < rws.length := by omega
    obtain ⟨f, t, x, hrow⟩ := hr _ (List.getElem_mem hq)
    obtain ⟨a', k', c', rfl⟩ := hx _ (List.getElem_mem hq) f t x hrow
    have h0 : rws[j / 3]? = some [.int .i64 f, .int .i64 t, .slice a' k' c'] := by rw [List.getElem?_eq_getElem hq, hrow]
    have hcell : ∀ i y, [Value.int .i64 f, .int .i64 t, .slice a' k' c'][i]? = some y → W.cell? ⟨a.block, j / 3 * 3 + i, none⟩ = some y := fun i y hy => by
      obtain ⟨b, o, e1, h1⟩ := hs.cells (j / 3) i _ y h0 hy
      cases e1
      rcases hown.2 with ⟨h, _⟩ | ⟨g, cap', cur, h, _⟩
      · rw [hv] at h; cases h
      · rw [hv] at h; cases h
        simpa using h1
    have h3 : j % 3 = 0 ∨ j % 3 = 1 ∨ j % 3 = 2 := by omega
    have hd : j / 3 * 3 + j % 3 = j := by omega
    rcases h3 with h | h | h
    · have := hcell 0 _ rfl
      rw [h] at hd
      rw [hd, hu] at this
      cases this
      exact ⟨fun h' => by omega, fun _ => ⟨_, rfl⟩⟩
    · have := hcell 1 _ rfl
      rw [h] at hd
      rw [hd, hu] at this
      cases this
      exact ⟨fun h' => by omega, fun _ => ⟨_, rfl⟩⟩
    · have := hcell 2 _ rfl
      rw [h] at hd
      rw [hd, hu] at this
      cases this
      exact ⟨fun _ => ⟨_, _, _, rfl⟩, fun h' => absurd h h'⟩
/-- a net is read as before behind such an append -/
theorem RepN.zed {W W' : World} {cs : List Value} {n : Nw} (h : RepN W cs n) (hq : ∀ x ∈ n.q, x.f ≠ x.t) (ha : ∀ x ∈ n.a, x.1 ≠ x.2) {v : Value} {m : Nat} (hz : Zed W W' v m) (hsp : Spare W v m)
    (hc : ∀ a k c, v = .slice (some a) k c → ∀ j u, W.cell? ⟨a.block, j, none⟩ = some u → (j % 3 = 2 → ∃ a k c, u = .slice a k c) ∧ (j % 3 ≠ 2 → ∃ z, u = .int .i64 z)) : RepN W' cs n := by
  have hzero : ∀ b o u, (∃ a k c, v = .slice (some a) k c ∧ b = a.block ∧ m * 3 ≤ o ∧ o < m * 3 + 3) → W.cell? ⟨b, o, none⟩ = some u → u = zc o := fun b o u ⟨a, k, c, h1, h2, h3, _⟩ hu => by
    subst h2
    exact (hsp a k c h1).2 o u h3 hu
  refine h.move2 (fun b o => ∃ a k c, v = .slice (some a) k c ∧ b = a.block ∧ m * 3 ≤ o ∧ o < m * 3 + 3) (fun b o u hu hZ => ?_) (fun b s j x ao c hj hZ hx g0 g1 g2 => ?_) (fun b s j x hj hZ hx g0 g1 => ?_) (fun b s u hZ hu => ?_)
  · rcases hz ⟨b, o, none⟩ u rfl hu with h | h
    · exact h
    · exact absurd h hZ
  · obtain ⟨a, k, c', hv, rfl, h3, h4⟩ := hZ
    have t0 : s % 3 ≠ 2 := fun h => by obtain ⟨_, _, _, h⟩ := (hc a k c' hv _ _ g0).1 h; cases h
    have t2 : (s + 2) % 3 = 2 := Classical.byContradiction fun h => by obtain ⟨_, h⟩ := (hc a k c' hv _ _ g2).2 h; cases h
    have hs0 : s = m * 3 := by omega
    subst hs0
    have z0 := hzero _ _ _ ⟨a, k, c', hv, rfl, Nat.le_refl _, by omega⟩ g0
    have z1 := hzero _ _ _ ⟨a, k, c', hv, rfl, by omega, by omega⟩ g1
    unfold zc at z0 z1
    rw [if_neg (by omega)] at z0 z1
    simp at z0 z1
    exact hq x hx (by omega)
  · obtain ⟨a, k, c', hv, rfl, h3, h4⟩ := hZ
    have t0 : s % 3 ≠ 2 := fun h => by obtain ⟨_, _, _, h⟩ := (hc a k c' hv _ _ g0).1 h; cases h
    have t1 : (s + 1) % 3 ≠ 2 := fun h => by obtain ⟨_, _, _, h⟩ := (hc a k c' hv _ _ g1).1 h; cases h
    have hs0 : s = m * 3 := by omega
    subst hs0
    have z0 := hzero _ _ _ ⟨a, k, c', hv, rfl, Nat.le_refl _, by omega⟩ g0
    have z1 := hzero _ _ _ ⟨a, k, c', hv, rfl, by omega, by omega⟩ g1
    unfold zc at z0 z1
    rw [if_neg (by omega)] at z0 z1
    simp at z0 z1
    exact ha x hx (by omega)
  · have := hzero _ _ _ hZ hu
    unfold zc at this
    split at this <;> cases this
theorem RepP.zed {W W' : World} {cs : List Value} {p : Pk} (h : RepP W cs p) {v : Value} {m : Nat} (hz : Zed W W' v m) (hsp : Spare W v m) : RepP W' cs p := by
  refine h.move fun q x hq => ?_
  by_cases hs : q.spot = none
  · rcases hz q _ hs hq with h | ⟨a, k, c, hv, hb, h3, _⟩
    · exact h
    · obtain ⟨b, o, sp⟩ := q
      simp only at hs hb h3
      subst hs
      subst hb
      have := (hsp a k c hv).2 o _ h3 hq
      unfold zc at this
      split at this <;> cases this
  · unfold World.cell? at hq
    exfalso
    split at hq
    · rw [if_pos (Option.isSome_iff_ne_none.2 hs)] at hq; cases hq
    · cases hq
/-! what a move does -/
theorem sendN_err {n : Nw} {p : Pk} (h : (sendN n p).2 ≠ 0) : (sendN n p).1 = ⟨[], []⟩ := by
  unfold sendN at *
  by_cases h1 : okN n = true <;> by_cases h2 : okP p = true <;> by_cases h3 : n.q.length = 4096 <;> simp_all
theorem happens_err {n : Nw} {m : Mv} (h : (happensN n m).2.2 ≠ 0) : (happensN n m).1 = ⟨[], []⟩ := by
  have hl := kind_lt m
  have h6 : m.kind = 0 ∨ m.kind = 1 ∨ m.kind = 2 ∨ m.kind = 3 ∨ m.kind = 4 ∨ m.kind = 5 := by omega
  rcases h6 with hk | hk | hk | hk | hk | hk
  · rw [hapK0 n m hk] at h ⊢; exact sendN_err h
  · rw [hapK1 n m hk] at h ⊢
    simp only [deliverN] at h ⊢
    by_cases ha : askN n (m.at n) = 0
    · rw [if_pos ha] at h; exact absurd rfl h
    · rw [if_neg ha]
  · rw [hapK2 n m hk] at h ⊢
    simp only [loseN] at h ⊢
    rw [if_neg h]
  · rw [hapK3 n m hk] at h ⊢
    simp only [repeatN] at h ⊢
    by_cases ha : askN n (m.at n) = 0
    · rw [if_pos ha] at h ⊢; exact sendN_err h
    · rw [if_neg ha]
  · rw [hapK4 n m hk] at h ⊢
    simp only [cutN] at h ⊢
    by_cases h1 : okN n = true <;> by_cases h2 : okL (min m.x m.y) (max m.x m.y) = true <;> simp_all
  · rw [hapK5 n m hk] at h ⊢
    simp only [cutN] at h ⊢
    by_cases h1 : okN n = true <;> by_cases h2 : okL (min m.x m.y) (max m.x m.y) = true <;> simp_all
/-- what holds of the links, of what was sent, and of the cuts so far -/
structure Inv (n : Nw) (sent : List Pk) (cuts : Nat) : Prop where
  ok : okN n = true
  all : ∀ p ∈ n.q, p ∈ sent
  cut : n.a ≠ [] → 0 < cuts
theorem Inv.zero : Inv ⟨[], []⟩ [] 0 := ⟨okN_nil, by simp, by simp⟩
theorem Inv.more {n : Nw} {sent : List Pk} {cuts : Nat} (h : Inv n sent cuts) (p : Pk) : Inv n (sent ++ [p]) cuts := ⟨h.ok, fun q hq => List.mem_append_left _ (h.all q hq), h.cut⟩
theorem cutQ_mem {n : Nw} {k : Nat} {p : Pk} (h : p ∈ (cutQ n k).q) : p ∈ n.q := by
  simp only [cutQ] at h
  rcases List.mem_append.1 h with h | h
  · exact List.mem_of_mem_take h
  · exact List.mem_of_mem_drop h
theorem Inv.cutQ {n : Nw} {sent : List Pk} {cuts : Nat} (h : Inv n sent cuts) (k : Nat) : Inv (Sz.cutQ n k) sent cuts := ⟨okN_cut k h.ok, fun p hp => h.all p (cutQ_mem hp), h.cut⟩
theorem send_inv {n : Nw} {p : Pk} {sent : List Pk} {cuts : Nat} (h : Inv n sent cuts) (h0 : (sendN n p).2 = 0) (hp : p ∈ sent) : Inv (sendN n p).1 sent cuts ∧ (sendN n p).1 = ⟨n.q ++ [p], n.a⟩ := by
  unfold sendN at *
  by_cases h2 : okP p = true
  · by_cases h3 : n.q.length = 4096
    · simp [h.ok, h2, h3] at h0
    · have hl := okN_len h.ok
      rw [if_pos h.ok, if_pos h2, if_neg h3]
      refine ⟨⟨okN_snoc h.ok h2 (by omega), fun q hq => ?_, h.cut⟩, rfl⟩
      rcases List.mem_append.1 hq with hq | hq
      · exact h.all q hq
      · rw [List.mem_singleton.1 hq]; exact hp
  · simp [h.ok, h2] at h0
theorem hap_inv0 {n : Nw} {m : Mv} {sent : List Pk} {cuts : Nat} (h : Inv n sent cuts) (hk : m.kind = 0) (h0 : (happensN n m).2.2 = 0) : (happensN n m).1 = ⟨n.q ++ [⟨m.x, m.y, [m.b4]⟩], n.a⟩ ∧ Inv (happensN n m).1 (sent ++ [⟨m.x, m.y, [m.b4]⟩]) cuts := by
  rw [hapK0 n m hk] at h0 ⊢
  obtain ⟨h1, h2⟩ := send_inv (h.more ⟨m.x, m.y, [m.b4]⟩) h0 (by simp)
  exact ⟨h2, h1⟩
theorem hap_inv1 {n : Nw} {m : Mv} {sent : List Pk} {cuts : Nat} (h : Inv n sent cuts) (hk : m.kind = 1) (h0 : (happensN n m).2.2 = 0) : Inv (happensN n m).1 sent cuts ∧ ((happensN n m).2.1 ∈ sent ∨ (happensN n m).2.1 = ⟨0, 0, []⟩ ∧ 0 < cuts) := by
  rw [hapK1 n m hk] at h0 ⊢
  simp only [deliverN] at h0 ⊢
  by_cases ha : askN n (m.at n) = 0
  · obtain ⟨_, hi0, hi1⟩ := askN_zero ha
    rw [if_pos ha]
    refine ⟨h.cutQ _, ?_⟩
    simp only
    split
    · rename_i hL
      refine .inr ⟨rfl, h.cut fun he => ?_⟩
      rw [he] at hL
      simp [hasL] at hL
    · refine .inl (h.all _ ?_)
      rw [List.getD_eq_getElem?_getD, List.getElem?_eq_getElem (by omega)]
      exact List.getElem_mem _
  · rw [if_neg ha] at h0; exact absurd h0 ha
theorem hap_inv2 {n : Nw} {m : Mv} {sent : List Pk} {cuts : Nat} (h : Inv n sent cuts) (hk : m.kind = 2) (h0 : (happensN n m).2.2 = 0) : Inv (happensN n m).1 sent cuts := by
  rw [hapK2 n m hk] at h0 ⊢
  simp only [loseN] at h0 ⊢
  rw [if_pos h0]
  exact h.cutQ _
theorem hap_inv3 {n : Nw} {m : Mv} {sent : List Pk} {cuts : Nat} (h : Inv n sent cuts) (hk : m.kind = 3) (h0 : (happensN n m).2.2 = 0) : Inv (happensN n m).1 sent cuts := by
  rw [hapK3 n m hk] at h0 ⊢
  simp only [repeatN] at h0 ⊢
  by_cases ha : askN n (m.at n) = 0
  · obtain ⟨_, hi0, hi1⟩ := askN_zero ha
    rw [if_pos ha] at h0 ⊢
    refine (send_inv h h0 (h.all _ ?_)).1
    rw [List.getD_eq_getElem?_getD, List.getElem?_eq_getElem (by omega)]
    exact List.getElem_mem _
  · rw [if_neg ha] at h0; exact absurd h0 ha
theorem cut_inv {n : Nw} {sent : List Pk} {cuts : Nat} (h : Inv n sent cuts) (x y : Int) (on : Bool) (c' : Nat) (h0 : (cutN n x y on).2 = 0) (hc : on = true → 0 < c') (hc2 : cuts ≤ c') : Inv (cutN n x y on).1 sent c' := by
  unfold cutN at *
  rw [if_pos h.ok] at h0 ⊢
  by_cases h2 : okL (min x y) (max x y) = true
  · rw [if_pos h2] at h0 ⊢
    refine ⟨okN_cutL h.ok _ _ _, h.all, fun hne => ?_⟩
    cases on with
    | true => exact hc rfl
    | false =>
      refine Nat.lt_of_lt_of_le (h.cut fun he => hne ?_) hc2
      simp only [cutL]
      rw [List.filter_eq_nil_iff]
      intro z _
      simp only [isOn, he, hasL, List.any_nil]
      split <;> simp
  · rw [if_neg h2] at h0; cases h0
theorem hap_inv4 {n : Nw} {m : Mv} {sent : List Pk} {cuts : Nat} (h : Inv n sent cuts) (hk : m.kind = 4) (h0 : (happensN n m).2.2 = 0) : Inv (happensN n m).1 sent (cuts + 1) := by
  rw [hapK4 n m hk] at h0 ⊢
  exact cut_inv h _ _ _ _ h0 (fun _ => by omega) (by omega)
theorem hap_inv5 {n : Nw} {m : Mv} {sent : List Pk} {cuts : Nat} (h : Inv n sent cuts) (hk : m.kind = 5) (h0 : (happensN n m).2.2 = 0) : Inv (happensN n m).1 sent cuts := by
  rw [hapK5 n m hk] at h0 ⊢
  exact cut_inv h _ _ _ _ h0 (fun h => by cases h) (by omega)
theorem okN_ne {n : Nw} (h : okN n = true) : (∀ x ∈ n.q, x.f ≠ x.t) ∧ (∀ x ∈ n.a, x.1 ≠ x.2) := ⟨okN_q h, okN_a h⟩
theorem hap_ne {n : Nw} {m : Mv} {sent : List Pk} {cuts : Nat} (h : Inv n sent cuts) : (∀ x ∈ (happensN n m).1.q, x.f ≠ x.t) ∧ (∀ x ∈ (happensN n m).1.a, x.1 ≠ x.2) := by
  by_cases h0 : (happensN n m).2.2 = 0
  · have hl := kind_lt m
    have h6 : m.kind = 0 ∨ m.kind = 1 ∨ m.kind = 2 ∨ m.kind = 3 ∨ m.kind = 4 ∨ m.kind = 5 := by omega
    rcases h6 with hk | hk | hk | hk | hk | hk
    · exact okN_ne (hap_inv0 h hk h0).2.ok
    · exact okN_ne (hap_inv1 h hk h0).1.ok
    · exact okN_ne (hap_inv2 h hk h0).ok
    · exact okN_ne (hap_inv3 h hk h0).ok
    · exact okN_ne (hap_inv4 h hk h0).ok
    · exact okN_ne (hap_inv5 h hk h0).ok
  · rw [happens_err h0]; exact ⟨by simp, by simp⟩
end Go.Sz
