/- Names: Resolve, the copies. -/
import Derived.Test.YtimigpfoflilcaaYW
namespace Go.Sz
open Go.RowKit
theorem RepC.ones {w : World} {ao : Option Addr} {cap : Nat} {l : List Cr} (h : RepC w ao cap l) : ∃ rows, SL w 16 ao cap rows ∧ rows.length = l.length ∧ (∀ r ∈ rows, r.length = 16) ∧ (∀ (i : Nat) (x : Cr) (q : List Value), l[i]? = some x → rows[i]? = some q → ∃ a n b m, q = x.cells a n b m) ∧ ∀ r ∈ rows, ∀ u ∈ r, u.oneCell' = true := by
  obtain ⟨rows, h1, h2, h3⟩ := h
  have hc : ∀ (i : Nat) (x : Cr) (q : List Value), l[i]? = some x → rows[i]? = some q → ∃ a n b m, q = x.cells a n b m := fun i x q hx hq => by
    obtain ⟨u, v, rfl, hu, hv, -⟩ := h3 i x q hx hq
    obtain ⟨a, n, rfl, -, -⟩ := hu.out
    obtain ⟨b, m, rfl, -, -⟩ := hv.out
    exact ⟨a, n, b, m, rfl⟩
  refine ⟨rows, h1, h2, h1.wid, hc, fun r hr u hu => ?_⟩
  obtain ⟨i, hi⟩ := List.getElem?_of_mem hr
  have hil := (List.getElem?_eq_some_iff.1 hi).1
  obtain ⟨q, hq⟩ : ∃ q, l[i]? = some q := ⟨_, List.getElem?_eq_getElem (by rw [← h2]; exact hil)⟩
  obtain ⟨_, _, _, _, rfl⟩ := hc i q r hq hi
  simp only [Cr.cells, List.mem_cons, List.not_mem_nil, or_false] at hu
  rcases hu with rfl | rfl | rfl | rfl | rfl | rfl | rfl | rfl | rfl | rfl | rfl | rfl | rfl | rfl | rfl | rfl <;> rfl
theorem RepG.ones {w : World} {ao : Option Addr} {cap : Nat} {l : List Pg} (h : RepG w ao cap l) : ∃ rows, SL w 7 ao cap rows ∧ rows.length = l.length ∧ (∀ (i : Nat) (p : Pg) (r : List Value), l[i]? = some p → rows[i]? = some r → ∃ a n, r = p.cells a n ∧ RepQ w a n p.rq) ∧ ∀ r ∈ rows, ∀ u ∈ r, u.oneCell' = true := by
  obtain ⟨rows, h1, h2, h3⟩ := h
  refine ⟨rows, h1, h2, h3, fun r hr u hu => ?_⟩
  obtain ⟨i, hi⟩ := List.getElem?_of_mem hr
  have hil := (List.getElem?_eq_some_iff.1 hi).1
  obtain ⟨q, hq⟩ : ∃ q, l[i]? = some q := ⟨_, List.getElem?_eq_getElem (by rw [← h2]; exact hil)⟩
  obtain ⟨_, _, rfl, -⟩ := h3 i q r hq hi
  simp only [Pg.cells, List.mem_cons, List.not_mem_nil, or_false] at hu
  rcases hu with rfl | rfl | rfl | rfl | rfl | rfl | rfl <;> rfl
theorem prows_ones (l : List Pr) : ∀ r ∈ l.map Pr.cells, ∀ u ∈ r, u.oneCell' = true := by
  intro r hr u hu
  obtain ⟨p, _, rfl⟩ := List.mem_map.1 hr
  simp only [Pr.cells, List.mem_cons, List.not_mem_nil, or_false] at hu
  rcases hu with rfl | rfl | rfl | rfl <;> rfl
/-- where an owned row lies -/
theorem own_in {A : World} {D e size n k m : Nat} {ao : Option Addr} {xs : List Value} (h : A.ownsRow D e size (.slice ao m k) n xs) : ∀ z, ao = some z → D ≤ z.block ∧ z.block < A.heap.size := by
  intro z hz
  rcases h.2 with ⟨h, _⟩ | ⟨g, cap, cur, h1, h2, h3, h4⟩
  · cases h; cases hz
  · cases h1
    cases hz
    exact ⟨h2, (Array.getElem?_eq_some_iff.1 h3).1⟩
theorem own_keep {A B : World} {D e size n k m : Nat} {ao : Option Addr} {xs : List Value} (h : A.ownsRow D e size (.slice ao m k) n xs) (hk : ∀ z, ao = some z → ∀ o : Obj, A.heap[z.block]? = some o → o.isCells = true → B.heap[z.block]? = some o) : B.ownsRow D e size (.slice ao m k) n xs := by
  refine ⟨h.1, ?_⟩
  rcases h.2 with h | ⟨g, cap, cur, h1, h2, h3, h4⟩
  · exact .inl h
  · cases h1
    exact .inr ⟨g, _, cur, rfl, h2, hk _ rfl _ h3 rfl, h4⟩
theorem own_mono {A : World} {D E e size n : Nat} {v : Value} {xs : List Value} (h : A.ownsRow D e size v n xs) (hE : E ≤ D) : A.ownsRow E e size v n xs := by
  refine ⟨h.1, ?_⟩
  rcases h.2 with h | ⟨g, cap, cur, h1, h2, h3⟩
  · exact .inl h
  · exact .inr ⟨g, cap, cur, h1, Nat.le_trans hE h2, h3⟩
/-- a row stays where another one's block is written -/
theorem own_kpB {A B : World} {D e size n k m : Nat} {ao bo : Option Addr} {xs : List Value} (h : A.ownsRow D e size (.slice ao m k) n xs) (hk : KpB bo A B) (hne : ∀ z y, ao = some z → bo = some y → z.block ≠ y.block) : B.ownsRow D e size (.slice ao m k) n xs :=
  own_keep h fun z hz _ h1 h2 => hk.2 _ _ (fun y hy => hne z y hz hy) h1 h2
end Go.Sz
namespace Go.Proofs.Ytimigpfoflilcaa
open Go.RowKit Go.Sz
noncomputable def rgR (k : Nat) : Code := match tlR k with
  | .seq a _ => a
  | _ => .skip
/-- a part of the code that goes on -/
def gonQ (F : Act → World → Prop) : Exit → Act → World → Prop
  | .normal, a, W => F a W
  | _, _, _ => False
set_option maxRecDepth 1000000 in
set_option maxHeartbeats 6400000 in
theorem reg24 (c : Cat) (hk : c.Ok) (d : Adr) (w W : World) (hX : RepX w d c) (hV : ResV W w.heap.size 29 32 (c.cells d)) (hE : Ext w W) (rowsC rowsG : List (List Value)) (hsC : SL w 16 d.a0 d.k0 rowsC) (hlC : rowsC.length = c.cs.length) (hoC : ∀ r ∈ rowsC, ∀ u ∈ r, u.oneCell' = true)
    (hsG : SL w 7 d.a2 d.k2 rowsG) (hlG : rowsG.length = c.pg.length) (hoG : ∀ r ∈ rowsG, ∀ u ∈ r, u.oneCell' = true) (Y : Nat) (hY : Row W Y 29 (c.cells d)) (hwY : w.heap.size + 3 ≤ Y) (x0 x4 x5 x6 x7 x8 x9 x11 x12 x13 x14 x15 x16 x17 x18 x19 x20 x21 x22 x23 x24 x25 x26 x27 x28 x29 x30 x31 x32 x33 x34 x35 x36 x37 x38 x39 x40 x41 x42 x43 x44 x45 x46 x47 x48 x49 x50 x51 x52 x53 x54 x55 x56 x57 x58 x59 x60 x61 x62 x63 x64 x65 x66 x67 x68 x69 x70 x71 x72 x73 x74 x75 x76 x77 x78 x79 x80 x81 x82 x83 x84 x85 x86 x87 x88 x89 x90 x91 x92 x93 x94 x95 x96 x97 x98 x99 x100 x101 x102 x103 x104 x105 x106 x107 x108 x109 x110 x111 x112 x113 x114 x115 x116 x117 x118 x119 x120 x121 x122 x123 x124 x125 x126 x127 x128 x129 x130 x131 x132 x133 x134 x135 x136 x137 x138 x139 x140 x141 x142 x143 x144 x145 x146 x147 x148 x149 x150 x151 x152 x153 x154 x155 x156 x157 x158 x159 x160 x161 x162 x163 x164 x165 x166 x167 x168 x169 x170 x171 x172 x173 x174 x175 x176 x177 x178 x179 x180 x181 x182 x183 x184 x185 x186 x187 x188 x189 x190 x191 x192 x193 x194 x195 x196 x197 x198 x199 x200 x201 x202 x203 x204 x205 x206 x207 x208 x209 x210 x211 x212 x213 x214 x215 x216 x217 x218 x219 x220 x221 x222 x223 : Value) :
    Code.wp Try.prog (rgR 12) (gonQ fun a V => ∃ y81 y82 y83 y84 y85 y86 y87 y88 y89 y90 y91 y92 : Value, a = { tmps := (x0 :: (.pointer (some ⟨w.heap.size, 0, none⟩)) :: (.pointer (some ⟨w.heap.size + 1, 0, none⟩)) :: (.pointer (some ⟨w.heap.size + 2, 0, none⟩)) :: x4 :: x5 :: x6 :: x7 :: x8 :: x9 :: (.pointer (some ⟨Y, 0, none⟩)) :: x11 :: x12 :: x13 :: x14 :: x15 :: x16 :: x17 :: x18 :: x19 :: x20 :: x21 :: x22 :: x23 :: x24 :: x25 :: x26 :: x27 :: x28 :: x29 :: x30 :: x31 :: x32 :: x33 :: x34 :: x35 :: x36 :: x37 :: x38 :: x39 :: x40 :: x41 :: x42 :: x43 :: x44 :: x45 :: x46 :: x47 :: x48 :: x49 :: x50 :: x51 :: x52 :: x53 :: x54 :: x55 :: x56 :: x57 :: x58 :: x59 :: x60 :: x61 :: x62 :: x63 :: x64 :: x65 :: x66 :: x67 :: x68 :: x69 :: x70 :: x71 :: x72 :: x73 :: x74 :: x75 :: x76 :: x77 :: x78 :: x79 :: x80 :: y81 :: y82 :: y83 :: y84 :: y85 :: y86 :: y87 :: y88 :: y89 :: y90 :: y91 :: y92 :: x93 :: x94 :: x95 :: x96 :: x97 :: x98 :: x99 :: x100 :: x101 :: x102 :: x103 :: x104 :: x105 :: x106 :: x107 :: x108 :: x109 :: x110 :: x111 :: x112 :: x113 :: x114 :: x115 :: x116 :: x117 :: x118 :: x119 :: x120 :: x121 :: x122 :: x123 :: x124 :: x125 :: x126 :: x127 :: x128 :: x129 :: x130 :: x131 :: x132 :: x133 :: x134 :: x135 :: x136 :: x137 :: x138 :: x139 :: x140 :: x141 :: x142 :: x143 :: x144 :: x145 :: x146 :: x147 :: x148 :: x149 :: x150 :: x151 :: x152 :: x153 :: x154 :: x155 :: x156 :: x157 :: x158 :: x159 :: x160 :: x161 :: x162 :: x163 :: x164 :: x165 :: x166 :: x167 :: x168 :: x169 :: x170 :: x171 :: x172 :: x173 :: x174 :: x175 :: x176 :: x177 :: x178 :: x179 :: x180 :: x181 :: x182 :: x183 :: x184 :: x185 :: x186 :: x187 :: x188 :: x189 :: x190 :: x191 :: x192 :: x193 :: x194 :: x195 :: x196 :: x197 :: x198 :: x199 :: x200 :: x201 :: x202 :: x203 :: x204 :: x205 :: x206 :: x207 :: x208 :: x209 :: x210 :: x211 :: x212 :: x213 :: x214 :: x215 :: x216 :: x217 :: x218 :: x219 :: x220 :: x221 :: x222 :: x223 :: []).toArray, defers := dfR w.heap.size } ∧ ResV V w.heap.size 29 32 (c.cells d) ∧ Ext w V ∧ W.heap.size ≤ V.heap.size ∧ ∃ aC kC aS kS aP kP, Row V Y 29 [.slice aC c.cs.length kC, .slice aS c.sm.length kS, .slice aP c.pg.length kP, .slice d.a3 c.kl.length d.k3, .slice d.a4 c.fe.length d.k4, .slice d.a5 c.ho.length d.k5, .slice d.a6 c.cu.length d.k6] ∧
      V.ownsRow W.heap.size 41 16 (.slice aC c.cs.length kC) c.cs.length rowsC.flatten ∧ V.ownsRow W.heap.size 51 4 (.slice aS c.sm.length kS) c.sm.length (c.sm.map Pr.cells).flatten ∧ V.ownsRow W.heap.size 62 7 (.slice aP c.pg.length kP) c.pg.length rowsG.flatten ∧
      (∀ z y, aC = some z → aS = some y → z.block ≠ y.block) ∧ (∀ z y, aC = some z → aP = some y → z.block ≠ y.block) ∧ (∀ z y, aS = some z → aP = some y → z.block ≠ y.block)) { tmps := (x0 :: (.pointer (some ⟨w.heap.size, 0, none⟩)) :: (.pointer (some ⟨w.heap.size + 1, 0, none⟩)) :: (.pointer (some ⟨w.heap.size + 2, 0, none⟩)) :: x4 :: x5 :: x6 :: x7 :: x8 :: x9 :: (.pointer (some ⟨Y, 0, none⟩)) :: x11 :: x12 :: x13 :: x14 :: x15 :: x16 :: x17 :: x18 :: x19 :: x20 :: x21 :: x22 :: x23 :: x24 :: x25 :: x26 :: x27 :: x28 :: x29 :: x30 :: x31 :: x32 :: x33 :: x34 :: x35 :: x36 :: x37 :: x38 :: x39 :: x40 :: x41 :: x42 :: x43 :: x44 :: x45 :: x46 :: x47 :: x48 :: x49 :: x50 :: x51 :: x52 :: x53 :: x54 :: x55 :: x56 :: x57 :: x58 :: x59 :: x60 :: x61 :: x62 :: x63 :: x64 :: x65 :: x66 :: x67 :: x68 :: x69 :: x70 :: x71 :: x72 :: x73 :: x74 :: x75 :: x76 :: x77 :: x78 :: x79 :: x80 :: x81 :: x82 :: x83 :: x84 :: x85 :: x86 :: x87 :: x88 :: x89 :: x90 :: x91 :: x92 :: x93 :: x94 :: x95 :: x96 :: x97 :: x98 :: x99 :: x100 :: x101 :: x102 :: x103 :: x104 :: x105 :: x106 :: x107 :: x108 :: x109 :: x110 :: x111 :: x112 :: x113 :: x114 :: x115 :: x116 :: x117 :: x118 :: x119 :: x120 :: x121 :: x122 :: x123 :: x124 :: x125 :: x126 :: x127 :: x128 :: x129 :: x130 :: x131 :: x132 :: x133 :: x134 :: x135 :: x136 :: x137 :: x138 :: x139 :: x140 :: x141 :: x142 :: x143 :: x144 :: x145 :: x146 :: x147 :: x148 :: x149 :: x150 :: x151 :: x152 :: x153 :: x154 :: x155 :: x156 :: x157 :: x158 :: x159 :: x160 :: x161 :: x162 :: x163 :: x164 :: x165 :: x166 :: x167 :: x168 :: x169 :: x170 :: x171 :: x172 :: x173 :: x174 :: x175 :: x176 :: x177 :: x178 :: x179 :: x180 :: x181 :: x182 :: x183 :: x184 :: x185 :: x186 :: x187 :: x188 :: x189 :: x190 :: x191 :: x192 :: x193 :: x194 :: x195 :: x196 :: x197 :: x198 :: x199 :: x200 :: x201 :: x202 :: x203 :: x204 :: x205 :: x206 :: x207 :: x208 :: x209 :: x210 :: x211 :: x212 :: x213 :: x214 :: x215 :: x216 :: x217 :: x218 :: x219 :: x220 :: x221 :: x222 :: x223 :: []).toArray, defers := dfR w.heap.size } W := by
  conv => arg 2; whnf
  have HC := Lib.hid (fun V (hEV : Ext w V) => cloneC_any rowsC d.a0 d.k0 V (hsC.ext hEV) hoC (by rw [hlC]; have := hk.n0; omega))
  have HS := Lib.hid (fun V (hEV : Ext w V) => cloneP_any (c.sm.map Pr.cells) d.a1 d.k1 V (hX.sm.ext hEV) (prows_ones _) (by rw [List.length_map]; have := hk.n1; omega))
  have HP := Lib.hid (fun V (hEV : Ext w V) => cloneG_any rowsG d.a2 d.k2 V (hsG.ext hEV) hoG (by rw [hlG]; have := hk.n2; omega))
  rw [hlC] at HC
  rw [List.length_map] at HS
  rw [hlG] at HP
  have HCELL : Hid (∀ W, (Ext w W ∧ ResV W w.heap.size 29 32 (c.cells d)) → W.cell? ⟨w.heap.size, 0, none⟩ = some (.slice d.a0 c.cs.length d.k0) ∧ W.cell? ⟨w.heap.size, 1, none⟩ = some (.slice d.a1 c.sm.length d.k1) ∧ W.cell? ⟨w.heap.size, 2, none⟩ = some (.slice d.a2 c.pg.length d.k2)) := Lib.hid fun W h => ⟨h.2.1.cell rfl, h.2.1.cell rfl, h.2.1.cell rfl⟩
  have hHeld0 : Ext w W.drew ∧ ResV W.drew w.heap.size 29 32 (c.cells d) := ⟨hE.trans (Ext.refl _).drew, hV.kpC (Ext.refl _).drew.kpC⟩
  have HY := Lib.hid hY
  have HWY := Lib.hid hwY
  have hyw : Y < W.heap.size := (Array.getElem?_eq_some_iff.1 hY).1
  clear hX hk hV hE hsC hsG hlC hlG hoC hoG hY hwY
  refine wp_region_held_drew (S := fun W => Ext w W ∧ ResV W w.heap.size 29 32 (c.cells d)) (by kernel_rfl) hHeld0 (fun hHeld => ?_)
  clear hHeld0
  refine wpAnyH_take (i := 0) (oi := ?oi1) (v := ?v1) ?hi1 (by kernel_rfl) (by kernel_rfl) (by kernel_rfl) ?hQ1 (Or.inl ⟨?hw1, ?hy1⟩) hHeld ?rest1
  case hi1 =>
    simp only [List.getElem?_toArray, List.getElem?_cons_zero] <;> rfl
  case hQ1 => exact fun _ _ _ h => h
  case hw1 => rfl
  case hy1 =>
    intro wS hSw
    obtain ⟨k0, k1, k2⟩ := HCELL.out wS hSw
    go_simp
    first | done | with_reducible rfl | rfl
  simp only [Act.put, List.setIfInBounds_toArray, List.set_cons_zero, List.set_cons_succ]
  refine wpAnyH_take (i := 1) (oi := ?oi2) (v := ?v2) ?hi2 (by kernel_rfl) (by kernel_rfl) (by kernel_rfl) ?hQ2 (Or.inl ⟨?hw2, ?hy2⟩) hHeld ?rest2
  case hi2 =>
    simp only [List.getElem?_toArray, List.getElem?_cons_succ, List.getElem?_cons_zero] <;> rfl
  case hQ2 => exact fun _ _ _ h => h
  case hw2 => rfl
  case hy2 =>
    intro wS hSw
    obtain ⟨k0, k1, k2⟩ := HCELL.out wS hSw
    go_simp
    first | done | with_reducible rfl | rfl
  simp only [Act.put, List.setIfInBounds_toArray, List.set_cons_zero, List.set_cons_succ]
  refine wpAnyH_take (i := 3) (oi := ?oi3) (v := ?v3) ?hi3 (by kernel_rfl) (by kernel_rfl) (by kernel_rfl) ?hQ3 (Or.inl ⟨?hw3, ?hy3⟩) hHeld ?rest3
  case hi3 =>
    simp only [List.getElem?_toArray, List.getElem?_cons_succ, List.getElem?_cons_zero] <;> rfl
  case hQ3 => exact fun _ _ _ h => h
  case hw3 => rfl
  case hy3 =>
    intro wS hSw
    obtain ⟨k0, k1, k2⟩ := HCELL.out wS hSw
    go_simp
    first | done | with_reducible rfl | rfl
  simp only [Act.put, List.setIfInBounds_toArray, List.set_cons_zero, List.set_cons_succ]
  refine wpAnyH_take (i := 4) (oi := ?oi4) (v := ?v4) ?hi4 (by kernel_rfl) (by kernel_rfl) (by kernel_rfl) ?hQ4 (Or.inl ⟨?hw4, ?hy4⟩) hHeld ?rest4
  case hi4 =>
    simp only [List.getElem?_toArray, List.getElem?_cons_succ, List.getElem?_cons_zero] <;> rfl
  case hQ4 => exact fun _ _ _ h => h
  case hw4 => rfl
  case hy4 =>
    intro wS hSw
    obtain ⟨k0, k1, k2⟩ := HCELL.out wS hSw
    go_simp
    first | done | with_reducible rfl | rfl
  simp only [Act.put, List.setIfInBounds_toArray, List.set_cons_zero, List.set_cons_succ]
  refine wpAnyH_take (i := 6) (oi := ?oi5) (v := ?v5) ?hi5 (by kernel_rfl) (by kernel_rfl) (by kernel_rfl) ?hQ5 (Or.inl ⟨?hw5, ?hy5⟩) hHeld ?rest5
  case hi5 =>
    simp only [List.getElem?_toArray, List.getElem?_cons_succ, List.getElem?_cons_zero] <;> rfl
  case hQ5 => exact fun _ _ _ h => h
  case hw5 => rfl
  case hy5 =>
    intro wS hSw
    obtain ⟨k0, k1, k2⟩ := HCELL.out wS hSw
    go_simp
    first | done | with_reducible rfl | rfl
  simp only [Act.put, List.setIfInBounds_toArray, List.set_cons_zero, List.set_cons_succ]
  refine wpAnyH_take (i := 7) (oi := ?oi6) (v := ?v6) ?hi6 (by kernel_rfl) (by kernel_rfl) (by kernel_rfl) ?hQ6 (Or.inl ⟨?hw6, ?hy6⟩) hHeld ?rest6
  case hi6 =>
    simp only [List.getElem?_toArray, List.getElem?_cons_succ, List.getElem?_cons_zero] <;> rfl
  case hQ6 => exact fun _ _ _ h => h
  case hw6 => rfl
  case hy6 =>
    intro wS hSw
    obtain ⟨k0, k1, k2⟩ := HCELL.out wS hSw
    go_simp
    first | done | with_reducible rfl | rfl
  simp only [Act.put, List.setIfInBounds_toArray, List.set_cons_zero, List.set_cons_succ]
  refine wpAnyH_ready (rs := [2]) (by kernel_rfl) (by simp) ?_
  refine AllReadyH.cons rfl (fun K hK => ?_) AllReadyH.nil
  go_simp
  go_at_call 44
  refine (HC.out _ hHeld.1).mono ?_
  rintro e w5 ⟨v, rfl, hof, hE5⟩
  obtain ⟨aC, kC, rfl⟩ := ownsRow_slice hof
  refine hK.out _ _ ⟨hHeld.1.trans hE5, hHeld.2.kpC hE5.kpC⟩ (fun hHeld => ?_)
  clear hK K
  have HOC := Lib.hid hof
  have HE5 := Lib.hid ((Ext.refl _).drew.trans hE5)
  clear hof hE5
  try simp only [Act.put]
  refine wpAnyH_take (i := 9) (oi := ?oi7) (v := ?v7) ?hi7 (by kernel_rfl) (by kernel_rfl) (by kernel_rfl) ?hQ7 (Or.inl ⟨?hw7, ?hy7⟩) hHeld ?rest7
  case hi7 =>
    simp only [List.getElem?_toArray, List.getElem?_cons_succ, List.getElem?_cons_zero] <;> rfl
  case hQ7 => exact fun _ _ _ h => h
  case hw7 => rfl
  case hy7 =>
    intro wS hSw
    obtain ⟨k0, k1, k2⟩ := HCELL.out wS hSw
    go_simp
    first | done | with_reducible rfl | rfl
  simp only [Act.put, List.setIfInBounds_toArray, List.set_cons_zero, List.set_cons_succ]
  refine wpAnyH_ready (rs := [5]) (by kernel_rfl) (by simp) ?_
  refine AllReadyH.cons rfl (fun K hK => ?_) AllReadyH.nil
  go_simp
  go_at_call 45
  refine (HS.out _ hHeld.1).mono ?_
  rintro e w6 ⟨v, rfl, hof, hE5⟩
  obtain ⟨aS, kS, rfl⟩ := ownsRow_slice hof
  refine hK.out _ _ ⟨hHeld.1.trans hE5, hHeld.2.kpC hE5.kpC⟩ (fun hHeld => ?_)
  clear hK K
  have HOS := Lib.hid hof
  have HE6 := Lib.hid hE5
  clear hof hE5
  try simp only [Act.put]
  refine wpAnyH_ready (rs := [8]) (by kernel_rfl) (by simp) ?_
  refine AllReadyH.cons rfl (fun K hK => ?_) AllReadyH.nil
  go_simp
  go_at_call 46
  refine (HP.out _ hHeld.1).mono ?_
  rintro e w7 ⟨v, rfl, hof, hE5⟩
  obtain ⟨aP, kP, rfl⟩ := ownsRow_slice hof
  refine hK.out _ _ ⟨hHeld.1.trans hE5, hHeld.2.kpC hE5.kpC⟩ (fun hHeld => ?_)
  clear hK K
  have HOP := Lib.hid hof
  have HE7 := Lib.hid hE5
  clear hof hE5
  try simp only [Act.put]
  have HYR0 := Lib.hid (HY.out.kpC (HE5.out.trans (HE6.out.trans HE7.out)).kpC)
  have hy0 := HYR0.out.cell (j := 0) rfl
  have z0 := HYR0.out.froz 0
  refine wpAnyH_ready (rs := [10]) (by kernel_rfl) (by simp) ?_
  refine AllReadyH.cons rfl (fun K hK => ?_) AllReadyH.nil
  go_simp
  have hgr := setCell_grown w7 Y 0 (.slice aC c.cs.length kC)
  have hRow := HYR0.out.put (o := 0) (.slice aC c.cs.length kC) (show 0 + 1 ≤ 7 from by decide)
  refine hK.out _ _ ⟨Below.grown hHeld.1 hgr hHeld.1.size (fun x hx => by cases hx; have := HWY.out; omega), hHeld.2.kpE (grown_kpE hgr) (by have := HWY.out; omega)⟩ (fun hHeld => ?_)
  clear hK K hy0 z0
  replace hRow : Row (w7.setCell ⟨Y, 0, none⟩ (.slice aC c.cs.length kC)) Y 29 [.slice aC c.cs.length kC, .slice d.a1 c.sm.length d.k1, .slice d.a2 c.pg.length d.k2, .slice d.a3 c.kl.length d.k3, .slice d.a4 c.fe.length d.k4, .slice d.a5 c.ho.length d.k5, .slice d.a6 c.cu.length d.k6] := hRow
  have HYR1 := Lib.hid hRow
  have HG0 := Lib.hid (grown_kpE hgr)
  clear hgr hRow
  generalize w7.setCell ⟨Y, 0, none⟩ (.slice aC c.cs.length kC) = w8 at *
  try simp only [Act.put]
  refine wpAnyH_take (i := 11) (oi := ?oi8) (v := ?v8) ?hi8 (by kernel_rfl) (by kernel_rfl) (by kernel_rfl) ?hQ8 (Or.inl ⟨?hw8, ?hy8⟩) hHeld ?rest8
  case hi8 =>
    simp only [List.getElem?_toArray, List.getElem?_cons_succ, List.getElem?_cons_zero] <;> rfl
  case hQ8 => exact fun _ _ _ h => h
  case hw8 => rfl
  case hy8 =>
    intro wS hSw
    obtain ⟨k0, k1, k2⟩ := HCELL.out wS hSw
    go_simp
    first | done | with_reducible rfl | rfl
  simp only [Act.put, List.setIfInBounds_toArray, List.set_cons_zero, List.set_cons_succ]
  have hy1 := HYR1.out.cell (j := 1) rfl
  have z1 := HYR1.out.froz 1
  refine wpAnyH_ready (rs := [12]) (by kernel_rfl) (by simp) ?_
  refine AllReadyH.cons rfl (fun K hK => ?_) AllReadyH.nil
  go_simp
  have hgr := setCell_grown w8 Y 1 (.slice aS c.sm.length kS)
  have hRow := HYR1.out.put (o := 1) (.slice aS c.sm.length kS) (show 1 + 1 ≤ 7 from by decide)
  refine hK.out _ _ ⟨Below.grown hHeld.1 hgr hHeld.1.size (fun x hx => by cases hx; have := HWY.out; omega), hHeld.2.kpE (grown_kpE hgr) (by have := HWY.out; omega)⟩ (fun hHeld => ?_)
  clear hK K hy1 z1
  replace hRow : Row (w8.setCell ⟨Y, 1, none⟩ (.slice aS c.sm.length kS)) Y 29 [.slice aC c.cs.length kC, .slice aS c.sm.length kS, .slice d.a2 c.pg.length d.k2, .slice d.a3 c.kl.length d.k3, .slice d.a4 c.fe.length d.k4, .slice d.a5 c.ho.length d.k5, .slice d.a6 c.cu.length d.k6] := hRow
  have HYR2 := Lib.hid hRow
  have HG1 := Lib.hid (grown_kpE hgr)
  clear hgr hRow
  generalize w8.setCell ⟨Y, 1, none⟩ (.slice aS c.sm.length kS) = w9 at *
  try simp only [Act.put]
  refine wpAnyH_take (i := 13) (oi := ?oi9) (v := ?v9) ?hi9 (by kernel_rfl) (by kernel_rfl) (by kernel_rfl) ?hQ9 (Or.inl ⟨?hw9, ?hy9⟩) hHeld ?rest9
  case hi9 =>
    simp only [List.getElem?_toArray, List.getElem?_cons_succ, List.getElem?_cons_zero] <;> rfl
  case hQ9 => exact fun _ _ _ h => h
  case hw9 => rfl
  case hy9 =>
    intro wS hSw
    obtain ⟨k0, k1, k2⟩ := HCELL.out wS hSw
    go_simp
    first | done | with_reducible rfl | rfl
  simp only [Act.put, List.setIfInBounds_toArray, List.set_cons_zero, List.set_cons_succ]
  have hy2 := HYR2.out.cell (j := 2) rfl
  have z2 := HYR2.out.froz 2
  refine wpAnyH_ready (rs := [14]) (by kernel_rfl) (by simp) ?_
  refine AllReadyH.cons rfl (fun K hK => ?_) AllReadyH.nil
  go_simp
  have hgr := setCell_grown w9 Y 2 (.slice aP c.pg.length kP)
  have hRow := HYR2.out.put (o := 2) (.slice aP c.pg.length kP) (show 2 + 1 ≤ 7 from by decide)
  refine hK.out _ _ ⟨Below.grown hHeld.1 hgr hHeld.1.size (fun x hx => by cases hx; have := HWY.out; omega), hHeld.2.kpE (grown_kpE hgr) (by have := HWY.out; omega)⟩ (fun hHeld => ?_)
  clear hK K hy2 z2
  replace hRow : Row (w9.setCell ⟨Y, 2, none⟩ (.slice aP c.pg.length kP)) Y 29 [.slice aC c.cs.length kC, .slice aS c.sm.length kS, .slice aP c.pg.length kP, .slice d.a3 c.kl.length d.k3, .slice d.a4 c.fe.length d.k4, .slice d.a5 c.ho.length d.k5, .slice d.a6 c.cu.length d.k6] := hRow
  have HYR3 := Lib.hid hRow
  have HG2 := Lib.hid (grown_kpE hgr)
  clear hgr hRow
  generalize w9.setCell ⟨Y, 2, none⟩ (.slice aP c.pg.length kP) = w10 at *
  try simp only [Act.put]
  refine wpAnyH_done (by kernel_rfl) ?_ _
  have hkk : KpE Y w7 w10 := (HG0.out.trans HG1.out).trans HG2.out
  have hs5 : W.heap.size ≤ W.drew.heap.size := (Ext.refl W).drew.size
  have hs5' : W.drew.heap.size ≤ w5.heap.size := Nat.le_trans (show W.drew.heap.size ≤ W.heap.size from Nat.le_refl _) HE5.out.size
  have hs6 := HE6.out.size
  have hs7 := HE7.out.size
  have iC := own_in HOC.out
  have iS := own_in HOS.out
  have iP := own_in HOP.out
  have hYd : Y < W.drew.heap.size := Nat.lt_of_lt_of_le hyw hs5
  have oC := own_keep ((own_kpC HOC.out (HE6.out.trans HE7.out).kpC)) (fun z hz o h1 h2 => hkk.2 _ o (by have := (iC z hz).1; omega) h1 h2)
  have oS := own_keep ((own_kpC HOS.out HE7.out.kpC)) (fun z hz o h1 h2 => hkk.2 _ o (by have := (iS z hz).1; omega) h1 h2)
  have oP := own_keep HOP.out (fun z hz o h1 h2 => hkk.2 _ o (by have := (iP z hz).1; omega) h1 h2)
  exact ⟨_, _, _, _, _, _, _, _, _, _, _, _, rfl, hHeld.2, hHeld.1, Nat.le_trans hs5 (Nat.le_trans hs5' (Nat.le_trans hs6 (Nat.le_trans hs7 hkk.1))), aC, kC, aS, kS, aP, kP, HYR3.out, own_mono oC (by omega), own_mono oS (by omega), own_mono oP (by omega),
    fun z y hz hy => by have := iC z hz; have := iS y hy; omega, fun z y hz hy => by have := iC z hz; have := iP y hy; omega, fun z y hz hy => by have := iS z hz; have := iP y hy; omega⟩
end Go.Proofs.Ytimigpfoflilcaa
