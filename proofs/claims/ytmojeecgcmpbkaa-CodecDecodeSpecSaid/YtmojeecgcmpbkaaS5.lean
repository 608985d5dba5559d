import Derived.Test.YtmojeecgcmpbkaaS4
namespace Go.Sz
open Go.RowKit Go.Proofs.Ytmojeecgcmpbkaa
abbrev sv1 : V := .mk 1 (-3) ⟨#[]⟩ []
abbrev sv0 : V := .mk 3 0 ⟨#[]⟩ [.mk 1 100 ⟨#[]⟩ [], .mk 2 0 ⟨#[97, 98]⟩ []]
theorem sv1_check : checkV sv1 = 0 := by simp [checkV, V.wf, V.dep, ByteArray.size]
theorem sv0_check : checkV sv0 = 0 := by simp [checkV, V.wf, V.wfL, V.dep, V.depL, ByteArray.size]
theorem sv1_enc : sv1.enc = [1, 5] := by
  simp [V.enc, zig, digits_small]
theorem sv0_enc : sv0.enc = [3, 2, 1, 200, 1, 2, 2, 97, 98] := by
  have h : digits 200 = [200, 1] := by rw [digits_big (by omega), digits_small (by omega)]; rfl
  simp [V.enc, V.encL, zig, digits_small, h, bytesOf, ByteArray.size]
theorem sv1_out : encOut sv1 = [1, 5] := by rw [encOut, if_pos sv1_check, sv1_enc]
theorem sv0_out : encOut sv0 = [3, 2, 1, 200, 1, 2, 2, 97, 98] := by rw [encOut, if_pos sv0_check, sv0_enc]
theorem svz_check : checkV (.mk 0 0 ⟨#[]⟩ []) = 1 := by simp [checkV, V.wf]
theorem sv1_ht : sv1.ht ≤ 1000000 := by simp [V.ht, V.htL]
theorem sv0_ht : sv0.ht ≤ 1000000 := by simp [V.ht, V.htL]
theorem sv0_ok : sv0.ok := by simp [V.ok, V.okL, inI64, ByteArray.size]
theorem dec_a : (decOut []).2 = 10 := by simp [decOut, valP, headP]
theorem dec_b : (decOut [1, 128, 0]).2 = 10 := by
  simp [decOut, valP, headP, numP]
theorem dec_c : (decOut [1, 5, 0]).2 = 10 := by
  simp [decOut, valP, headP, numP]
theorem dec_d : (decOut [2, 3, 97]).2 = 10 := by
  simp [decOut, valP, headP, lenP, numP]
end Go.Sz
namespace Go.Proofs.Ytmojeecgcmpbkaa
open Go.RowKit Go.Sz

set_option maxRecDepth 100000 in
set_option maxHeartbeats 1600000 in
theorem sane_any (w : World) : Calls Try.prog 6 #[] w fun e w' => e = .returned (.bool true) ∧ Ext w w' := by
  go_enter Try.func6, Try.ntmps6
  go_wp2_with fail
  refine (int_any (-3) _).mono ?_
  rintro e w1 ⟨rfl, hE1⟩
  go_wp2_with fail
  have HR1 := Lib.hid (rep_leaf w1 (fun _ => False) 1 (-3) ⟨#[]⟩ ⟨by omega, by omega⟩ ⟨by omega, by omega⟩ (by decide))
  refine (encode_sl sv1 sv1_ht _ (fun _ => False) _ HR1.out (by simp) (by rw [sv1_enc]; decide)).mono ?_
  rintro e w2 ⟨ao2, cap2, rfl, hs2, hE2⟩
  rw [sv1_out] at hs2 ⊢
  rw [sv1_check]
  have hX2 := hE1.trans hE2
  have HS2 := Lib.hid hs2
  clear hs2
  go_wp2_with fail
  refine (int_any 100 _).mono ?_
  rintro e w3 ⟨rfl, hE3⟩
  go_wp2_with fail
  refine (text_any ⟨#[97, 98]⟩ _).mono ?_
  rintro e w4 ⟨rfl, hE4⟩
  go_wp2_with fail
  have hX4 := (hX2.trans hE3).trans hE4
  have hs5 := sl_two w4 24 (.int .i64 1) (.int .i64 100) (.string ⟨#[]⟩) (.slice none 0 0) (.int .i64 2) (.int .i64 0) (.string ⟨#[97, 98]⟩) (.slice none 0 0) w4.heap.size rfl
  have HR5 := Lib.hid (rep_two (F := fun b => b = w4.heap.size) hs5 (rep_leaf _ _ 1 100 ⟨#[]⟩ ⟨by omega, by omega⟩ ⟨by omega, by omega⟩ (by decide)) (rep_leaf _ _ 2 0 ⟨#[97, 98]⟩ ⟨by omega, by omega⟩ ⟨by omega, by omega⟩ (by decide)) rfl)
  have hX5 := hX4.alloc (.cells #[.int .i64 1, .int .i64 100, .string ⟨#[]⟩, .slice none 0 0, .int .i64 2, .int .i64 0, .string ⟨#[97, 98]⟩, .slice none 0 0] 24)
  have hA5 := (Ext.refl w4).alloc (.cells #[.int .i64 1, .int .i64 100, .string ⟨#[]⟩, .slice none 0 0, .int .i64 2, .int .i64 0, .string ⟨#[97, 98]⟩, .slice none 0 0] 24)
  have hL5 : w4.heap.size < (w4.alloc (.cells #[.int .i64 1, .int .i64 100, .string ⟨#[]⟩, .slice none 0 0, .int .i64 2, .int .i64 0, .string ⟨#[97, 98]⟩, .slice none 0 0] 24)).heap.size := by simp
  clear hs5
  have hY5 := hE3.trans (hE4.trans hA5)
  generalize (w4.alloc (.cells #[.int .i64 1, .int .i64 100, .string ⟨#[]⟩, .slice none 0 0, .int .i64 2, .int .i64 0, .string ⟨#[97, 98]⟩, .slice none 0 0] 24)) = w5 at *
  refine (list_any _ _ _ _).mono ?_
  rintro e w6 ⟨rfl, hE6⟩
  go_wp2_with fail
  have hA7 := (Ext.refl w6).alloc (.cells #[.int .i64 3, .int .i64 0, .string ⟨#[]⟩, .slice (some ⟨w4.heap.size, 0, none⟩) 2 2] 24)
  have hbx := Box.new w6 (.int .i64 3) (.int .i64 0) (.string ⟨#[]⟩) (.slice (some ⟨w4.heap.size, 0, none⟩) 2 2) 24
  generalize (w6.alloc (.cells #[.int .i64 3, .int .i64 0, .string ⟨#[]⟩, .slice (some ⟨w4.heap.size, 0, none⟩) 2 2] 24)) = w7 at *
  have hX7 := (hX5.trans hE6).trans hA7
  have hZ7 := hE6.trans hA7
  have HR7 := Lib.hid (HR5.out.ext hZ7)
  have hL7 : ∀ b, b = w4.heap.size → b < w7.heap.size := fun b hb => by have := hZ7.size; omega
  refine (encode_sl sv0 sv0_ht _ (fun b => b = w4.heap.size) _ HR7.out hL7 (by rw [sv0_enc]; decide)).mono ?_
  rintro e w8 ⟨ao8, cap8, rfl, hs8, hE8⟩
  rw [sv0_out] at hs8 ⊢
  rw [sv0_check]
  go_wp2_with fail
  have hd8 := decode_any [3, 2, 1, 200, 1, 2, 2, 97, 98] ao8 cap8 w8 hs8 (by decide)
  have HS8 := Lib.hid hs8
  clear hs8
  rw [← sv0_enc, decOut_enc sv0_check sv0_ok, sv0_enc] at hd8
  refine hd8.mono ?_
  clear hd8
  rintro e w9 ⟨cs9, F9, rfl, hR9, hF9, hE9⟩
  obtain ⟨ao9, cap9, rows9, hcs, _⟩ := hR9.open
  obtain ⟨cl⟩ := cs9
  simp only at hcs
  subst hcs
  have HR9 := Lib.hid hR9
  clear hR9
  have hX9 := (hX7.trans hE8).trans hE9
  have hbx9 := hbx.ext (hE8.trans hE9)
  obtain ⟨e0, e1, e2, e3, ez⟩ := hbx9
  have hp0 := fun ob => ((Ext.refl w9).alloc ob).cell e0
  have hp1 := fun ob => ((Ext.refl w9).alloc ob).cell e1
  have hp2 := fun ob => ((Ext.refl w9).alloc ob).cell e2
  have hp3 := fun ob => ((Ext.refl w9).alloc ob).cell e3
  go_wp2_with fail
  have hA10 := (Ext.refl w9).alloc (.cells #[.int .i64 3, .int .i64 0, .string ⟨#[]⟩, .slice ao9 2 cap9] 24)
  have hby := Box.new w9 (.int .i64 3) (.int .i64 0) (.string ⟨#[]⟩) (.slice ao9 2 cap9) 24
  generalize (w9.alloc (.cells #[.int .i64 3, .int .i64 0, .string ⟨#[]⟩, .slice ao9 2 cap9] 24)) = w10 at *
  clear hp0 hp1 hp2 hp3 e0 e1 e2 e3 ez
  have hZ10 := (hE8.trans hE9).trans hA10
  refine (size_any sv0 sv0_ht w10 (fun b => b = w4.heap.size) _ (HR7.out.ext hZ10) (fun b hb => Nat.lt_of_lt_of_le (hL7 b hb) hZ10.size) (by rw [sv0_enc]; decide)).mono ?_
  rintro e w11 ⟨rfl, hE11⟩
  rw [sv0_out, sv0_check]
  have hZ11 := hZ10.trans hE11
  have hX11 := hX7.trans hZ11
  obtain ⟨e0, e1, e2, e3, _⟩ := hbx.ext hZ11
  obtain ⟨g0, g1, g2, g3, _⟩ := hby.ext hE11
  have hcv1 := (HS2.out.ext (hY5.trans (hZ7.trans hZ11))).toStr (P := Try.prog) (bs := [1, 5]) 27 9 5 Try.underlying27 Try.underlying5 Try.underlying9
  have hcv2 := (HS8.out.ext (hE9.trans (hA10.trans hE11))).toStr (P := Try.prog) (bs := [3, 2, 1, 200, 1, 2, 2, 97, 98]) 27 9 5 Try.underlying27 Try.underlying5 Try.underlying9
  have HC := Lib.hid (same_eq _ sv0 (Nat.le_refl _) _ _ w11 _ _ (HR7.out.ext hZ11) (HR9.out.ext (hA10.trans hE11)))
  simp only [List.length_cons, List.length_nil, Nat.zero_add, Nat.reduceAdd] at hcv1 hcv2 ⊢
  go_wp2_with fail
  refine HC.out.mono ?_
  rintro e w12 ⟨rfl, hE12⟩
  go_wp2_with fail
  refine (text_any ⟨#[]⟩ _).mono ?_
  rintro e w13 ⟨rfl, hE13⟩
  go_wp2_with fail
  refine (list_any none 0 0 _).mono ?_
  rintro e w14 ⟨rfl, hE14⟩
  go_wp2_with fail
  refine (same_kind 2 3 0 0 ⟨#[]⟩ ⟨#[]⟩ none none 0 0 0 0 _ (by omega)).mono ?_
  rintro e w15 ⟨rfl, hE15⟩
  have hX15 := (((hX11.trans hE12).trans hE13).trans hE14).trans hE15
  clear hcv1 hcv2 e0 e1 e2 e3 g0 g1 g2 g3 hbx hby hL7
  go_wp2_with fail
  have hX16 := hX15.alloc (.cells #[.string ⟨#[]⟩, .string ⟨#[1, 128, 0]⟩, .string ⟨#[1, 5, 0]⟩, .string ⟨#[2, 3, 97]⟩] 9)
  have hstr : Hid (∀ m : Nat, m < 4 → ∃ s : ByteArray, (w15.alloc (.cells #[.string ⟨#[]⟩, .string ⟨#[1, 128, 0]⟩, .string ⟨#[1, 5, 0]⟩, .string ⟨#[2, 3, 97]⟩] 9)).cell? ⟨w15.heap.size, m, none⟩ = some (.string s) ∧ (decOut (bytesOf s)).2 = 10 ∧ s.size ≤ 10) := Lib.hid fun m hm => by
    match m, hm with
    | 0, _ => exact ⟨⟨#[]⟩, by simp, dec_a, by decide⟩
    | 1, _ => exact ⟨⟨#[1, 128, 0]⟩, by simp, dec_b, by decide⟩
    | 2, _ => exact ⟨⟨#[1, 5, 0]⟩, by simp, dec_c, by decide⟩
    | 3, _ => exact ⟨⟨#[2, 3, 97]⟩, by simp, dec_d, by decide⟩
  generalize (w15.alloc (.cells #[.string ⟨#[]⟩, .string ⟨#[1, 128, 0]⟩, .string ⟨#[1, 5, 0]⟩, .string ⟨#[2, 3, 97]⟩] 9)) = w16 at *
  go_loopw [79] (fun i wr => ∃ m : Nat, i = .int .i64 m ∧ m ≤ 4 ∧ Ext w16 wr) (fun i _ => 4 - (intOf i).toNat)
  case atStart => exact ⟨0, rfl, by omega, Ext.refl _⟩
  case round =>
    obtain ⟨m, rfl, hm, hB⟩ := hrel
    by_cases hlt : m < 4
    · obtain ⟨s, hs0, hs1, hs2⟩ := hstr.out m hlt
      have hs3 := hB.cell hs0
      have hcv := Lib.run_convert_string_bytes (P := Try.prog) wr 9 27 5 s Try.underlying9 Try.underlying27 Try.underlying5
      have HS := Lib.hid (sl_bytesWorld wr 5 s (by omega))
      have HEB := Lib.hid (ext_bytesWorld wr 5 s)
      generalize grownCap wr s.size 0 5 = gc at *
      generalize Lib.bytesWorld wr 5 s = wb at *
      have HD := Lib.hid (decode_any (bytesOf s) (some ⟨wr.heap.size, 0, none⟩) gc wb HS.out (by rw [bytesOf_length]; omega))
      rw [bytesOf_length, hs1] at HD
      go_wp2_with fail
      refine HD.out.mono ?_
      rintro e w17 ⟨cs, Fd, rfl, hRd, _, hE17⟩
      generalize (decOut (bytesOf s)).1 = x at hRd
      obtain ⟨xk, xn, xs, xl⟩ := x
      obtain ⟨ad, capd, rowsd, hcs, _⟩ := hRd.open
      obtain ⟨cl⟩ := cs
      simp only at hcs
      subst hcs
      clear hRd
      go_wp2_with fail
      go_roundw
      case rel => exact ⟨m + 1, by go_num, by omega, hB.trans ((HEB.out.trans hE17).alloc _)⟩
      case measure => simp [intOf] <;> omega
    · have hmn : m = 4 := by omega
      subst hmn
      go_wp2_with fail
      refine (check_any (.mk 0 0 ⟨#[]⟩ []) (by simp [V.ht, V.htL]) wr (fun _ => False) _ (rep_leaf _ _ 0 0 ⟨#[]⟩ ⟨by omega, by omega⟩ ⟨by omega, by omega⟩ (by decide))).mono ?_
      rintro e w17 ⟨rfl, hE17⟩
      rw [svz_check]
      go_wp2_with fail
      go_ret
      exact ⟨rfl, hX16.trans (hB.trans hE17)⟩
end Go.Proofs.Ytmojeecgcmpbkaa
