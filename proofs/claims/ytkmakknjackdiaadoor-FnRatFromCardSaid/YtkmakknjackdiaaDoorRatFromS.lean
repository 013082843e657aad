/-
  'RatFrom': the reference's reads just the texts of rationals.
-/
import Derived.Test.YtkmakknjackdiaaDoorRatFrom
import Derived.Test.YtkmakknjackdiaaDoorPlainDig
namespace Go.Proofs.YtkmakknjackdiaaDoor
open Go.RowKit Go.Sort
set_option linter.unusedSimpArgs false
set_option linter.unusedVariables false
attribute [local go_sem ↓] Go.wp_at_zero Go.wp_at_succ

set_option maxHeartbeats 1000000 in
theorem spec_digits (s : List UInt8) (hs : s.length ≤ 281474976710656) (w : World) : Calls Tryd.prog 22 #[.string ⟨s.toArray⟩] w fun e w' => e = .returned (.int .i64 (digX s)) ∧ ∃ m, w' = w.drewN m := by
  by_cases hl : 1 ≤ s.length ∧ s.length ≤ 10
  · have fl : inB (s.length : Int) 1 10 = true := inB_yes (by omega)
    go_enter Tryd.func22, Tryd.ntmps22
    go_wp2_with fail
    refine (in_any _ _ _ _).mono ?_
    rintro e w' ⟨rfl, rfl⟩
    go_wp2_with fail
    go_loopw [3, 4] (fun n i wr => ∃ k m : Nat, k ≤ s.length ∧ (s.take k).all isD = true ∧ i = .int .i64 (k : Int) ∧ n = .int .i64 (valF 0 (s.take k) : Int) ∧ wr = w.drewN m) (fun _ i _ => s.length - (intOf i).toNat)
    case atStart => exact ⟨0, 0, by omega, rfl, rfl, rfl, rfl⟩
    case round =>
      obtain ⟨k, m, hk, ha, rfl, rfl, rfl⟩ := hrel
      by_cases hlt : k < s.length
      · have i1 : (k : Int) < (s.length : Int) := by omega
        have hb := valF_bd (x := s.take k) (by simp; omega) ha
        obtain ⟨v, hv⟩ : ∃ v, valF 0 (s.take k) = v := ⟨_, rfl⟩
        have HV := Lib.hid hv
        rw [hv] at hb
        have hlt' : k < (⟨s.toArray⟩ : ByteArray).size := by show k < s.toArray.size; simpa using hlt
        obtain ⟨c, hB⟩ : ∃ c, (⟨s.toArray⟩ : ByteArray)[k]'hlt' = c := ⟨_, rfl⟩
        have hc2 : s[k] = c := by rw [← hB]; rfl
        have i2 : (0 : Int) ≤ (k : Int) := by omega
        by_cases hd : isD c = true
        · obtain ⟨d1, d2⟩ := (isD_iff c).1 hd
          have z1 : (48 : Int) ≤ (c.toNat : Int) := by omega
          have z2 : (c.toNat : Int) ≤ 57 := by omega
          have z3 : ¬ ((c.toNat : Int) < 48) := by omega
          have z4 : ¬ (57 < (c.toNat : Int)) := by omega
          have HT : Hid (s.take (k + 1) = s.take k ++ [c]) := by show _ = _; rw [List.take_add_one, List.getElem?_eq_getElem hlt, hc2]; rfl
          go_wp2_with fail
          go_roundw
          case rel => exact ⟨k + 1, m, by omega, by rw [HT.out]; simp [ha, hd], by go_num, by rw [HT.out, valF_append, HV.out, valF_cons, valF_nil]; exact congrArg (Value.int .i64) (by omega), rfl⟩
          case measure => simp [intOf]; omega
        · have hd2 : ¬ (48 ≤ c.toNat ∧ c.toNat ≤ 57) := fun h => hd ((isD_iff c).2 h)
          have HX : Hid (digX s = -1) := by
            show _ = _
            unfold digX
            rw [if_neg]
            rintro ⟨_, _, h3⟩
            exact hd (List.all_eq_true.1 h3 c (by rw [← hc2]; exact List.getElem_mem hlt))
          rcases (by omega : c.toNat < 48 ∨ (48 ≤ c.toNat ∧ 57 < c.toNat)) with z | ⟨z, z'⟩
          · have z1 : (c.toNat : Int) < 48 := by omega
            go_wp2_with fail
            go_ret
            exact ⟨ret_int HX.out.symm, m, rfl⟩
          · have z1 : (57 : Int) < (c.toNat : Int) := by omega
            have z3 : ¬ ((c.toNat : Int) < 48) := by omega
            have z4 : (48 : Int) ≤ (c.toNat : Int) := by omega
            go_wp2_with fail
            go_ret
            exact ⟨ret_int HX.out.symm, m, rfl⟩
      · obtain rfl : k = s.length := by omega
        have HX : Hid (digX s = (valF 0 s : Int)) := by show _ = _; unfold digX; rw [if_pos ⟨hl.1, hl.2, by simpa using ha⟩]
        rw [List.take_length]
        clear ha
        go_wp2_with fail
        go_ret
        exact ⟨ret_int HX.out.symm, m, rfl⟩
  · have fl : inB (s.length : Int) 1 10 = false := inB_no (by omega)
    have HX : Hid (digX s = -1) := by show _ = _; unfold digX; rw [if_neg (fun h => hl ⟨h.1, h.2.1⟩)]
    clear hl
    go_enter Tryd.func22, Tryd.ntmps22
    go_wp2_with fail
    refine (in_any _ _ _ _).mono ?_
    rintro e w' ⟨rfl, rfl⟩
    go_wp2
    go_ret
    exact ⟨ret_int HX.out.symm, 0, rfl⟩
theorem ext_l (s : List UInt8) (i j : Nat) : (⟨s.toArray⟩ : ByteArray).extract i j = ⟨((s.drop i).take (j - i)).toArray⟩ := by
  apply ByteArray.ext
  rw [ByteArray.data_extract]
  simp
theorem ret_two {a b c d : ByteArray} (h : a = c) (k : b = d) : Ending.returned (.tuple #[.string a, .string b]) = .returned (.tuple #[.string c, .string d]) := by rw [h, k]
set_option maxHeartbeats 1000000 in
theorem spec_cut (s : List UInt8) (hs : s.length ≤ 281474976710656) (w : World) : Calls Tryd.prog 21 #[.string ⟨s.toArray⟩] w fun e w' => e = .returned (.tuple #[.string ⟨(cutP s).1.toArray⟩, .string ⟨(cutP s).2.toArray⟩]) ∧ ∃ m, w' = w.drewN m := by
  have mixed : Tryd.prog.follows Departure.mixedOrders = true := by kernel_rfl
  go_enter Tryd.func21, Tryd.ntmps21
  go_wp2_with fail
  go_loopw [4] (fun i wr => ∃ k m : Nat, k ≤ s.length ∧ (∀ c ∈ s.take k, c ≠ 47) ∧ i = .int .i64 (k : Int) ∧ wr = w.drewN m) (fun i _ => s.length - (intOf i).toNat)
  case atStart => exact ⟨0, 0, by omega, by simp, rfl, rfl⟩
  case round =>
    obtain ⟨k, m, hk, ha, rfl, rfl⟩ := hrel
    by_cases hlt : k < s.length
    · have i1 : (k : Int) < (s.length : Int) := by omega
      have hlt' : k < (⟨s.toArray⟩ : ByteArray).size := by show k < s.toArray.size; simpa using hlt
      obtain ⟨c, hB⟩ : ∃ c, (⟨s.toArray⟩ : ByteArray)[k]'hlt' = c := ⟨_, rfl⟩
      have hc2 : s[k] = c := by rw [← hB]; rfl
      have i2 : (0 : Int) ≤ (k : Int) := by omega
      have HT : Hid (s.take (k + 1) = s.take k ++ [c]) := by show _ = _; rw [List.take_add_one, List.getElem?_eq_getElem hlt, hc2]; rfl
      by_cases hd : c = 47
      · subst hd
        have c2 : (k : Int) ≤ (s.length : Int) := by omega
        have c3 : (0 : Int) ≤ (k : Int) + 1 := by omega
        have c4 : (k : Int) + 1 ≤ (s.length : Int) := by omega
        have c5 : IntKind.i64.wrap ((k : Int) + 1) = (k : Int) + 1 := IntWalk.i64_in _ (by omega)
        have c6 : ((k : Int) + 1).toNat = k + 1 := by omega
        have HX : Hid (cutP s = (s.take k, s.drop (k + 1))) := by
          show _ = _
          have e : s = s.take k ++ 47 :: s.drop (k + 1) := by
            have := (List.take_append_drop (k + 1) s).symm
            rw [HT.out, List.append_assoc] at this
            exact this
          have := cutP_some (s.take k) (s.drop (k + 1)) ha
          rw [← e] at this
          exact this
        clear ha
        go_wp2_with fail
        go_region_o
        go_wp2
        go_ret2
        exact ⟨ret_two (by rw [HX.out, ext_l]; simp) (by rw [HX.out, ext_l, List.take_of_length_le (by simp)]), m + 1, rfl⟩
      · have hd2 : (c == 47) = false := beq_eq_false_iff_ne.2 hd
        have hd3 : ¬ ((c.toNat : Int) = 47) := by
          intro h
          exact hd (UInt8.toNat_inj.1 (by have : (47 : UInt8).toNat = 47 := rfl; omega))
        go_wp2_with fail
        go_roundw
        case rel => exact ⟨k + 1, m, by omega, by rw [HT.out]; intro x hx; rcases List.mem_append.1 hx with h | h; · exact ha x h
                                                  · rw [List.mem_singleton] at h; subst h; exact hd, by go_num, rfl⟩
        case measure => simp [intOf]; omega
    · obtain rfl : k = s.length := by omega
      rw [List.take_length] at ha
      have HX : Hid (cutP s = (s, [49])) := cutP_none s ha
      clear ha
      go_wp2_with fail
      go_ret2
      exact ⟨ret_two (by rw [HX.out]) (by rw [HX.out]), m, rfl⟩
end Go.Proofs.YtkmakknjackdiaaDoor
