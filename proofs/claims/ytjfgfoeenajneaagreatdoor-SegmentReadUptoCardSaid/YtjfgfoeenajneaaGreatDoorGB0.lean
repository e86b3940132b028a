/- Which codes may be: the document's and the program's answer; a fault. -/
import Derived.Test.YtjfgfoeenajneaaGreatDoorGA2
namespace Go.Proofs.YtjfgfoeenajneaaGreatDoor.Sg
open Go.RowKit

set_option maxHeartbeats 4000000 in
theorem refused15_any (n : Nat) (w : World) (hn : n < 256) : Calls Tryz.prog 21 #[.int .u8 (n : Int)] w fun e w' => e = .returned (.int .i64 (refM n : Nat)) ∧ w = w' := by
  obtain ⟨z, hz⟩ : ∃ z : Int, (n : Int) = z := ⟨_, rfl⟩
  have hr : refM n = refM z.toNat := by rw [← hz]; rfl
  rw [hz, hr]
  have h0 : 0 ≤ z := by omega
  have h1 : z ≤ 255 := by omega
  clear hz hr hn
  go_enter Tryz.func21, Tryz.ntmps21
  go_wp2_with fail
  all_goals
    go_ret
    refine ⟨ret_int ?_, rfl⟩
    unfold refM
    try simp only [beq_iff_eq, beq_eq_false_iff_ne, ne_eq] at *
    (repeat' split) <;> first | rfl | omega
/-- the program's answer -/
def refP (n : Nat) : Nat := if refM n ≠ 0 then refM n else if mayM n = false then 151 else 0
theorem refP_iff : ∀ n : Nat, n < 256 → refP n = (if kindM n = 5 then (if n ≤ 193 then 0 else if n = 194 then 156 else if 201 ≤ n then 157 else 160) else if kindM n = 6 then 0 else if kindM n = 7 then (if n = 204 then 157 else if n = 220 then 159 else if n = 200 ∨ n = 222 ∨ n = 223 then 160 else 0) else 151) := by
  decide +kernel
set_option maxHeartbeats 4000000 in
theorem kind_any (n : Nat) (w : World) (hn : n < 256) : Calls Tryz.prog 62 #[.int .u8 (n : Int)] w fun e w' => e = .returned (.int .i8 (kindM n : Nat)) ∧ w = w' := by
  obtain ⟨z, hz⟩ : ∃ z : Int, (n : Int) = z := ⟨_, rfl⟩
  have hr : kindM n = kindM z.toNat := by rw [← hz]; rfl
  rw [hz, hr]
  have h0 : 0 ≤ z := by omega
  have h1 : z ≤ 255 := by omega
  clear hz hr hn
  go_enter Tryz.func62, Tryz.ntmps62
  go_wp2_with fail
  all_goals
    go_ret
    refine ⟨ret_int ?_, rfl⟩
    unfold kindM
    try simp only [beq_iff_eq, beq_eq_false_iff_ne, ne_eq] at *
    (repeat' split) <;> first | rfl | omega
set_option maxHeartbeats 4000000 in
theorem refused_any (n : Nat) (w : World) (hn : n < 256) : Calls Tryz.prog 25 #[.int .u8 (n : Int)] w fun e w' => e = .returned (.int .i64 (refP n : Nat)) ∧ w = w' := by
  by_cases k5 : kindM n = 5
  · have hres : refP n = (if n ≤ 193 then 0 else if n = 194 then 156 else if 201 ≤ n then 157 else 160) := by rw [refP_iff n hn, if_pos k5]
    have HR := Lib.hid hres; clear hres
    have HK := Lib.hid k5; clear k5
    obtain ⟨z, hz⟩ : ∃ z : Int, (n : Int) = z := ⟨_, rfl⟩
    have h0 : 0 ≤ z := by omega
    have h1 : z ≤ 255 := by omega
    have HZ := Lib.hid hz
    rw [hz]
    clear hz
    go_enter Tryz.func25, Tryz.ntmps25
    go_wp2_with fail
    rw [← HZ.out]
    refine (kind_any n _ hn).mono ?_
    rintro e w1 ⟨rfl, rfl⟩
    rw [HZ.out, HK.out]
    go_wp2_with fail
    all_goals
      go_ret
      refine ⟨ret_int ?_, rfl⟩
      rw [HR.out]
      have := HZ.out
      clear HR HK
      try simp only [beq_iff_eq, beq_eq_false_iff_ne, ne_eq] at *
      (repeat' split) <;> first | rfl | omega
  by_cases k6 : kindM n = 6
  · have hres : refP n = 0 := by rw [refP_iff n hn, if_neg k5, if_pos k6]
    have HR := Lib.hid hres; clear hres
    have HK := Lib.hid k6; clear k6 k5
    obtain ⟨z, hz⟩ : ∃ z : Int, (n : Int) = z := ⟨_, rfl⟩
    have h0 : 0 ≤ z := by omega
    have h1 : z ≤ 255 := by omega
    have HZ := Lib.hid hz
    rw [hz]
    clear hz
    go_enter Tryz.func25, Tryz.ntmps25
    go_wp2_with fail
    rw [← HZ.out]
    refine (kind_any n _ hn).mono ?_
    rintro e w1 ⟨rfl, rfl⟩
    rw [HZ.out, HK.out]
    go_wp2_with fail
    all_goals
      go_ret
      refine ⟨ret_int ?_, rfl⟩
      rw [HR.out]
      have := HZ.out
      clear HR HK
      try simp only [beq_iff_eq, beq_eq_false_iff_ne, ne_eq] at *
      (repeat' split) <;> first | rfl | omega
  by_cases k7 : kindM n = 7
  · have hres : refP n = (if n = 204 then 157 else if n = 220 then 159 else if n = 200 ∨ n = 222 ∨ n = 223 then 160 else 0) := by rw [refP_iff n hn, if_neg k5, if_neg k6, if_pos k7]
    have HR := Lib.hid hres; clear hres
    have HK := Lib.hid k7; clear k7 k6 k5
    obtain ⟨z, hz⟩ : ∃ z : Int, (n : Int) = z := ⟨_, rfl⟩
    have h0 : 0 ≤ z := by omega
    have h1 : z ≤ 255 := by omega
    have HZ := Lib.hid hz
    rw [hz]
    clear hz
    go_enter Tryz.func25, Tryz.ntmps25
    go_wp2_with fail
    rw [← HZ.out]
    refine (kind_any n _ hn).mono ?_
    rintro e w1 ⟨rfl, rfl⟩
    rw [HZ.out, HK.out]
    go_wp2_with fail
    all_goals
      go_ret
      refine ⟨ret_int ?_, rfl⟩
      rw [HR.out]
      have := HZ.out
      clear HR HK
      try simp only [beq_iff_eq, beq_eq_false_iff_ne, ne_eq] at *
      (repeat' split) <;> first | rfl | omega
  have hres : refP n = 151 := by rw [refP_iff n hn, if_neg k5, if_neg k6, if_neg k7]
  have HR := Lib.hid hres; clear hres
  have HK := Lib.hid (And.intro k5 (And.intro k6 k7)); clear k5 k6 k7
  obtain ⟨z, hz⟩ : ∃ z : Int, (n : Int) = z := ⟨_, rfl⟩
  have h0 : 0 ≤ z := by omega
  have h1 : z ≤ 255 := by omega
  have HZ := Lib.hid hz
  rw [hz]
  clear hz
  go_enter Tryz.func25, Tryz.ntmps25
  go_wp2_with fail
  rw [← HZ.out]
  refine (kind_any n _ hn).mono ?_
  rintro e w1 ⟨rfl, rfl⟩
  rw [HZ.out]
  obtain ⟨u, hu⟩ : ∃ u : Int, ((kindM n : Nat) : Int) = u := ⟨_, rfl⟩
  have u5 : (u == 5) = false := beq_false_of_ne (by have := HK.out.1; omega)
  have u6 : (u == 6) = false := beq_false_of_ne (by have := HK.out.2.1; omega)
  have u7 : (u == 7) = false := beq_false_of_ne (by have := HK.out.2.2; omega)
  rw [hu]
  clear hu
  go_wp2_with fail
  all_goals
    go_ret
    refine ⟨ret_int ?_, rfl⟩
    rw [HR.out]
    have := HZ.out
    clear HR HK
    try simp only [beq_eq_false_iff_ne, ne_eq] at *
    (repeat' split) <;> first | rfl | omega
theorem frame15_any (n : Nat) (w : World) (hn : n < 256) : Calls Tryz.prog 49 #[.int .u8 (n : Int)] w fun e w' => e = .returned (.bool (n == 192 || n == 193)) ∧ w = w' := by
  go_enter Tryz.func49, Tryz.ntmps49
  go_wp2_with fail
  all_goals
    go_ret
    refine ⟨ret_bool ?_, rfl⟩
    rw [Bool.eq_iff_iff]
    simp <;> omega
theorem plain15_any (n : Nat) (w : World) (hn : n < 256) : Calls Tryz.prog 56 #[.int .u8 (n : Int)] w fun e w' => e = .returned (.bool (decide (224 ≤ n) && decide (n ≤ 254))) ∧ w = w' := by
  go_enter Tryz.func56, Tryz.ntmps56
  go_wp2_with fail
  all_goals
    go_ret
    refine ⟨ret_bool ?_, rfl⟩
    rw [Bool.eq_iff_iff]
    simp <;> omega
theorem may15_any (n : Nat) (w : World) (hn : n < 256) : Calls Tryz.prog 22 #[.int .u8 (n : Int)] w fun e w' => e = .returned (.bool (mayM n)) ∧ w = w' := by
  unfold mayM
  go_enter Tryz.func22, Tryz.ntmps22
  go_wp2_with fail
  refine (frame15_any n w hn).mono ?_
  rintro e w1 ⟨rfl, rfl⟩
  go_wp2_with fail
  refine (plain15_any n w hn).mono ?_
  rintro e w1 ⟨rfl, rfl⟩
  go_wp2_with fail
  all_goals
    go_ret
    refine ⟨ret_bool ?_, rfl⟩
    rw [Bool.eq_iff_iff]
    simp <;> omega
end Go.Proofs.YtjfgfoeenajneaaGreatDoor.Sg
