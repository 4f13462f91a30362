import Derived.Test.YtjiojpconkhdmaaCM1
import Derived.Test.YtjiojpconkhdmaaCGRefOpts
import Derived.Test.YtjiojpconkhdmaaCGPacketPut
namespace Go.Proofs.Ytjiojpconkhdmaa.Fs
open Go.RowKit Go.Maps Go.Proofs.YtjiojpconkhdmaaW.PrintWords Go.Proofs.YtjiojpconkhdmaaW.PrintLast Go.Proofs.YtjiojpconkhdmaaW.PrintMore
set_option linter.unusedVariables false
set_option linter.unusedSimpArgs false
theorem ext_of' (s : ByteArray) (a b : Nat) : (s.extract a b).data.toList = (s.data.toList.take b).drop a := by
  rw [ByteArray.data_extract]
  simp [List.extract_eq_take_drop, List.drop_take]
theorem ref_Num_1 (x : Int) : pinfoldref1_Num.f 6 x 1 = some (be1 x) := by
  simp [pinfoldref1_Num.f, pinfoldref1_Num.l0, wrap64, shr, strOfNums, be1]
theorem qp8 : (2 : Int) ^ min 8 IntKind.i64.bits = 256 := by decide
theorem qp16 : (2 : Int) ^ min 16 IntKind.i64.bits = 65536 := by decide
theorem qp24 : (2 : Int) ^ min 24 IntKind.i64.bits = 16777216 := by decide
theorem ref_Num_2 (x : Int) : pinfoldref1_Num.f 6 x 2 = some (be2 x) := by
  simp [pinfoldref1_Num.f, pinfoldref1_Num.l0, wrap64, shr, strOfNums, be2, qp8]
theorem ref_Num_4 (x : Int) : pinfoldref1_Num.f 6 x 4 = some (be4 x) := by
  simp [pinfoldref1_Num.f, pinfoldref1_Num.l0, wrap64, shr, strOfNums, be4, qp8, qp16, qp24]
  rw [show x / 256 / 256 / 256 = x / 16777216 by omega, show x / 256 / 256 = x / 65536 by omega]
  simp
theorem rnum1 (x : Int) (w : World) : Calls Try.prog 41 #[.int .i64 x, .int .i64 1] w fun e w' => e = .returned (.string (be1 x)) ∧ Below w.heap.size w w' := pinfoldref1_Num.calls 6 x 1 _ w (ref_Num_1 x)
theorem optB_le (c : Int) (d : List UInt8) (h : d.length ≤ 255) : optB c d = [UInt8.ofNat (c % 256).toNat, UInt8.ofNat d.length] ++ d := by unfold optB; rw [if_pos h]
theorem optB_gt (c : Int) (d : List UInt8) (h : 255 < d.length) : optB c d = [UInt8.ofNat (c % 256).toNat, 255] ++ d.take 255 ++ optB c (d.drop 255) := by rw [optB, if_neg (by omega)]
theorem put_gt (acc d : ByteArray) (c : Int) (l : List UInt8) (h : acc.data.toList ++ optB c d.data.toList = l) (hd : 255 < d.size) : (acc ++ be1 c ++ ⟨#[255]⟩ ++ d.extract 0 255).data.toList ++ optB c (d.extract 255 d.size).data.toList = l := by
  rw [← h, optB_gt c d.data.toList (by rw [data_length]; exact hd)]
  have e1 : (d.extract 0 255).data.toList = d.data.toList.take 255 := by rw [ext_of' d]; simp
  have e2 : (d.extract 255 d.size).data.toList = d.data.toList.drop 255 := by rw [ext_of' d, List.take_of_length_le (by rw [data_length]; exact Nat.le_refl _)]
  rw [e2]
  simp [e1, be1]
theorem put_le (acc d : ByteArray) (c : Int) (l : List UInt8) (h : acc.data.toList ++ optB c d.data.toList = l) (hd : d.size ≤ 255) : (acc ++ be1 c ++ be1 (d.size : Int) ++ d).data.toList = l := by
  rw [← h, optB_le c d.data.toList (by rw [data_length]; exact hd)]
  have e3 : (((d.size : Int)) % 256).toNat = d.size := by omega
  simp [be1, e3, data_length]
theorem ext_small (d : ByteArray) : (d.extract 255 d.size).size = d.size - 255 := by rw [ByteArray.size_extract, Nat.min_self]
theorem ext_le (d : ByteArray) (h : d.size ≤ 512) : (d.extract 255 d.size).size ≤ 512 := by rw [ext_small]; omega
theorem ext_lt (d : ByteArray) (h : 255 < d.size) : (d.extract 255 d.size).size < d.size := by rw [ext_small]; omega
theorem add_run (acc d : ByteArray) (x : Int) (h : acc.size ≤ 518 * 33) (W : World) : (Op.stringOp .add (acc ++ be1 x ++ ⟨#[255]⟩) (d.extract 0 255)).run Try.prog W = .ok (.string (acc ++ be1 x ++ ⟨#[255]⟩ ++ d.extract 0 255)) W :=
  run_string_add_sum W _ _ (by rw [ByteArray.size_append, ByteArray.size_append, be1_size, ByteArray.size_extract]; show acc.size + 1 + 1 + _ ≤ _; omega)
-- GIVEN 40 making
def pinfoldref1_PutOpts.f (l0 : List S102) : Option (ByteArray × Int) := opts_Put.f l0
set_option maxHeartbeats 4000000 in
set_option maxRecDepth 100000 in
theorem pinfoldref1_PutOpts.calls (A0 : Option Addr) (c0 : Nat) (l0 : List S102) (r1 : ByteArray) (r2 : Int) (w : World) (hr0 : Kd.C k102 w A0 l0.length l0) (hc0 : l0.length ≤ c0) (h : pinfoldref1_PutOpts.f l0 = some (r1, r2)) :
    Calls Try.prog 40 #[.slice A0 l0.length c0] w fun e w' => e = .returned (.tuple #[.string r1, .int .i64 r2]) ∧ Below w.heap.size w w' := by
  have hlen : l0.length ≤ 9223372036854775807 := hr0.2.1
  have H := Lib.hid h
  clear h
  have hr := Lib.hid hr0
  clear hr0
  by_cases hok : (optsOk [] l0 && decide (l0.length ≤ 32)) = true
  · have hm : pinfoldref1_OptsMay.f l0 = some true := by unfold pinfoldref1_OptsMay.f; rw [hok]
    have HM := Lib.hid hm
    have hall := optsOk_all (Bool.and_eq_true_iff.1 hok).1
    have h32 : l0.length ≤ 32 := of_decide_eq_true (Bool.and_eq_true_iff.1 hok).2
    have HA := Lib.hid hall
    have HO := Lib.hid hok
    clear hm hall hok
    go_enter Try.func40, Try.ntmps40
    go_wp2_with (first | (go_at_call 55; refine (pinfoldref1_OptsMay.calls A0 c0 l0 true _ hr.out hc0 HM.out).mono ?_; rintro e w1 ⟨rfl, hb1⟩))
    have HB1 := Lib.hid hb1
    clear hb1
    go_loopw [4, 5, 6] (fun v4 v5 v6 wr => ∃ (k : Nat) (acc : ByteArray), k ≤ l0.length ∧ v5 = .int .i64 k ∧ v4 = .string acc ∧ Aside0 (acc.data.toList = optsB (l0.take k)) ∧ Aside0 (Below w1.heap.size w1 wr)) (fun _ i _ _ => l0.length - (intOf i).toNat)
    case atStart => exact ⟨0, ⟨#[]⟩, Nat.zero_le _, rfl, rfl, ⟨rfl⟩, ⟨Below.refl _ _⟩⟩
    case round =>
      obtain ⟨k, acc, hk, rfl, rfl, hAC, hBW⟩ := hrel
      by_cases hlt : k < l0.length
      · have hrk := Kd.C_below (Kd.C_below hr.out HB1.out) hBW.out
        obtain ⟨ad, rfl, hx0, hx1⟩ := at_T102 hrk (k : Int) (by omega) (by omega)
        clear hrk
        rw [Int.toNat_natCast] at hx0 hx1
        have hmem : rd_T102 l0 (k : Int) ∈ l0 := by
          have := rd_drop l0 k hlt
          exact List.mem_of_mem_drop (i := k) (by rw [this]; exact List.mem_cons_self)
        have hox := HA.out _ hmem
        have htk : optsB (l0.take (k + 1)) = optsB (l0.take k) ++ optB (rd_T102 l0 (k : Int)).f0 (rd_T102 l0 (k : Int)).f1.data.toList := by rw [rd_take _ _ hlt, optsB_snoc]
        have hln : (optsB (l0.take k)).length ≤ 518 * k := by
          have := optsB_length (l0.take k) (fun o ho => HA.out o (List.mem_of_mem_take ho))
          rwa [List.length_take_of_le (by omega)] at this
        have HT := Lib.hid htk
        have HL := Lib.hid hln
        clear htk hmem hln
        generalize hxe : rd_T102 l0 (k : Int) = x at hx0 hx1 hox HT
        clear hxe
        obtain ⟨o1, o2, o3⟩ := hox
        go_wp2
        obtain ⟨wo, rfl⟩ : ∃ wo : World, wo = wr := ⟨_, rfl⟩
        go_loopw [4, 6] (fun v4 v6 wq => ∃ (acc2 d : ByteArray), v4 = .string acc2 ∧ v6 = .string d ∧ d.size ≤ 512 ∧ Aside0 (acc2.data.toList ++ optB x.f0 d.data.toList = optsB (l0.take (k + 1))) ∧ Aside0 (Below wo.heap.size wo wq)) (fun _ v6 _ => match v6 with | .string d => d.size | _ => 0)
        case atStart => exact ⟨acc, x.f1, rfl, rfl, o3, ⟨by rw [hAC.out, HT.out]⟩, ⟨Below.refl _ _⟩⟩
        case round =>
          obtain ⟨acc2, d, rfl, rfl, hd, hAD, hBq⟩ := hrel
          have hsz : acc2.size ≤ 518 * 33 := by
            have h1 := congrArg List.length hAD.out
            rw [List.length_append, data_length] at h1
            have h2 := HL.out
            have h3 := optB_length x.f0 x.f1.data.toList (by rw [data_length]; exact o3)
            have h4 := congrArg List.length HT.out
            rw [List.length_append] at h4
            omega
          replace hx0 := pw_cell_below hBq.out hx0
          clear hx1
          have hbe := be1_size
          by_cases hgt : 255 < d.size
          · have hpg := put_gt _ _ _ _ hAD.out hgt
            have HPG := Lib.hid hpg
            have hbw0 : Below wo.heap.size wo wr.drew := below_drew hBq.out
            have HBW0 := Lib.hid hbw0
            have hszq := hBq.out.size
            clear hpg hbw0
            have hadd := add_run acc2 d x.f0 hsz
            go_wp2
            go_region_with (first | (go_at_call 41; refine (rnum1 _ _).mono ?_; rintro e w4 ⟨rfl, hb4⟩))
            all_goals
              go_wp2
              go_roundw
              case rel => exact ⟨acc2 ++ be1 x.f0 ++ ⟨#[255]⟩ ++ d.extract 0 255, d.extract 255 d.size, rfl, rfl, ext_le d hd, ⟨HPG.out⟩, ⟨HBW0.out.trans (hb4.mono hszq)⟩⟩
              case measure => exact ext_lt d hgt
          · have hpl := put_le _ _ _ _ hAD.out (by omega)
            have HPL := Lib.hid hpl
            have hws := hBW.out.size
            have hqs := hBq.out.size
            clear hpl
            go_wp2_with (first | (go_at_call 41; refine (rnum1 _ _).mono ?_; rintro e w4 ⟨rfl, hb4⟩))
            rename_i w3 hb3
            have hs3 := hb3.size
            go_roundw
            case rel => exact ⟨k + 1, acc2 ++ be1 x.f0 ++ be1 (d.size : Int) ++ d, by omega, by go_num, rfl, ⟨HPL.out⟩, ⟨((hBW.out.trans (hBq.out.mono hws)).trans (hb3.mono (by omega))).trans (hb4.mono (by omega))⟩⟩
            case measure => simp [intOf]; omega
      · obtain rfl : k = l0.length := by omega
        have hac : acc.data.toList = optsB l0 := by have := hAC.out; rwa [List.take_of_length_le (Nat.le_refl _)] at this
        have hrs : acc ++ ⟨#[255]⟩ = ⟨(optsB l0 ++ [255]).toArray⟩ := by
          apply ByteArray.ext
          apply Array.ext'
          simp [hac]
        have hln := optsB_length l0 HA.out
        have hsz : acc.size = (optsB l0).length := by rw [← hac, data_length]
        have HRS := Lib.hid hrs
        have HSZ := Lib.hid hsz
        have hs2 : acc.size ≤ 518 * 33 := by omega
        have hf := H.out
        unfold pinfoldref1_PutOpts.f opts_Put.f at hf
        rw [if_pos HO.out, ← hrs] at hf
        clear hrs hac hln hsz
        by_cases hlg : 1200 < (optsB l0 ++ [255]).length
        · rw [if_pos hlg] at hf
          injection hf with hf
          injection hf with h1 h2
          have hc : acc.size + 1 > 1200 := by rw [HSZ.out]; simpa using hlg
          subst h1
          subst h2
          clear hlg
          go_wp2
          go_ret2
          exact ⟨rfl, HB1.out.trans (hBW.out.mono HB1.out.size)⟩
        · rw [if_neg hlg] at hf
          injection hf with hf
          injection hf with h1 h2
          have hc : ¬ acc.size + 1 > 1200 := by rw [HSZ.out]; simpa using hlg
          subst h1
          subst h2
          clear hlg
          go_wp2
          go_ret2
          exact ⟨rfl, HB1.out.trans (hBW.out.mono HB1.out.size)⟩
  · have hm : pinfoldref1_OptsMay.f l0 = some false := by unfold pinfoldref1_OptsMay.f; rw [Bool.not_eq_true] at hok; rw [hok]
    have HM := Lib.hid hm
    have HO := Lib.hid hok
    clear hm hok
    go_enter Try.func40, Try.ntmps40
    go_wp2_with (first | (go_at_call 55; refine (pinfoldref1_OptsMay.calls A0 c0 l0 false _ hr.out hc0 HM.out).mono ?_; rintro e w1 ⟨rfl, hb1⟩))
    go_ret2
    have h := H.out
    unfold pinfoldref1_PutOpts.f opts_Put.f at h
    rw [if_neg HO.out] at h
    injection h with h
    injection h with h1 h2
    subst h1
    subst h2
    exact ⟨rfl, hb1⟩
end Go.Proofs.Ytjiojpconkhdmaa.Fs
