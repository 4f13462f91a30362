import Derived.Test.YtjiojpconkhdmaaCM3
import Derived.Test.YtjiojpconkhdmaaCM2
import Derived.RegionTactic
import Derived.BigRegion
import Derived.Deep.RegionWith
import Derived.WalkSpells
import Derived.Lib.IndexBytes
import Derived.Deep.LoopGhost
namespace Go.Proofs.Ytjiojpconkhdmaa.Fs
open Go.RowKit Go.Maps Go.Proofs.YtjiojpconkhdmaaW.PrintWords Go.Proofs.YtjiojpconkhdmaaW.PrintLast Go.Proofs.YtjiojpconkhdmaaW.PrintMore
attribute [local go_sem] max2_int min2_int
set_option linter.unusedVariables false
set_option linter.unusedSimpArgs false
-- GIVEN 33 making
/-- An option's bytes. -/
def optB (c : Int) (d : List UInt8) : List UInt8 :=
  if d.length ≤ 255 then [UInt8.ofNat (c % 256).toNat, UInt8.ofNat d.length] ++ d
  else [UInt8.ofNat (c % 256).toNat, 255] ++ d.take 255 ++ optB c (d.drop 255)
termination_by d.length
def optsB (l : List S102) : List UInt8 := l.flatMap fun o => optB o.f0 o.f1.data.toList
def opts_Put.f (l0 : List S102) : Option (ByteArray × Int) :=
  if (optsOk [] l0 && decide (l0.length ≤ 32)) = true then
    if 1200 < (optsB l0 ++ [255]).length then some (⟨#[]⟩, 601) else some (⟨(optsB l0 ++ [255]).toArray⟩, 0)
  else some (⟨#[]⟩, 600)
theorem optsOk_all {seen : List Int} {l : List S102} (h : optsOk seen l = true) : ∀ o ∈ l, 0 < o.f0 ∧ o.f0 < 255 ∧ o.f1.size ≤ 512 := by
  induction l generalizing seen with
  | nil => simp
  | cons a r ih =>
    unfold optsOk at h
    split at h
    · cases h
    · rename_i hn
      simp only [not_or] at hn
      intro o ho
      rcases List.mem_cons.1 ho with rfl | ho
      · omega
      · exact ih h o ho
theorem optB_length (c : Int) (d : List UInt8) (h : d.length ≤ 512) : (optB c d).length ≤ 518 := by
  unfold optB
  split
  · simp; omega
  · unfold optB
    split
    · simp; omega
    · unfold optB
      rw [if_pos (by simp; omega)]
      simp; omega
theorem optsB_snoc (l : List S102) (o : S102) : optsB (l ++ [o]) = optsB l ++ optB o.f0 o.f1.data.toList := by simp [optsB]
theorem optsB_length (l : List S102) (h : ∀ o ∈ l, 0 < o.f0 ∧ o.f0 < 255 ∧ o.f1.size ≤ 512) : (optsB l).length ≤ 518 * l.length := by
  induction l with
  | nil => simp [optsB]
  | cons a r ih =>
    have h1 := ih (fun o ho => h o (by simp [ho]))
    have h2 := optB_length a.f0 a.f1.data.toList (by rw [data_length]; exact (h a (by simp)).2.2)
    simp only [optsB, List.flatMap_cons, List.length_append, List.length_cons] at *
    omega
theorem be1_size (x : Int) : (be1 x).size = 1 := rfl
theorem sz3 (x y : Int) (s : ByteArray) (q : Nat) (h : q ≤ s.size) : (be1 x ++ be1 y ++ s.extract 0 q).size = 2 + q := by
  rw [ByteArray.size_append, ByteArray.size_append, be1_size, be1_size, ByteArray.size_extract]
  omega
theorem optB_step (c : Int) (d : List UInt8) (q : Nat) (hq : q = min 255 d.length) : optB c d = [UInt8.ofNat (c % 256).toNat, UInt8.ofNat ((q : Int) % 256).toNat] ++ d.take q ++ (if (!(d.drop q).isEmpty) = true then optB c (d.drop q) else []) := by
  rw [optB.eq_1]
  by_cases h : d.length ≤ 255
  · have e : q = d.length := by omega
    have e2 : ((q : Int) % 256).toNat = d.length := by omega
    rw [if_pos h, e2, e]
    simp
  · have e : q = 255 := by omega
    have hne : d.drop q ≠ [] := by
      intro h0
      have := congrArg List.length h0
      simp at this
      omega
    have e2 : (!(d.drop q).isEmpty) = true := by
      cases h1 : d.drop q with
      | nil => exact absurd h1 hne
      | cons a r => rfl
    rw [if_neg h, if_pos e2, e]
    rfl
theorem wr3 (x : Int) (q : Nat) (s : ByteArray) (h : q ≤ s.size) : (be1 x ++ be1 (q : Int) ++ s.extract 0 q).data.toList = [UInt8.ofNat (x % 256).toNat, UInt8.ofNat ((q : Int) % 256).toNat] ++ s.data.toList.take q := by
  have : (s.extract 0 q).data.toList = s.data.toList.take q := by rw [Lib.extract_data]; simp
  simp only [ByteArray.data_append, Array.toList_append, this, be1]
  rfl
/-- One more piece was written. -/
theorem put_step {acc T : List UInt8} {x : Int} {q : Nat} {s : ByteArray} (hq : min (255 : Int) (s.size : Int) = (q : Int)) (h : acc ++ optB x s.data.toList = T) :
    if (!(s.extract q s.size).toList.isEmpty) = true then (acc ++ (be1 x ++ be1 (q : Int) ++ s.extract 0 q).data.toList) ++ optB x (s.extract q s.size).data.toList = T else acc ++ (be1 x ++ be1 (q : Int) ++ s.extract 0 q).data.toList = T := by
  have hq' : q = min 255 s.data.toList.length := by rw [data_length]; omega
  rw [wr3 _ _ _ (by omega), Lib.toList_data, Lib.extract_to_end]
  rw [optB_step x _ q hq'] at h
  split
  · rename_i he
    rw [if_pos he] at h
    simpa [List.append_assoc] using h
  · rename_i he
    rw [if_neg he] at h
    simpa [List.append_assoc] using h
theorem put_less {q : Nat} {s : ByteArray} (hq : min (255 : Int) (s.size : Int) = (q : Int)) : (s.extract q s.size).size + (!(s.extract q s.size).toList.isEmpty).toNat < s.size + 1 := by
  have hsz : (s.extract q s.size).size = s.size - q := by rw [ByteArray.size_extract]; omega
  have hl : (s.extract q s.size).toList.length = s.size - q := by rw [Lib.toList_data, data_length, hsz]
  rw [hsz]
  cases h : (s.extract q s.size).toList with
  | nil => rw [h] at hl; simp at hl; simp; omega
  | cons a r => rw [h] at hl; simp at hl; simp; omega
set_option maxHeartbeats 1000000 in
set_option maxRecDepth 100000 in
theorem opts_Put.calls (A0 : Option Addr) (c0 : Nat) (l0 : List S102) (r1 : ByteArray) (r2 : Int) (w : World) (hr0 : Kd.C k102 w A0 l0.length l0) (hc0 : l0.length ≤ c0) (h : opts_Put.f l0 = some (r1, r2)) :
    Calls Try.prog 33 #[.slice A0 l0.length c0] w fun e w' => e = .returned (.tuple #[.string r1, .int .i64 r2]) ∧ Below w.heap.size w w' := by
  have hlen : l0.length ≤ 9223372036854775807 := hr0.2.1
  have H := Lib.hid h
  clear h
  have hr := Lib.hid hr0
  clear hr0
  by_cases hok : (optsOk [] l0 && decide (l0.length ≤ 32)) = true
  · have hm : opts_May.f l0 = some true := by unfold opts_May.f; rw [hok]
    have HM := Lib.hid hm
    have hall := optsOk_all (Bool.and_eq_true_iff.1 hok).1
    have h32 : l0.length ≤ 32 := of_decide_eq_true (Bool.and_eq_true_iff.1 hok).2
    have HA := Lib.hid hall
    have HO := Lib.hid hok
    clear hm hall hok
    go_enter Try.func33, Try.ntmps33
    go_wp2_with (first | (go_at_call 52; refine (opts_May.calls A0 c0 l0 true _ hr.out hc0 HM.out).mono ?_; rintro e w1 ⟨rfl, hb1⟩))
    have HB1 := Lib.hid hb1
    clear hb1
    go_loopw [15] (fun i wr => ∃ k : Nat, k ≤ l0.length ∧ i = .int .i64 k ∧ Aside0 (Bld w1.heap.size w1.heap.size (optsB (l0.take k)) wr) ∧ Aside0 (Below w1.heap.size w1 wr)) (fun i _ => l0.length - (intOf i).toNat)
    case atStart => exact ⟨0, Nat.zero_le _, rfl, ⟨Bld.fresh _⟩, ⟨below_alloc (Below.refl _ _) _⟩⟩
    case round =>
      obtain ⟨k, hk, rfl, hBD, hBW⟩ := hrel
      by_cases hlt : k < l0.length
      · have hrk := Kd.C_below (Kd.C_below hr.out HB1.out) hBW.out
        obtain ⟨ad, rfl, hx0, hx1⟩ := at_T102 hrk (k : Int) (by omega) (by omega)
        clear hrk
        rw [Int.toNat_natCast] at hx0 hx1
        have hmem : rd_T102 l0 (k : Int) ∈ l0 := by
          have := rd_drop l0 k hlt
          exact List.mem_of_mem_drop (i := k) (by rw [this]; exact List.mem_cons_self)
        have hox := HA.out _ hmem
        have htk : optsB (l0.take (k + 1)) = optsB (l0.take k) ++ optB (rd_T102 l0 (k : Int)).f0 (rd_T102 l0 (k : Int)).f1.data.toList := by rw [rd_take _ _ hlt, optsB_snoc]
        have hln : (optsB (l0.take k)).length ≤ 518 * k := by
          have := optsB_length (l0.take k) (fun o ho => HA.out o (List.mem_of_mem_take ho))
          rwa [List.length_take_of_le (by omega)] at this
        have HT := Lib.hid htk
        have HL := Lib.hid hln
        clear htk hmem hln
        generalize hxe : rd_T102 l0 (k : Int) = x at hx0 hx1 hox HT
        clear hxe
        obtain ⟨o1, o2, o3⟩ := hox
        go_wp2
        obtain ⟨wo, rfl⟩ : ∃ wo : World, wo = wr := ⟨_, rfl⟩
        go_loopg [7, 8] (x.f1.size + 1) (fun n lf m wq => ∃ (s : ByteArray) (b : Bool) (acc : List UInt8), lf = .string s ∧ m = .bool b ∧ s.size ≤ 512 ∧ Aside0 (n = s.size + b.toNat) ∧ Aside0 (Bld w1.heap.size w1.heap.size acc wq) ∧ Aside0 (Below w1.heap.size w1 wq) ∧ Aside0 (wq.heap[wo.heap.size]? = some (.cells #[.int .i64 x.f0, .string x.f1] 102 (0, 0))) ∧ Aside0 (if b = true then acc ++ optB x.f0 s.data.toList = optsB (l0.take (k + 1)) else acc = optsB (l0.take (k + 1))))
        case atStart => exact ⟨x.f1, true, optsB (l0.take k), rfl, rfl, o3, ⟨rfl⟩, ⟨hBD.out.alloc _⟩, ⟨below_alloc' hBW.out hBW.out.size _⟩, ⟨heap_alloc_new _ _⟩, ⟨by rw [if_pos rfl]; exact HT.out.symm⟩⟩
        case round =>
          obtain ⟨s, b, acc, rfl, rfl, hs, hgk, hBDq, hBWq, hcq, htq⟩ := hrel
          cases b with
          | true =>
            have hc0 : wr.cell? ⟨wo.heap.size, 0, none⟩ = some (.int .i64 x.f0) := by rw [Lib.cell_of_heap hcq.out]; rfl
            have htq' : acc ++ optB x.f0 s.data.toList = optsB (l0.take (k + 1)) := by have := htq.out; simpa using this
            have hacc : acc.length ≤ 518 * 33 := by
              have h1 := congrArg List.length htq'
              rw [List.length_append] at h1
              have h2 := HL.out
              have h3 := optB_length x.f0 x.f1.data.toList (by rw [data_length]; exact o3)
              have h4 := congrArg List.length HT.out
              rw [List.length_append] at h4
              omega
            have HQ := Lib.hid htq'
            clear htq'
            obtain ⟨q, hq1, hq2, hmn⟩ : ∃ q : Nat, q ≤ 255 ∧ q ≤ s.size ∧ min (255 : Int) (s.size : Int) = (q : Int) := ⟨min 255 s.size, by omega, by omega, by omega⟩
            have hq3 := Lib.hid hmn
            have hbe := be1_size
            go_wp2
            go_region_with (first | (go_at_call 36; (with_reducible refine (bytes1 _ _).mono ?_); rintro e w' ⟨rfl, hbb⟩) | (go_at_call 35; refine (bld_ws w1.heap.size w1.heap.size acc _ _ ?_ ?_).mono ?_; exact Bld.below (Bld.below hBDq.out.drew (by assumption)) hbb; (rw [sz3 _ _ _ _ hq2]; omega); rintro e w' ⟨rfl, hbd, hbw, hot⟩))
            clear hc0
            go_wp2
            rename_i wa hba wb hbb0
            have hlt2 : wo.heap.size < wr.heap.size := (Array.getElem?_eq_some_iff.1 hcq.out).1
            have hcw : w'.heap[wo.heap.size]? = some (.cells #[.int .i64 x.f0, .string x.f1] 102 (0, 0)) := by
              refine others_cell hot ?_ (by decide) (by have := hBD.out.lt; omega)
              rw [hbb.block _ (by have := hba.size; have e : wr.drew.heap.size = wr.heap.size := rfl; omega), hba.block _ (by have e : wr.drew.heap.size = wr.heap.size := rfl; omega)]
              exact hcq.out
            have hbz : Below w1.heap.size w1 w' := by
              have e : wr.drew.heap.size = wr.heap.size := rfl
              have hz := hBWq.out.size
              have hz2 := hba.size
              exact (((below_drew hBWq.out).trans (hba.mono (by omega))).trans (hbb.mono (by omega))).trans hbw
            go_roundg ((s.extract q s.size).size + (!(s.extract q s.size).toList.isEmpty).toNat)
            case measure => rw [hgk.out]; exact put_less hq3.out
            case rel => exact ⟨_, _, _, rfl, rfl, by rw [ByteArray.size_extract]; omega, ⟨rfl⟩, ⟨hbd⟩, ⟨hbz⟩, ⟨hcw⟩, ⟨put_step hq3.out HQ.out⟩⟩
          | false =>
            go_wp2
            go_roundw
            case rel => exact ⟨k + 1, by omega, by go_num, ⟨by have := htq.out; rw [if_neg (by simp)] at this; rw [← this]; exact hBDq.out⟩, ⟨hBWq.out⟩⟩
            case measure => simp [intOf]; omega
      · obtain rfl : k = l0.length := by omega
        have hfin := H.out
        unfold opts_Put.f at hfin
        rw [if_pos HO.out] at hfin
        have HF := Lib.hid hfin
        clear hfin
        have hln := optsB_length l0 HA.out
        have HL := Lib.hid hln
        clear hln
        go_wp2_with (first | (go_at_call 76; refine (bld_wb w1.heap.size w1.heap.size (optsB l0) 255 _ (by have := hBD.out; rwa [List.take_of_length_le (Nat.le_refl _)] at this) (by have := HL.out; omega)).mono ?_; rintro e w2 ⟨rfl, hbd2, hbw2, _⟩) | (go_at_call 38; refine (bld_len w1.heap.size w1.heap.size (optsB l0 ++ [255]) _ hbd2).mono ?_; rintro e w3 ⟨rfl, rfl⟩) | (go_at_call 39; refine (bld_string w1.heap.size w1.heap.size (optsB l0 ++ [255]) _ hbd2).mono ?_; rintro e w4 ⟨rfl, hbd4, hbw4, _⟩))
        · have hfin := HF.out
          rw [if_pos (by simp; omega)] at hfin
          injection hfin with hfin
          injection hfin with h1 h2
          subst h1
          subst h2
          go_ret2
          exact ⟨rfl, HB1.out.trans ((hBW.out.trans hbw2).mono HB1.out.size)⟩
        · have hfin := HF.out
          rw [if_neg (by simp; omega)] at hfin
          injection hfin with hfin
          injection hfin with h1 h2
          subst h1
          subst h2
          go_ret2
          exact ⟨rfl, HB1.out.trans (((hBW.out.trans hbw2).trans hbw4).mono HB1.out.size)⟩
  · have hm : opts_May.f l0 = some false := by unfold opts_May.f; rw [Bool.not_eq_true] at hok; rw [hok]
    have HM := Lib.hid hm
    have HO := Lib.hid hok
    clear hm hok
    go_enter Try.func33, Try.ntmps33
    go_wp2_with (first | (go_at_call 52; refine (opts_May.calls A0 c0 l0 false _ hr.out hc0 HM.out).mono ?_; rintro e w1 ⟨rfl, hb1⟩))
    go_ret2
    have h := H.out
    unfold opts_Put.f at h
    rw [if_neg HO.out] at h
    injection h with h
    injection h with h1 h2
    subst h1
    subst h2
    exact ⟨rfl, hb1⟩
end Go.Proofs.Ytjiojpconkhdmaa.Fs
