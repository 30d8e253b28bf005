/- The reference's number: what it reads. -/
import Derived.Test.YtpjkiljgccjemaaDoorTextA
namespace Go.Proofs.YtpjkiljgccjemaaDoor
set_option linter.unusedVariables false
open Go.RowKit Go.Sort

theorem mask63 (x : Int) (h0 : 0 ≤ x) (h1 : x < 18446744073709551616) : bits .and .u64 x 9223372036854775807 = x % 9223372036854775808 :=
  bits_mask .u64 64 (by decide) wraps_u64 63 (by decide) x h0 (by simpa using h1)

def NumPost (s : List UInt8) (v : Int) (ok : Bool) : Prop := 0 ≤ v ∧ v ≤ 9223372036854775807 ∧ (∀ u : Nat, s = Lib.decDigits u → u ≤ 1152921504606846976 → v = u ∧ ok = true)

theorem num_bad {s : List UInt8} {v : Int} {ok : Bool} (h : ∀ u : Nat, u ≤ 1152921504606846976 → s ≠ Lib.decDigits u) (h0 : 0 ≤ v ∧ v ≤ 9223372036854775807) : NumPost s v ok :=
  ⟨h0.1, h0.2, fun u hs hu => absurd hs (h u hu)⟩
theorem dec_len19 {u : Nat} (hu : u ≤ 1152921504606846976) : (Lib.decDigits u).length ≤ 19 := by
  rw [Lib.decDigits_length]
  exact nDigits_le 18 u (by omega)
theorem dec_pos (u : Nat) : 1 ≤ (Lib.decDigits u).length := by
  rw [Lib.decDigits_length]; exact Lib.nDigits_pos u
theorem parse_step {s : List UInt8} {i n : Nat} {c : UInt8} (hc : s[i]? = some c) (h : Lib.parseUint10 0 (s.take i) = .ok n) (h1 : 48 ≤ c.toNat) (h2 : c.toNat ≤ 57) (hn : n < 10 ^ i) (hi : i < 19) :
    Lib.parseUint10 0 (s.take (i + 1)) = .ok (10 * n + (c.toNat - 48)) ∧ 10 * n + (c.toNat - 48) < 10 ^ (i + 1) := by
  have hp : 10 ^ i ≤ 10 ^ 18 := Nat.pow_le_pow_right (by decide) (by omega)
  have e : (10 : Nat) ^ 18 = 1000000000000000000 := by decide
  rw [e] at hp
  refine ⟨?_, by rw [Nat.pow_succ]; omega⟩
  rw [List.take_add_one, hc]
  show Lib.parseUint10 0 (s.take i ++ [c]) = _
  rw [parse_snoc _ _ _ _ h]
  simp only [Lib.parseUint10]
  rw [if_pos ⟨h1, h2⟩, if_neg (by omega), if_neg (by omega), Nat.mul_comm]

def NumEnds (s : List UInt8) (w : World) (e : Ending) (w' : World) : Prop := ∃ (v : Int) (ok : Bool), e = .returned (.tuple #[.int .i64 v, .bool ok]) ∧ Hid (NumPost s v ok) ∧ Tr w w'
theorem num_good {s : List UInt8} {n : Nat} (h : Lib.parseUint10 0 s = .ok n) (hn : n < 18446744073709551616) : NumPost s ((n : Int) % 9223372036854775808) (decide ((n : Int) ≤ 1152921504606846976)) := by
  refine ⟨by omega, by omega, fun u hs hu => ?_⟩
  rw [hs, parse_dec u (by omega)] at h
  injection h with h
  subst h
  exact ⟨by omega, by simp; omega⟩
set_option maxRecDepth 100000 in
theorem number_any (s : List UInt8) (w : World) (hl : s.length ≤ 100) :
    Calls Tryd.prog 64 #[.string ⟨s.toArray⟩] w (NumEnds s w) := by
  have hlen : (⟨s.toArray⟩ : ByteArray).size = s.length := by simp [ByteArray.size]
  by_cases h1 : 1 ≤ s.length
  · by_cases h2 : s.length ≤ 19
    · go_enter Tryd.func64, Tryd.ntmps64
      go_wp2
      go_loopw [4, 5] (fun a b wr => ∃ (n i : Nat), a = .int .u64 n ∧ b = .int .i64 i ∧ i ≤ s.length ∧ Hid (Lib.parseUint10 0 (s.take i) = .ok n ∧ n < 10 ^ i) ∧ Tr w wr) (fun _ b _ => s.length - (intOf b).toNat)
      case atStart => exact ⟨0, 0, rfl, rfl, by omega, (by simp [Lib.parseUint10] : Lib.parseUint10 0 (s.take 0) = .ok 0 ∧ 0 < 10 ^ 0), (by repeat (first | exact Tr.refl _ | assumption | apply Tr.al | apply Tr.drN | apply Tr.dr | (refine Tr.set ?_ (by first | omega | (simp; done) | (simp; omega)) _)))⟩
      case round =>
        obtain ⟨n, i, rfl, rfl, hi, HP, T⟩ := hrel
        by_cases hlt : i < s.length
        · obtain ⟨c, hc⟩ : ∃ c, s[i]? = some c := ⟨_, List.getElem?_eq_getElem hlt⟩
          have HC := Lib.hid hc
          have hcc : (({ data := s.toArray } : ByteArray)[i]'(by rw [hlen]; exact hlt)) = c := by
            rw [List.getElem?_eq_getElem hlt] at hc
            exact Option.some.inj hc
          clear hc
          have hn : n < 1000000000000000000 := by
            have h3 : 10 ^ i ≤ 10 ^ 18 := Nat.pow_le_pow_right (by decide) (by omega)
            have h4 := HP.out.2
            have e : (10 : Nat) ^ 18 = 1000000000000000000 := by decide
            omega
          by_cases hd : 48 ≤ c.toNat ∧ c.toNat ≤ 57
          · obtain ⟨d1, d2⟩ := hd
            have HB := Lib.hid (parse_step HC.out HP.out.1 d1 d2 HP.out.2 (by omega))
            go_wp2
            go_roundw
            case rel => exact ⟨10 * n + (c.toNat - 48), i + 1, by go_num, by go_num, by omega, HB, (by repeat (first | exact Tr.refl _ | assumption | apply Tr.al | apply Tr.drN | apply Tr.dr | (refine Tr.set ?_ (by first | omega | (simp; done) | (simp; omega)) _)))⟩
            case measure => simp [intOf]; omega
          · have HB : Hid (NumPost s 0 false) := num_bad (fun u _ e => hd (dec_digit u c (by rw [← e]; exact List.mem_of_getElem? HC.out))) ⟨by omega, by omega⟩
            by_cases d1 : 48 ≤ c.toNat
            · have d2 : ¬ c.toNat ≤ 57 := fun h => hd ⟨d1, h⟩
              clear hd
              go_wp2
              simp [bodyPost, results, Tryd.results64, go_sem]
              exact ⟨0, false, rfl, HB, (by repeat (first | exact Tr.refl _ | assumption | apply Tr.al | apply Tr.drN | apply Tr.dr | (refine Tr.set ?_ (by first | omega | (simp; done) | (simp; omega)) _)))⟩
            · clear hd
              go_wp2
              simp [bodyPost, results, Tryd.results64, go_sem]
              exact ⟨0, false, rfl, HB, (by repeat (first | exact Tr.refl _ | assumption | apply Tr.al | apply Tr.drN | apply Tr.dr | (refine Tr.set ?_ (by first | omega | (simp; done) | (simp; omega)) _)))⟩
        · obtain rfl : i = s.length := by omega
          have hn : n < 18446744073709551616 := by
            have h3 : 10 ^ s.length ≤ 10 ^ 19 := Nat.pow_le_pow_right (by decide) (by omega)
            have h4 := HP.out.2
            have e : (10 : Nat) ^ 19 = 10000000000000000000 := by decide
            omega
          have hm := mask63 (n : Int) (by omega) (by omega)
          have HB := Lib.hid (num_good (by have := HP.out.1; rwa [List.take_length] at this) hn)
          go_wp2
          simp [bodyPost, results, Tryd.results64, go_sem]
          exact ⟨_, _, rfl, HB, (by repeat (first | exact Tr.refl _ | assumption | apply Tr.al | apply Tr.drN | apply Tr.dr | (refine Tr.set ?_ (by first | omega | (simp; done) | (simp; omega)) _)))⟩
    · go_enter Tryd.func64, Tryd.ntmps64
      go_wp2
      simp [bodyPost, results, Tryd.results64, go_sem]
      exact ⟨0, false, rfl, num_bad (fun u hu e => h2 (by rw [e]; exact dec_len19 hu)) ⟨by omega, by omega⟩, (by repeat (first | exact Tr.refl _ | assumption | apply Tr.al | apply Tr.drN | apply Tr.dr | (refine Tr.set ?_ (by first | omega | (simp; done) | (simp; omega)) _)))⟩
  · go_enter Tryd.func64, Tryd.ntmps64
    go_wp2
    simp [bodyPost, results, Tryd.results64, go_sem]
    exact ⟨0, false, rfl, num_bad (fun u hu e => h1 (by rw [e]; exact dec_pos u)) ⟨by omega, by omega⟩, (by repeat (first | exact Tr.refl _ | assumption | apply Tr.al | apply Tr.drN | apply Tr.dr | (refine Tr.set ?_ (by first | omega | (simp; done) | (simp; omega)) _)))⟩
end Go.Proofs.YtpjkiljgccjemaaDoor
