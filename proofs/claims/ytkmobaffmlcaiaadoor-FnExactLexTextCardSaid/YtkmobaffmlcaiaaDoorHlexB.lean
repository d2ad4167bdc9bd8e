/- tokenAt by its contract. -/
import Derived.Test.YtkmobaffmlcaiaaDoorHlexA
namespace Go.Proofs.YtkmobaffmlcaiaaDoor.PAll
open Go.RowKit Go.Proofs.YtkmobaffmlcaiaaDoorW.PrintWords Go.Proofs.YtkmobaffmlcaiaaDoorW.PrintLast Go.Proofs.YtkmobaffmlcaiaaDoorW.PrintMore
set_option linter.unusedVariables false
set_option linter.unusedSimpArgs false

/-- The value of a row of digits. -/
def decV (l : List UInt8) : Int := (((Lib.decFrom 0 l).getD 0 : Nat) : Int)
/-- The longest sign at the head: the first of the longest. -/
def bestS (s : ByteArray) : List ByteArray → ByteArray → ByteArray
  | [], b => b
  | x :: r, b => bestS s r (if b.size < x.size ∧ Lib.hasPrefix s.data.toList x.data.toList = true then x else b)
theorem bestS_cons (s x : ByteArray) (r : List ByteArray) (b : ByteArray) : bestS s (x :: r) b = bestS s r (if b.size < x.size ∧ Lib.hasPrefix s.data.toList x.data.toList = true then x else b) := rfl
theorem bestS_nil (s b : ByteArray) : bestS s [] b = b := rfl
def signs : List ByteArray := (impl_SignsOf.f).getD []
/-- What tokenAt answers. -/
def tokOf (s : ByteArray) : Int × Int × ByteArray × Int × Int :=
  if 0 < leadD s then (if 9 < leadD s ∨ (1 < leadD s ∧ bt s 0 = 48) then (0, 0, ⟨#[]⟩, 0, 0) else (1, decV (s.data.toList.take (leadD s)), ⟨#[]⟩, 0, (leadD s : Int)))
  else if 0 < lead s then (if 8 < lead s then (0, 0, ⟨#[]⟩, 0, 0) else (2, 0, s.extract 0 (lead s), 0, (lead s : Int)))
  else (3, 0, bestS s signs ⟨#[]⟩, 0, ((bestS s signs ⟨#[]⟩).size : Int))

theorem digB_val {b : UInt8} (h : digB b = true) : ∃ d, Lib.digitVal b = some d := by
  unfold digB digI at h
  simp only [Bool.and_eq_true, decide_eq_true_eq] at h
  unfold Lib.digitVal
  exact ⟨_, if_pos ⟨by omega, by omega⟩⟩
theorem decFrom_all : ∀ (l : List UInt8) (acc : Nat), (∀ x ∈ l, digB x = true) → ∃ m, Lib.decFrom acc l = some m := by
  intro l
  induction l with
  | nil => intro acc _; exact ⟨acc, rfl⟩
  | cons c r ih =>
    intro acc h
    obtain ⟨d, hd⟩ := digB_val (h c (by simp))
    simp only [Lib.decFrom, hd]
    exact ih _ (fun x hx => h x (by simp [hx]))
theorem atoi_dig (l : List UInt8) (hne : l ≠ []) (hd : ∀ x ∈ l, digB x = true) (hl : l.length ≤ 18) : Lib.atoiAll l = .ok (decV l) := by
  obtain ⟨m, hm⟩ := decFrom_all l 0 hd
  cases l with
  | nil => exact absurd rfl hne
  | cons c r =>
    have hc := hd c (by simp)
    unfold digB digI at hc
    simp only [Bool.and_eq_true, decide_eq_true_eq] at hc
    rw [Lib.atoiAll_plain c r (by omega) (by omega), Lib.signless_short hl]
    have hn : Lib.decNat (c :: r) = some m := by unfold Lib.decNat; simpa using hm
    rw [hn]
    unfold decV
    rw [hm]
    rfl
theorem lead_le (s : ByteArray) : lead s ≤ s.size := by
  unfold lead
  have := (List.takeWhile_prefix lettB (l := s.data.toList)).length_le
  simpa using this
theorem leadD_le (s : ByteArray) : leadD s ≤ s.size := by
  unfold leadD
  have := (List.takeWhile_prefix digB (l := s.data.toList)).length_le
  simpa using this
theorem leadD_take (s : ByteArray) : ∀ x ∈ s.data.toList.take (leadD s), digB x = true := by
  unfold leadD
  rw [← List.prefix_iff_eq_take.1 (List.takeWhile_prefix digB)]
  intro x hx
  have := List.all_takeWhile (l := s.data.toList) (p := digB)
  rw [List.all_eq_true] at this
  exact this x hx
/-- What stands in the result's cell behind a call. -/
theorem four_cells {w w1 : World} (hb : Below (w.alloc (.cells #[.int .i64 0, .int .i64 0, .string ⟨#[]⟩, .int .i64 0] 27)).heap.size (w.alloc (.cells #[.int .i64 0, .int .i64 0, .string ⟨#[]⟩, .int .i64 0] 27)) w1) (a b c d : Value) :
    w1.cell? ⟨w.heap.size, 0, none⟩ = some (.int .i64 0) ∧ w1.cell? ⟨w.heap.size, 1, none⟩ = some (.int .i64 0) ∧ w1.cell? ⟨w.heap.size, 2, none⟩ = some (.string ⟨#[]⟩) ∧ w1.cell? ⟨w.heap.size, 3, none⟩ = some (.int .i64 0)
      ∧ (w1.frozen? ⟨w.heap.size, 0, none⟩ = false ∧ w1.frozen? ⟨w.heap.size, 1, none⟩ = false ∧ w1.frozen? ⟨w.heap.size, 2, none⟩ = false ∧ w1.frozen? ⟨w.heap.size, 3, none⟩ = false)
      ∧ ((((w1.setCell ⟨w.heap.size, 0, none⟩ a).setCell ⟨w.heap.size, 1, none⟩ b).setCell ⟨w.heap.size, 2, none⟩ c).setCell ⟨w.heap.size, 3, none⟩ d).heap[w.heap.size]? = some (.cells #[a, b, c, d] 27 (0, 0))
      ∧ Below w.heap.size w ((((w1.setCell ⟨w.heap.size, 0, none⟩ a).setCell ⟨w.heap.size, 1, none⟩ b).setCell ⟨w.heap.size, 2, none⟩ c).setCell ⟨w.heap.size, 3, none⟩ d) := by
  have hk := blk_below (blk_new w (.cells #[.int .i64 0, .int .i64 0, .string ⟨#[]⟩, .int .i64 0] 27)) hb
  have hb0 := below_step (below_alloc (Below.refl w.heap.size w) (.cells #[.int .i64 0, .int .i64 0, .string ⟨#[]⟩, .int .i64 0] 27)) hb
  exact ⟨(blk_cell hk 0).trans rfl, (blk_cell hk 1).trans rfl, (blk_cell hk 2).trans rfl, (blk_cell hk 3).trans rfl, ⟨blk_frozen hk 0, blk_frozen hk 1, blk_frozen hk 2, blk_frozen hk 3⟩,
    blk_set (blk_set (blk_set (blk_set hk 0 a) 1 b) 2 c) 3 d, below_set (below_set (below_set (below_set hb0 (Nat.le_refl _)) (Nat.le_refl _)) (Nat.le_refl _)) (Nat.le_refl _)⟩

set_option maxRecDepth 100000 in
set_option maxHeartbeats 1000000 in
theorem tokenAt_calls (s : ByteArray) (hs : s.size ≤ 100000) (w : World) :
    Calls Tryd.prog 77 #[.string s] w fun e w' => e = .returned (.tuple #[.agg #[.int .i64 (tokOf s).1, .int .i64 (tokOf s).2.1, .string (tokOf s).2.2.1, .int .i64 (tokOf s).2.2.2.1], .int .i64 (tokOf s).2.2.2.2]) ∧ Below w.heap.size w w' := by
  have RD := Lib.hid (fun (W : World) => runDigit_calls s W (by unfold maxLen; omega))
  have RL := Lib.hid (fun (W : World) => runLetter_calls s W (by unfold maxLen; omega))
  have hdl := leadD_le s
  have hll := lead_le s
  have DT := Lib.hid (leadD_take s)
  unfold tokOf
  by_cases h1 : 0 < leadD s
  · rw [if_pos h1]
    obtain ⟨n, hn⟩ : ∃ n, n = leadD s := ⟨_, rfl⟩
    rw [← hn] at RD DT h1 hdl ⊢
    clear hn RL
    have c1 : decide ((0 : Int) < (n : Int)) = true := decide_eq_true (by omega)
    by_cases h2 : 9 < n
    · rw [if_pos (.inl h2)]
      have c2 : decide ((9 : Int) < (n : Int)) = true := decide_eq_true (by omega)
      clear DT h1
      go_enter Tryd.func77, Tryd.ntmps77
      go_wp2_with fail
      refine (RD.out _).mono ?_
      rintro e w1 ⟨rfl, hb⟩
      obtain ⟨k0, k1, k2, k3, ⟨f0, f1, f2, f3⟩, hbl, hbe⟩ := four_cells hb (.int .i64 0) (.int .i64 0) (.string ⟨#[]⟩) (.int .i64 0)
      clear hb
      have HBL := Lib.hid hbl
      have HBE := Lib.hid hbe
      clear hbl hbe
      go_wp2_with fail
      exact bodyPost_ret (results_ct rfl _ _ w.heap.size 27 _ (0, 0) _ rfl HBL.out Tryd.underlying27 rfl (by kernel_rfl)) rfl ⟨rfl, HBE.out⟩
    · have c2 : decide ((9 : Int) < (n : Int)) = false := decide_eq_false (by omega)
      have h0 : 0 < s.size := by omega
      have hb0 : bt s 0 = (s[0].toNat : Int) := by simp [bt, h0]
      by_cases h3 : 1 < n ∧ bt s 0 = 48
      · rw [if_pos (.inr h3)]
        have c3 : decide ((1 : Int) < (n : Int)) = true := decide_eq_true (by omega)
        have c4 : ((s[0].toNat : Int) == 48) = true := by rw [← hb0, h3.2]; rfl
        clear DT h3 hb0
        go_enter Tryd.func77, Tryd.ntmps77
        go_wp2_with fail
        refine (RD.out _).mono ?_
        rintro e w1 ⟨rfl, hb⟩
        obtain ⟨k0, k1, k2, k3, ⟨f0, f1, f2, f3⟩, hbl, hbe⟩ := four_cells hb (.int .i64 0) (.int .i64 0) (.string ⟨#[]⟩) (.int .i64 0)
        clear hb
        have HBL := Lib.hid hbl
        have HBE := Lib.hid hbe
        clear hbl hbe
        go_wp2_with fail
        exact bodyPost_ret (results_ct rfl _ _ w.heap.size 27 _ (0, 0) _ rfl HBL.out Tryd.underlying27 rfl (by kernel_rfl)) rfl ⟨rfl, HBE.out⟩
      · rw [if_neg (fun h => h.elim h2 h3)]
        have hl : (s.data.toList.take n).length = n := by rw [List.length_take]; have : s.data.toList.length = s.size := by simp
                                                          omega
        have hex : (s.extract 0 n).data.toList = s.data.toList.take n := by rw [Lib.extract_data]; simp
        have AT := Lib.hid (fun (W : World) => strconv_Atoi_ok (s.extract 0 n) (by rw [ByteArray.size_extract]; omega) (decV (s.data.toList.take n)) (by rw [hex]; exact atoi_dig _ (fun h => by rw [h] at hl; simp at hl; omega) DT.out (by omega)) W)
        obtain ⟨v, hv⟩ : ∃ v, v = decV (s.data.toList.take n) := ⟨_, rfl⟩
        rw [← hv] at AT ⊢
        clear DT hl hex hv
        by_cases h4 : 1 < n
        · have c3 : decide ((1 : Int) < (n : Int)) = true := decide_eq_true (by omega)
          have c4 : ((s[0].toNat : Int) == 48) = false := by rw [← hb0, beq_eq_false_iff_ne]; exact fun h => h3 ⟨h4, h⟩
          clear h3 hb0
          go_enter Tryd.func77, Tryd.ntmps77
          go_wp2_with fail
          refine (RD.out _).mono ?_
          rintro e w1 ⟨rfl, hb1⟩
          have HB1 := Lib.hid hb1
          clear hb1
          go_wp2_with fail
          refine (AT.out _).mono ?_
          rintro e w2 ⟨rfl, hw2⟩
          have hb := HB1.out.trans (Below.mono (show Below w1.heap.size w1 w2 by
            rcases hw2 with rfl | ⟨t, rfl⟩
            · exact Below.refl _ _
            · exact Lib.bytesWorld_below _ _ _) HB1.out.size)
          clear hw2
          obtain ⟨k0, k1, k2, k3, ⟨f0, f1, f2, f3⟩, hbl, hbe⟩ := four_cells hb (.int .i64 1) (.int .i64 v) (.string ⟨#[]⟩) (.int .i64 0)
          clear hb
          have HBL := Lib.hid hbl
          have HBE := Lib.hid hbe
          clear hbl hbe
          go_wp2_with fail
          exact bodyPost_ret (results_ct rfl _ _ w.heap.size 27 _ (0, 0) _ rfl HBL.out Tryd.underlying27 rfl (by kernel_rfl)) rfl ⟨rfl, HBE.out⟩
        · have c3 : decide ((1 : Int) < (n : Int)) = false := decide_eq_false (by omega)
          clear h3 hb0
          go_enter Tryd.func77, Tryd.ntmps77
          go_wp2_with fail
          refine (RD.out _).mono ?_
          rintro e w1 ⟨rfl, hb1⟩
          have HB1 := Lib.hid hb1
          clear hb1
          go_wp2_with fail
          refine (AT.out _).mono ?_
          rintro e w2 ⟨rfl, hw2⟩
          have hb := HB1.out.trans (Below.mono (show Below w1.heap.size w1 w2 by
            rcases hw2 with rfl | ⟨t, rfl⟩
            · exact Below.refl _ _
            · exact Lib.bytesWorld_below _ _ _) HB1.out.size)
          clear hw2
          obtain ⟨k0, k1, k2, k3, ⟨f0, f1, f2, f3⟩, hbl, hbe⟩ := four_cells hb (.int .i64 1) (.int .i64 v) (.string ⟨#[]⟩) (.int .i64 0)
          clear hb
          have HBL := Lib.hid hbl
          have HBE := Lib.hid hbe
          clear hbl hbe
          go_wp2_with fail
          exact bodyPost_ret (results_ct rfl _ _ w.heap.size 27 _ (0, 0) _ rfl HBL.out Tryd.underlying27 rfl (by kernel_rfl)) rfl ⟨rfl, HBE.out⟩
  · rw [if_neg h1]
    have c1 : decide ((0 : Int) < (leadD s : Int)) = false := decide_eq_false (by omega)
    have hz : leadD s = 0 := by omega
    rw [hz] at RD
    clear hz h1 hdl DT c1
    obtain ⟨n, hn⟩ : ∃ n, n = lead s := ⟨_, rfl⟩
    rw [← hn] at RL hll ⊢
    clear hn
    by_cases h2 : 0 < n
    · rw [if_pos h2]
      by_cases h3 : 8 < n
      · rw [if_pos h3]
        have c3 : decide ((8 : Int) < (n : Int)) = true := decide_eq_true (by omega)
        clear h3
        go_enter Tryd.func77, Tryd.ntmps77
        go_wp2_with fail
        refine (RD.out _).mono ?_
        rintro e w1 ⟨rfl, hb1⟩
        have HB1 := Lib.hid hb1
        clear hb1
        go_wp2_with fail
        refine (RL.out _).mono ?_
        rintro e w2 ⟨rfl, hb2⟩
        have hb := HB1.out.trans (hb2.mono HB1.out.size)
        clear hb2
        obtain ⟨k0, k1, k2, k3, ⟨f0, f1, f2, f3⟩, hbl, hbe⟩ := four_cells hb (.int .i64 0) (.int .i64 0) (.string ⟨#[]⟩) (.int .i64 0)
        clear hb
        have HBL := Lib.hid hbl
        have HBE := Lib.hid hbe
        clear hbl hbe
        go_wp2_with fail
        exact bodyPost_ret (results_ct rfl _ _ w.heap.size 27 _ (0, 0) _ rfl HBL.out Tryd.underlying27 rfl (by kernel_rfl)) rfl ⟨rfl, HBE.out⟩
      · rw [if_neg h3]
        have c3 : decide ((8 : Int) < (n : Int)) = false := decide_eq_false (by omega)
        clear h3
        go_enter Tryd.func77, Tryd.ntmps77
        go_wp2_with fail
        refine (RD.out _).mono ?_
        rintro e w1 ⟨rfl, hb1⟩
        have HB1 := Lib.hid hb1
        clear hb1
        go_wp2_with fail
        refine (RL.out _).mono ?_
        rintro e w2 ⟨rfl, hb2⟩
        have hb := HB1.out.trans (hb2.mono HB1.out.size)
        clear hb2
        obtain ⟨k0, k1, k2, k3, ⟨f0, f1, f2, f3⟩, hbl, hbe⟩ := four_cells hb (.int .i64 2) (.int .i64 0) (.string (s.extract 0 n)) (.int .i64 0)
        clear hb
        have HBL := Lib.hid hbl
        have HBE := Lib.hid hbe
        clear hbl hbe
        go_wp2_with fail
        exact bodyPost_ret (results_ct rfl _ _ w.heap.size 27 _ (0, 0) _ rfl HBL.out Tryd.underlying27 rfl (by kernel_rfl)) rfl ⟨rfl, HBE.out⟩
    · rw [if_neg h2]
      have c2 : decide ((0 : Int) < (n : Int)) = false := decide_eq_false (by omega)
      have hz : n = 0 := by omega
      rw [hz] at RL
      clear hz h2 c2 hll
      have SG := Lib.hid (fun (W : World) => impl_SignsOf.calls signs W rfl)
      have hsl : signs.length = 19 := rfl
      have HSZ := Lib.hid (show ∀ x ∈ signs, x.size ≤ 100 by decide +kernel)
      have HP := Lib.hid (fun (x : ByteArray) (W : World) => strings_HasPrefix s x W)
      obtain ⟨l, hl⟩ : ∃ l, l = signs := ⟨_, rfl⟩
      rw [← hl] at SG hsl HSZ ⊢
      clear hl
      go_enter Tryd.func77, Tryd.ntmps77
      go_wp2_with fail
      refine (RD.out _).mono ?_
      rintro e w1 ⟨rfl, hb1⟩
      have HB1 := Lib.hid hb1
      clear hb1
      go_wp2_with fail
      refine (RL.out _).mono ?_
      rintro e w2 ⟨rfl, hb2⟩
      have HB2 := Lib.hid (HB1.out.trans (hb2.mono HB1.out.size))
      clear hb2
      go_wp2_with fail
      refine (SG.out _).mono ?_
      rintro e w3 ⟨v0, rfl, hr, hb3⟩
      have HB3 := Lib.hid (HB2.out.trans (hb3.mono HB2.out.size))
      obtain ⟨A, c, hv, hlc, _⟩ := Kd.R_reads hr
      subst hv
      have HC := Lib.hid (Kd.R_reads' hr).2.2
      clear hr hb3
      go_wp2_with fail
      go_loopw [8, 10, 51] (fun v8 v10 v51 wr => ∃ (j : Nat) (b : ByteArray), j ≤ l.length ∧ v51 = .int .i64 j ∧ v8 = .string b ∧ b.size ≤ 100 ∧ bestS s (l.drop j) b = bestS s l ⟨#[]⟩ ∧ Below w3.heap.size w3 wr) (fun _ _ v51 _ => l.length - (intOf v51).toNat)
      case atStart => exact ⟨0, ⟨#[]⟩, Nat.zero_le _, rfl, rfl, by decide, rfl, Below.refl _ _⟩
      case round =>
        obtain ⟨j, b, hj, rfl, rfl, hb100, hbest, hBw⟩ := hrel
        have HBW := Lib.hid hBw
        have HBEST := Lib.hid hbest
        clear hBw hbest
        by_cases hlt : j < l.length
        · obtain ⟨x, hx⟩ : ∃ x, l[j]? = some x := ⟨l[j], by simp [hlt]⟩
          have hx100 := HSZ.out x (List.mem_of_getElem? hx)
          obtain ⟨ad, rfl, hcx⟩ := Kd.at_string HC.out (j : Int) (by omega) (by omega)
          have hrd : rdOf ByteArray.empty l (j : Int) = x := by unfold rdOf; rw [Int.toNat_natCast, List.getD_eq_getElem?_getD, hx]; rfl
          rw [hrd, Int.toNat_natCast] at hcx
          replace hcx := (HBW.out.cell (World.block_lt_of_cell? w3 _ hcx)).trans hcx
          have hdr : l.drop j = x :: l.drop (j + 1) := by
            rw [List.drop_eq_getElem_cons hlt]
            rw [List.getElem?_eq_getElem hlt] at hx
            rw [Option.some.inj hx]
          rw [hdr, bestS_cons] at HBEST
          clear hx hrd hdr
          by_cases h5 : b.size < x.size
          · have c5 : decide ((b.size : Int) < (x.size : Int)) = true := decide_eq_true (by omega)
            have HPX := Lib.hid (fun (W : World) => HP.out x W)
            cases h6 : Lib.hasPrefix s.data.toList x.data.toList with
            | true =>
              rw [if_pos ⟨h5, h6⟩] at HBEST
              simp only [h6] at HPX
              clear h6
              go_wp2_with fail
              refine (HPX.out _).mono ?_
              rintro e w4 ⟨rfl, rfl⟩
              go_wp2_with fail
              go_roundw
              case rel => exact ⟨j + 1, x, by omega, by go_num, rfl, by omega, HBEST.out, by repeat (first | exact HBW.out | apply below_alloc | apply pw_below_drewN | apply below_drew1)⟩
              case measure => simp [intOf]; omega
            | false =>
              rw [if_neg (fun h => by rw [h6] at h; cases h.2)] at HBEST
              simp only [h6] at HPX
              clear h6
              go_wp2_with fail
              refine (HPX.out _).mono ?_
              rintro e w4 ⟨rfl, rfl⟩
              go_wp2_with fail
              go_roundw
              case rel => exact ⟨j + 1, b, by omega, by go_num, rfl, by omega, HBEST.out, by repeat (first | exact HBW.out | apply below_alloc | apply pw_below_drewN | apply below_drew1)⟩
              case measure => simp [intOf]; omega
          · have c5 : decide ((b.size : Int) < (x.size : Int)) = false := decide_eq_false (by omega)
            rw [if_neg (fun h => h5 h.1)] at HBEST
            go_wp2_with fail
            go_roundw
            case rel => exact ⟨j + 1, b, by omega, by go_num, rfl, by omega, HBEST.out, by repeat (first | exact HBW.out | apply below_alloc | apply pw_below_drewN | apply below_drew1)⟩
            case measure => simp [intOf]; omega
        · obtain rfl : j = l.length := by omega
          rw [List.drop_length, bestS_nil] at HBEST
          have hb := HB3.out.trans (HBW.out.mono HB3.out.size)
          obtain ⟨k0, k1, k2, k3, ⟨f0, f1, f2, f3⟩, hbl, hbe⟩ := four_cells hb (.int .i64 3) (.int .i64 0) (.string b) (.int .i64 0)
          clear hb
          have HBL := Lib.hid hbl
          have HBE := Lib.hid hbe
          clear hbl hbe
          go_wp2_with fail
          exact bodyPost_ret (results_ct rfl _ _ w.heap.size 27 _ (0, 0) _ rfl HBL.out Tryd.underlying27 rfl (by kernel_rfl)) rfl ⟨by rw [← HBEST.out]; rfl, HBE.out⟩
end Go.Proofs.YtkmobaffmlcaiaaDoor.PAll
