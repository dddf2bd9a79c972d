/- DiskMany: the walk. -/
import Derived.Test.YtdlbamhabenhgaaMany
import Derived.Test.YtdlbamhabenhgaaNamesW
namespace Go.Proofs.Ytdlbamhabenhgaa
open Go.RowKit Go.Sat Go.Maps

/-- Sync without a name. -/
theorem st_sync0 {w w1 : World} {d : Nat} {D : DiskM} {F : Nat → Prop} (h : St w w1 d D F) :
    Calls Try.prog 17 #[.pointer (some ⟨d, 0, none⟩), .slice none 0 0] w1 (Told w d F w1 (D.sync [])) := by
  obtain ⟨own, hd, hb, hnn, hF⟩ := h
  refine (sync_calls hd none [] 0 (.inl rfl) (by decide) (by simp) (fun a ha => by cases ha)).mono ?_
  rintro e w' ⟨own', rfl, hd', hc, hx⟩
  exact ⟨rfl, St.step hb hnn hF hd' hc hx⟩

theorem rows_none {w : World} : RowsAt w (.slice none 0 0) [] := ⟨none, 0, rfl, Nat.le_refl _, fun h => absurd rfl h⟩

theorem two_read {w w1 : World} {da db : Nat} {DA DB : DiskM} (h : Two w w1 da DA db DB) (s : ByteArray) (hs : s.size ≤ 9223372036854775807) :
    Calls Try.prog 19 #[.pointer (some ⟨da, 0, none⟩), .string s] w1 fun e w' => ∃ v, e = .returned (.tuple #[v, .int .i64 (readE (Sat.get (nm s) DA.files))]) ∧ OwnB w' 5 v (dataOf (Sat.get (nm s) DA.files)) ∧ Below w1.heap.size w1 w' ∧ Two w w' da DA db DB := by
  obtain ⟨ownB, hB, hn, hS⟩ := h.open
  refine (st_read hS s hs).mono ?_
  rintro e w' ⟨v, rfl, hv, -, hb, -⟩
  exact ⟨v, rfl, hv, hb, h.next hb⟩

theorem two_list {w w1 : World} {da db : Nat} {DA DB : DiskM} (h : Two w w1 da DA db DB) :
    Calls Try.prog 28 #[.pointer (some ⟨da, 0, none⟩)] w1 fun e w' => ∃ v, e = .returned v ∧ OwnN w' v (namesOf DA) ∧ Two w w' da DA db DB := by
  obtain ⟨ownB, hB, hn, hS⟩ := h.open
  refine (st_list hS).mono ?_
  rintro e w' ⟨v, rfl, hv, -, hb, -⟩
  exact ⟨v, rfl, hv, h.next hb⟩

theorem Two.okA {w w1 : World} {da db : Nat} {DA DB : DiskM} (h : Two w w1 da DA db DB) : DA.OK := let ⟨_, _, _, hS⟩ := h.open; hS.ok

theorem below_on {w W W' : World} (h : Below w.heap.size w W) (k : Below W.heap.size W W') : Below w.heap.size w W' := h.trans (k.mono h.size)

theorem two_new {w w1 : World} {da : Nat} {DA : DiskM} (h : St w w1 da DA NoF) (n : Int) (h0 : 0 ≤ n) (h1 : n ≤ 1073741824) :
    Calls Try.prog 15 #[.int .i64 n] w1 fun e w' => ∃ db, e = .returned (.tuple #[.pointer (some ⟨db, 0, none⟩), .int .i64 0]) ∧ Two w w' da DA db (DiskM.fresh n.toNat) := by
  obtain ⟨ownA, hA, hb, hnn, _⟩ := h
  refine (new_calls n w1 h0 h1).mono ?_
  rintro e w' ⟨d, own, rfl, hd, hc, hn⟩
  refine ⟨d, rfl, ownA, own, hA.chg hc fun _ h => h.elim, hd, ((Chg.of_below hb).trans hc fun _ _ h => h).below (Nat.le_refl _) fun _ _ => id, fun k => ?_, fun k hk => ⟨hnn k (.inl hk), hn k (Nat.lt_of_lt_of_le hk hb.size)⟩⟩
  by_cases e : k < w1.heap.size
  · exact .inr (hn k e)
  · exact .inl (own_new hA (by omega))

set_option maxRecDepth 100000 in
set_option maxHeartbeats 4000000 in
theorem many_walk {w : World} {p : Option Addr} {n c : Nat} {ls : List Bs} (hx : RowsAt w (.slice p n c) ls) (hn : n ≤ 140737488355328) (hrow : ∀ l ∈ ls, l.length ≤ 140737488355328) (tw : Bool) (dr : Int)
    (hdr : -9223372036854775808 ≤ dr) (hdr' : dr ≤ 9223372036854775807) :
    Calls Try.prog 7 #[.slice p n c, .bool tw, .int .i64 dr] w (True3 w) := by
  have hnl := RowsAt.len hx
  have Hx := Lib.hid hx
  have Hrow := Lib.hid hrow
  have Hnl := Lib.hid hnl
  clear hx hrow hnl
  go_enter Try.func7, Try.ntmps7
  go_wp2_with fail
  go_loop [7, 8] (fun a i => ∃ k : Nat, k ≤ n ∧ i = .int .i64 k ∧ a = .int .i64 ((cost (ls.take k) : Nat) : Int) ∧ cost (ls.take k) ≤ 8000) (fun _ i => n - (intOf i).toNat)
  case atStart => exact ⟨0, Nat.zero_le _, rfl, rfl, by simp [cost]⟩
  case round =>
    obtain ⟨k, hk, rfl, rfl, hck⟩ := hrel
    by_cases hlt : k < n
    · have hltl : k < ls.length := by rw [← Hnl.out]; exact hlt
      obtain ⟨-, b, o, v, rfl, hcell, hv⟩ := RowsAt.row Hx.out hltl
      have hct := cost_take ls k hltl
      have hrl := Hrow.out _ (List.getElem_mem hltl)
      obtain ⟨pv, cv, rfl⟩ := hv.slice
      have Hct := Lib.hid hct
      clear hv hct
      generalize hm : ls[k].length = m at *
      generalize hC : cost (ls.take k) = C at *
      have HC := Lib.hid hC
      have Hm := Lib.hid hm
      clear hC hm
      by_cases hm8 : m ≤ 8000
      · by_cases hs8 : C + 1 + m ≤ 8000
        · have Hc8 := Lib.hid (show cost (ls.take (k + 1)) ≤ 8000 by rw [Hct.out]; omega)
          go_wp2_with fail
          go_round
          case rel => exact ⟨k + 1, by omega, by go_num, by rw [Hct.out]; go_num, Hc8.out⟩
          case measure => simp [intOf]; omega
        · go_wp2_with fail
          go_ret
          exact ⟨rfl, Below.refl _ _⟩
      · go_wp2_with fail
        go_ret
        exact ⟨rfl, Below.refl _ _⟩
    · have hls : ls.take k = ls := List.take_of_length_le (by have := Hnl.out; omega)
      rw [hls] at hck ⊢
      have hkn : k = n := by omega
      have hfl : ls.flatten.length ≤ 8000 := by
        have := cost_flat ls
        omega
      have hnle : n ≤ 8000 := by
        have := cost_flat ls
        have := Hnl.out
        omega
      have Hfl := Lib.hid hfl
      generalize hC : cost ls = C at *
      have Hnew := Lib.hid (st_new (w := w) (w1 := w) 1048576 (by decide) (by decide) (Below.refl _ _))
      clear hC hfl hkn hls
      go_wp2_with fail
      refine Hnew.out.mono ?_
      rintro e w1 ⟨da, rfl, hd⟩
      have Hnew2 := Lib.hid (two_new (show St w w1 da (DiskM.fresh 1048576) NoF from hd) 1048576 (by decide) (by decide))
      clear hd Hnew hk hck
      go_wp2_with fail
      refine Hnew2.out.mono ?_
      rintro e w2 ⟨db, rfl, ht⟩
      have ht : Two w w2 da (DiskM.fresh 1048576) db (DiskM.fresh 1048576) := ht
      have h1 := two_told ht (Below.refl _ _) fun F hS => st_append hS sX (.slice p n c) ls (rows_below Hx.out hS.below) (by rw [← Hnl.out]; omega) (by have := Hfl.out; omega) (by decide)
      rw [show nm sX = xN from rfl, m_app Hfl.out] at h1
      have H1 := Lib.hid h1
      clear ht h1 Hnew2
      go_wp2_with fail
      refine H1.out.mono ?_
      rintro e w3 ⟨rfl, ht⟩
      have h1 := two_told ht.swap (Below.refl _ _) fun F hS => st_append hS sX (.slice none 0 0) [] rows_none (by decide) (by decide) (by decide)
      rw [show nm sX = xN from rfl, show ([] : List Bs).flatten = [] from rfl, m_app (X := []) (by decide)] at h1
      have H2 := Lib.hid h1
      clear ht h1 H1
      go_wp2_with fail
      refine H2.out.mono ?_
      rintro e w4 ⟨rfl, ht⟩
      have Ht := Lib.hid ht
      clear ht H2
      go_wp2_with fail
      go_loopw [13] (fun i wr => ∃ k : Nat, k ≤ n ∧ i = .int .i64 k ∧ Two w wr db (nD1 (ls.take k).flatten 0) da (nD1 ls.flatten 0)) (fun i _ => n - (intOf i).toNat)
      case atStart => exact ⟨0, Nat.zero_le _, rfl, Ht.out⟩
      case round =>
        clear Ht
        obtain ⟨k, hk, rfl, hr⟩ := hrel
        by_cases hlt : k < n
        · have hltl : k < ls.length := by rw [← Hnl.out]; exact hlt
          obtain ⟨-, b, o, v, rfl, hcell, hv⟩ := RowsAt.row Hx.out hltl
          have hcell2 := (hr.below.cell (World.block_lt_of_cell? w _ hcell)).trans hcell
          obtain ⟨pv, cv, rfl⟩ := hv.slice
          generalize hml : ls[k].length = ml at *
          have h1 := two_told (wc := wr.alloc (.cells #[.slice pv ml cv] 23)) hr ((Below.refl _ _).alloc (Nat.le_refl _) _) fun F hS => st_append (hS.alloc (.cells #[.slice pv ml cv] 23)) sX (.slice (some ⟨wr.heap.size, 0, none⟩) 1 1) [ls[k]] (rows_one (v := .slice pv ml cv) (hv.below hr.below) 23 (0, 0) _ 1 rfl (Nat.le_refl _)) (by simp) (by have := flat_take hltl; have h2 := flat_take_le ls (k + 1); rw [this, List.length_append] at h2; have := Hfl.out; rw [List.flatten_cons, List.flatten_nil, List.append_nil]; omega) (by decide)
          rw [show nm sX = xN from rfl, m_next hltl Hfl.out] at h1
          have H1 := Lib.hid h1
          clear hr hv hcell hml h1
          go_wp2_with fail
          refine H1.out.mono ?_
          rintro e w5 ⟨rfl, ht⟩
          have Ht := Lib.hid ht
          clear ht H1
          go_wp2_with fail
          go_roundw
          case rel => exact ⟨k + 1, by omega, by go_num, Ht.out⟩
          case measure => simp [intOf]; omega
        · have hkl : ls.take k = ls := List.take_of_length_le (by have := Hnl.out; omega)
          rw [hkl] at hr
          have hXl := Hfl.out
          generalize hXX : ls.flatten = X at *
          have Ht := Lib.hid hr.swap
          have HXl := Lib.hid hXl
          have kc := fun (w : World) (C : Array Value) (n c : Nat) => Lib.run_convert_bytes_const (P := Try.prog) w 23 5 C n c Try.underlying23 Try.underlying5
          clear hr hkl hXl Hfl hXX
          go_wp2_with fail
          refine (two_told Ht.out (((Below.refl _ _).alloc (Nat.le_refl _) _).alloc (by simp) _) fun F hS => st_append ((hS.alloc _).alloc _) sY _ [b12] (rows_one (has_lit _ b12 _ _ 2 rfl rfl rfl) 23 (0, 0) _ 1 (by simp) (Nat.le_refl _)) (by decide) (by decide) (by decide)).mono ?_
          rw [show nm sY = yN from rfl, m_y HXl.out]
          rintro e w5 ⟨rfl, ht⟩
          have Ht5 := Lib.hid ht.swap
          clear ht Ht
          go_wp2_with fail
          refine (two_told Ht5.out (((Below.refl _ _).alloc (Nat.le_refl _) _).alloc (by simp) _) fun F hS => st_append ((hS.alloc _).alloc _) sY _ [b12] (rows_one (has_lit _ b12 _ _ 2 rfl rfl rfl) 23 (0, 0) _ 1 (by simp) (Nat.le_refl _)) (by decide) (by decide) (by decide)).mono ?_
          rw [show nm sY = yN from rfl, m_y HXl.out]
          rintro e w6 ⟨rfl, ht⟩
          have Ht6 := Lib.hid ht.swap
          clear ht Ht5
          cases tw
          · go_wp2_with fail
            have h1 := two_told Ht6.out ((Below.refl w6.heap.size w6).alloc (Nat.le_refl _) _) fun F hS => st_sync hS [sX, sZ2, sY] w6.heap.size 3 rfl (0, 0) (by decide) (by decide)
            rw [show [sX, sZ2, sY].map nm = [xN, zzN, yN] from rfl, m_xzy] at h1
            have H1 := Lib.hid h1
            clear h1 Ht6
            refine H1.out.mono ?_
            rintro e w7 ⟨rfl, ht⟩
            have h1 := two_told ht.swap ((Below.refl w7.heap.size w7).alloc (Nat.le_refl _) _) fun F hS => st_sync hS [sX] w7.heap.size 1 rfl (0, 0) (by decide) (by decide)
            rw [show [sX].map nm = [xN] from rfl, m_x] at h1
            have H2 := Lib.hid h1
            clear h1 ht H1
            go_wp2_with fail
            refine H2.out.mono ?_
            rintro e w8 ⟨rfl, ht⟩
            have h1 := two_told ht.swap (Below.refl _ _) fun F hS => st_sync0 hS
            rw [m_none] at h1
            have H3 := Lib.hid h1
            clear h1 ht H2
            go_wp2_with fail
            refine H3.out.mono ?_
            rintro e w9 ⟨rfl, ht⟩
            have H4 := Lib.hid (two_told0 ht fun F hS => st_crash hS dr hdr hdr')
            clear ht H3
            go_wp2_with fail
            refine H4.out.mono ?_
            rintro e w10 ⟨rfl, ht⟩
            have H5 := Lib.hid (two_told0 ht.swap fun F hS => st_crash hS dr hdr hdr')
            clear ht H4
            go_wp2_with fail
            refine H5.out.mono ?_
            rintro e w11 ⟨rfl, ht⟩
            have H6 := Lib.hid (two_read ht.swap sX (by decide))
            clear ht H5
            go_wp2_with fail
            refine H6.out.mono ?_
            rintro e w12 ⟨v1, rfl, hv1, hb1, ht⟩
            have V1 := Lib.hid hv1
            have H7 := Lib.hid (two_read ht.swap sX (by decide))
            clear ht hv1 hb1 H6
            go_wp2_with fail
            refine H7.out.mono ?_
            rintro e w13 ⟨v2, rfl, hv2, hb2, ht⟩
            have V2 := Lib.hid hv2
            have B2 := Lib.hid hb2
            have H8 := Lib.hid (two_read ht.swap sY (by decide))
            clear ht hv2 hb2 H7
            go_wp2_with fail
            refine H8.out.mono ?_
            rintro e w14 ⟨v3, rfl, hv3, hb3, ht⟩
            have V3 := Lib.hid hv3
            have B3 := Lib.hid hb3
            have H9 := Lib.hid (two_read ht.swap sY (by decide))
            clear ht hv3 hb3 H8
            go_wp2_with fail
            refine H9.out.mono ?_
            rintro e w15 ⟨v4, rfl, hv4, hb4, ht⟩
            have hbd : ∀ s, (dataOf (Sat.get (nm s) (DiskM.crash (mS X X.length 0) dr).files)).length ≤ 140737488355328 := fun s => by
              have ho := ht.okA
              have h1 := got_le ho (nm s)
              have h2 := ho.used
              have h3 := ho.room
              omega
            have hs1 := same_calls (w := w15) ((V1.out.has.below B2.out).below (below_on B3.out hb4)) (V2.out.has.below (below_on B3.out hb4)) (hbd _) (hbd _)
            rw [beq_self_eq_true] at hs1
            have Hs1 := Lib.hid hs1
            have hs2 := fun q => same_calls (w := w15.drewN q) ((V3.out.has.below hb4).below ⟨rfl, rfl, rfl, Nat.le_refl _, fun _ _ => rfl⟩) (hv4.has.below ⟨rfl, rfl, rfl, Nat.le_refl _, fun _ _ => rfl⟩) (hbd _) (hbd _)
            have Ht := Lib.hid ht.swap
            have Hs2 := Lib.hid hs2
            clear ht hs1 hs2 hv4 hb4 H9 hbd
            go_wp2_with fail
            refine Hs1.out.mono ?_
            rintro e w16 ⟨rfl, q1, rfl⟩
            go_wp2_with fail
            refine (Hs2.out q1).mono ?_
            rw [beq_self_eq_true]
            rintro e w17 ⟨rfl, q2, rfl⟩
            have ht := (Ht.out.next (w2 := (w15.drewN q1).drewN q2) ⟨rfl, rfl, rfl, Nat.le_refl _, fun _ _ => rfl⟩)
            generalize (w15.drewN q1).drewN q2 = w17 at ht ⊢
            have h1 := two_told ht ((Below.refl w17.heap.size w17).alloc (Nat.le_refl _) _) fun F hS => st_remove hS [sX, sY] w17.heap.size 2 rfl (0, 0) (by decide) (by decide)
            rw [show [sX, sY].map nm = [xN, yN] from rfl, m_rem] at h1
            have H10 := Lib.hid h1
            clear h1 ht Ht
            go_wp2_with fail
            refine H10.out.mono ?_
            rintro e w18 ⟨rfl, ht⟩
            have H11 := Lib.hid (two_list ht)
            clear ht H10
            go_wp2_with fail
            refine H11.out.mono ?_
            rintro e w19 ⟨v5, rfl, hv5, ht⟩
            obtain ⟨p5, c5, rfl⟩ := OwnR.shape hv5
            have h1 := two_told ht ((Below.refl w19.heap.size w19).alloc (Nat.le_refl _) _) fun F hS => st_remove hS [sX] w19.heap.size 1 rfl (0, 0) (by decide) (by decide)
            rw [show [sX].map nm = [xN] from rfl, m_rem2] at h1
            have H12 := Lib.hid h1
            simp only [show (namesOf ⟨1048576, [], none⟩).length = 0 from rfl]
            clear h1 ht hv5 H11
            go_wp2_with fail
            refine H12.out.mono ?_
            rintro e w20 ⟨rfl, ht⟩
            have Hkn := Lib.hid (known_calls w20)
            have Hb3 := Lib.hid ht.below
            clear ht H12
            go_wp2_with fail
            refine Hkn.out.mono ?_
            rintro e w21 ⟨rfl, hb4⟩
            have Hb4 := Lib.hid (Hb3.out.trans (hb4.mono Hb3.out.size))
            clear hb4
            go_wp2_with fail
            go_ret
            exact ⟨rfl, Hb4.out⟩
          · have h1 := two_told Ht6.out ((Below.refl w6.heap.size w6).alloc (Nat.le_refl _) _) fun F hS => st_sync hS [sX, sY] w6.heap.size 2 rfl (0, 0) (by decide) (by decide)
            rw [show [sX, sY].map nm = [xN, yN] from rfl, m_both] at h1
            have H0 := Lib.hid h1
            clear h1 Ht6
            go_wp2_with fail
            refine H0.out.mono ?_
            rintro e w6a ⟨rfl, ht⟩
            have h1 := two_told ht.swap ((Below.refl w6a.heap.size w6a).alloc (Nat.le_refl _) _) fun F hS => st_sync hS [sX] w6a.heap.size 1 rfl (0, 0) (by decide) (by decide)
            rw [show [sX].map nm = [xN] from rfl, m_x] at h1
            have H0a := Lib.hid h1
            clear h1 ht H0
            go_wp2_with fail
            refine H0a.out.mono ?_
            rintro e w6b ⟨rfl, ht⟩
            have h1 := two_told ht ((Below.refl w6b.heap.size w6b).alloc (Nat.le_refl _) _) fun F hS => st_sync hS [sY] w6b.heap.size 1 rfl (0, 0) (by decide) (by decide)
            rw [show [sY].map nm = [yN] from rfl, m_yy] at h1
            have H0b := Lib.hid h1
            clear h1 ht H0a
            go_wp2_with fail
            refine H0b.out.mono ?_
            rintro e w6c ⟨rfl, ht⟩
            have Ht6c := Lib.hid ht.swap
            clear ht H0b
            go_wp2_with fail
            have h1 := two_told Ht6c.out ((Below.refl w6c.heap.size w6c).alloc (Nat.le_refl _) _) fun F hS => st_sync hS [sX, sZ2, sY] w6c.heap.size 3 rfl (0, 0) (by decide) (by decide)
            rw [show [sX, sZ2, sY].map nm = [xN, zzN, yN] from rfl, m_xzy] at h1
            have H1 := Lib.hid h1
            clear h1 Ht6c
            refine H1.out.mono ?_
            rintro e w7 ⟨rfl, ht⟩
            have h1 := two_told ht.swap ((Below.refl w7.heap.size w7).alloc (Nat.le_refl _) _) fun F hS => st_sync hS [sX] w7.heap.size 1 rfl (0, 0) (by decide) (by decide)
            rw [show [sX].map nm = [xN] from rfl, m_x] at h1
            have H2 := Lib.hid h1
            clear h1 ht H1
            go_wp2_with fail
            refine H2.out.mono ?_
            rintro e w8 ⟨rfl, ht⟩
            have h1 := two_told ht.swap (Below.refl _ _) fun F hS => st_sync0 hS
            rw [m_none] at h1
            have H3 := Lib.hid h1
            clear h1 ht H2
            go_wp2_with fail
            refine H3.out.mono ?_
            rintro e w9 ⟨rfl, ht⟩
            have H4 := Lib.hid (two_told0 ht fun F hS => st_crash hS dr hdr hdr')
            clear ht H3
            go_wp2_with fail
            refine H4.out.mono ?_
            rintro e w10 ⟨rfl, ht⟩
            have H5 := Lib.hid (two_told0 ht.swap fun F hS => st_crash hS dr hdr hdr')
            clear ht H4
            go_wp2_with fail
            refine H5.out.mono ?_
            rintro e w11 ⟨rfl, ht⟩
            have H6 := Lib.hid (two_read ht.swap sX (by decide))
            clear ht H5
            go_wp2_with fail
            refine H6.out.mono ?_
            rintro e w12 ⟨v1, rfl, hv1, hb1, ht⟩
            have V1 := Lib.hid hv1
            have H7 := Lib.hid (two_read ht.swap sX (by decide))
            clear ht hv1 hb1 H6
            go_wp2_with fail
            refine H7.out.mono ?_
            rintro e w13 ⟨v2, rfl, hv2, hb2, ht⟩
            have V2 := Lib.hid hv2
            have B2 := Lib.hid hb2
            have H8 := Lib.hid (two_read ht.swap sY (by decide))
            clear ht hv2 hb2 H7
            go_wp2_with fail
            refine H8.out.mono ?_
            rintro e w14 ⟨v3, rfl, hv3, hb3, ht⟩
            have V3 := Lib.hid hv3
            have B3 := Lib.hid hb3
            have H9 := Lib.hid (two_read ht.swap sY (by decide))
            clear ht hv3 hb3 H8
            go_wp2_with fail
            refine H9.out.mono ?_
            rintro e w15 ⟨v4, rfl, hv4, hb4, ht⟩
            have hbd : ∀ s, (dataOf (Sat.get (nm s) (DiskM.crash (mS X X.length 2) dr).files)).length ≤ 140737488355328 := fun s => by
              have ho := ht.okA
              have h1 := got_le ho (nm s)
              have h2 := ho.used
              have h3 := ho.room
              omega
            have hs1 := same_calls (w := w15) ((V1.out.has.below B2.out).below (below_on B3.out hb4)) (V2.out.has.below (below_on B3.out hb4)) (hbd _) (hbd _)
            rw [beq_self_eq_true] at hs1
            have Hs1 := Lib.hid hs1
            have hs2 := fun q => same_calls (w := w15.drewN q) ((V3.out.has.below hb4).below ⟨rfl, rfl, rfl, Nat.le_refl _, fun _ _ => rfl⟩) (hv4.has.below ⟨rfl, rfl, rfl, Nat.le_refl _, fun _ _ => rfl⟩) (hbd _) (hbd _)
            have Ht := Lib.hid ht.swap
            have Hs2 := Lib.hid hs2
            clear ht hs1 hs2 hv4 hb4 H9 hbd
            go_wp2_with fail
            refine Hs1.out.mono ?_
            rintro e w16 ⟨rfl, q1, rfl⟩
            go_wp2_with fail
            refine (Hs2.out q1).mono ?_
            rw [beq_self_eq_true]
            rintro e w17 ⟨rfl, q2, rfl⟩
            have ht := (Ht.out.next (w2 := (w15.drewN q1).drewN q2) ⟨rfl, rfl, rfl, Nat.le_refl _, fun _ _ => rfl⟩)
            generalize (w15.drewN q1).drewN q2 = w17 at ht ⊢
            have h1 := two_told ht ((Below.refl w17.heap.size w17).alloc (Nat.le_refl _) _) fun F hS => st_remove hS [sX, sY] w17.heap.size 2 rfl (0, 0) (by decide) (by decide)
            rw [show [sX, sY].map nm = [xN, yN] from rfl, m_rem] at h1
            have H10 := Lib.hid h1
            clear h1 ht Ht
            go_wp2_with fail
            refine H10.out.mono ?_
            rintro e w18 ⟨rfl, ht⟩
            have H11 := Lib.hid (two_list ht)
            clear ht H10
            go_wp2_with fail
            refine H11.out.mono ?_
            rintro e w19 ⟨v5, rfl, hv5, ht⟩
            obtain ⟨p5, c5, rfl⟩ := OwnR.shape hv5
            have h1 := two_told ht ((Below.refl w19.heap.size w19).alloc (Nat.le_refl _) _) fun F hS => st_remove hS [sX] w19.heap.size 1 rfl (0, 0) (by decide) (by decide)
            rw [show [sX].map nm = [xN] from rfl, m_rem2] at h1
            have H12 := Lib.hid h1
            simp only [show (namesOf ⟨1048576, [], none⟩).length = 0 from rfl]
            clear h1 ht hv5 H11
            go_wp2_with fail
            refine H12.out.mono ?_
            rintro e w20 ⟨rfl, ht⟩
            have Hkn := Lib.hid (known_calls w20)
            have Hb3 := Lib.hid ht.below
            clear ht H12
            go_wp2_with fail
            refine Hkn.out.mono ?_
            rintro e w21 ⟨rfl, hb4⟩
            have Hb4 := Lib.hid (Hb3.out.trans (hb4.mono Hb3.out.size))
            clear hb4
            go_wp2_with fail
            go_ret
            exact ⟨rfl, Hb4.out⟩
end Go.Proofs.Ytdlbamhabenhgaa
