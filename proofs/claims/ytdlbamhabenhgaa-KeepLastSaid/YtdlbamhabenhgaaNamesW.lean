/- DiskNames: the walk. -/
import Derived.Test.YtdlbamhabenhgaaNames
namespace Go.Proofs.Ytdlbamhabenhgaa
open Go.RowKit Go.Sat Go.Maps

def sX : ByteArray := ⟨#[120]⟩
def sY : ByteArray := ⟨#[121]⟩
def sZ2 : ByteArray := ⟨#[122]⟩

theorem has_names {w : World} (cs : Array Value) (ns : List Bs) (g n c : Nat) (hg : g = w.heap.size) (hn : n = ns.length) (h : cs.toList = ns.map encStr) (e : TypeId) (fr : Nat × Nat) : HasN (w.alloc (.cells cs e fr)) (.slice (some ⟨g, 0, none⟩) n c) ns := by
  subst hg
  subst hn
  refine ⟨by simp, some ⟨w.heap.size, 0, none⟩, c, rfl, fun e => (by cases e), fun a ha i u hu => ?_⟩
  cases ha
  have e1 : (⟨w.heap.size, 0, none⟩ : Addr).add i = ⟨w.heap.size, i, none⟩ := by unfold Addr.add; split <;> simp_all
  rw [e1]
  refine cell_of (new_block w _) ?_
  rw [← h] at hu
  simpa using hu

theorem OwnN.has {w : World} {v : Value} {ns : List Bs} (h : OwnN w v ns) : HasN w v ns := OwnR.holds h

theorem own_ge {wa : World} {v v' : Value} {B : Nat} (hloc : v'.ownBlock = v.ownBlock ∨ ∃ g, v'.ownBlock = some g ∧ wa.heap.size ≤ g) (hv : ∀ k, v.ownBlock = some k → B ≤ k) (hB : B ≤ wa.heap.size) : ∀ k, v'.ownBlock = some k → B ≤ k := fun k hk => by
  rcases hloc with e | ⟨g, e, hge⟩
  · exact hv k (by rw [← e]; exact hk)
  · rw [e] at hk
    cases hk
    omega

theorem HasN.below {w w1 : World} {v : Value} {l : List Bs} (h : HasN w v l) (hb : Below w.heap.size w w1) : HasN w1 v l := Holds.chg h (Chg.of_below hb) fun _ _ => id

set_option maxRecDepth 100000 in
set_option maxHeartbeats 4000000 in
theorem names_walk {w : World} {pa pb pc : Option Addr} {na nb nc ca cb cc : Nat} {a b c : Bs} (ha : HasB w (.slice pa na ca) a) (hb : HasB w (.slice pb nb cb) b) (hc : HasB w (.slice pc nc cc) c)
    (la : a.length ≤ 140737488355328) (lb : b.length ≤ 140737488355328) (lc : c.length ≤ 140737488355328) (sy : Bool) :
    Calls Try.prog 8 #[.slice pa na ca, .slice pb nb cb, .slice pc nc cc, .bool sy] w (True3 w) := by
  obtain ⟨p1, c1, ea⟩ := ha.slice
  obtain ⟨p2, c2, eb⟩ := hb.slice
  obtain ⟨p3, c3, ec⟩ := hc.slice
  cases ea
  cases eb
  cases ec
  by_cases h8 : a.length + b.length + c.length ≤ 8000
  · have Ha := Lib.hid ha
    have Hb := Lib.hid hb
    have Hc := Lib.hid hc
    have Hnew := Lib.hid (st_new (w := w) (w1 := w) 1048576 (by decide) (by decide) (Below.refl _ _))
    clear ha hb hc
    generalize hna : a.length = na at *
    generalize hnb : b.length = nb at *
    generalize hnc : c.length = nc at *
    have Hna := Lib.hid hna
    have Hnb := Lib.hid hnb
    have Hnc := Lib.hid hnc
    clear hna hnb hnc
    go_enter Try.func8, Try.ntmps8
    go_wp2_with fail
    refine Hnew.out.mono ?_
    rintro e w1 ⟨d, rfl, hd⟩
    have hap := st_append (hd.alloc (.cells #[.slice pa na ca] 23)) sX (.slice (some ⟨w1.heap.size, 0, none⟩) 1 1) [a] (rows_one (v := .slice pa na ca) (Ha.out.below hd.below) 23 (0, 0) _ 1 rfl (Nat.le_refl _)) (by simp) (by rw [List.flatten_cons, List.flatten_nil, List.append_nil, Hna.out]; omega) (by decide)
    rw [show DiskM.fresh (1048576 : Int).toNat = DiskM.fresh 1048576 from rfl, show nm sX = xN from rfl, n_app1 (by rw [Hna.out]; omega)] at hap
    have Hap := Lib.hid hap
    clear hd hap Hnew
    go_wp2_with fail
    refine Hap.out.mono ?_
    rintro e w2 ⟨rfl, hd, -⟩
    have hsy := st_sync hd [sX] w2.heap.size 1 rfl (0, 0) (by decide) (by decide)
    rw [show [sX].map nm = [xN] from rfl, n_sync1] at hsy
    have Hsy := Lib.hid hsy
    clear hd hsy Hap
    go_wp2_with fail
    refine Hsy.out.mono ?_
    rintro e w3 ⟨rfl, hd, -⟩
    have hap := st_append (hd.alloc (.cells #[.slice pb nb cb] 23)) sX (.slice (some ⟨w3.heap.size, 0, none⟩) 1 1) [b] (rows_one (v := .slice pb nb cb) (Hb.out.below hd.below) 23 (0, 0) _ 1 rfl (Nat.le_refl _)) (by simp) (by rw [List.flatten_cons, List.flatten_nil, List.append_nil, Hnb.out]; omega) (by decide)
    rw [show nm sX = xN from rfl, n_app2 (by rw [Hna.out, Hnb.out]; omega)] at hap
    have Hap := Lib.hid hap
    clear hd hap Hsy
    go_wp2_with fail
    refine Hap.out.mono ?_
    rintro e w4 ⟨rfl, hd, -⟩
    have hap := st_append (hd.alloc (.cells #[.slice pc nc cc] 23)) sY (.slice (some ⟨w4.heap.size, 0, none⟩) 1 1) [c] (rows_one (v := .slice pc nc cc) (Hc.out.below hd.below) 23 (0, 0) _ 1 rfl (Nat.le_refl _)) (by simp) (by rw [List.flatten_cons, List.flatten_nil, List.append_nil, Hnc.out]; omega) (by decide)
    rw [show nm sY = yN from rfl, n_app3 (by rw [List.length_append, Hna.out, Hnb.out, Hnc.out]; omega)] at hap
    have Hap := Lib.hid hap
    clear hd hap
    go_wp2_with fail
    refine Hap.out.mono ?_
    rintro e w5 ⟨rfl, hd, -⟩
    have Hd := Lib.hid hd
    clear hd Hap
    cases sy
    · have Hd := Lib.hid (show St w w5 d (nD2 (a ++ b) a.length c) NoF from Hd.out)
      go_wp2_with fail
      have hrn := st_rename Hd.out sX sY (by decide) (by decide)
      rw [show nm sX = xN from rfl, show nm sY = yN from rfl, n_ren] at hrn
      refine hrn.mono ?_
      clear hrn
      rintro e w6 ⟨rfl, hd, -⟩
      have Hli := Lib.hid (st_list hd)
      clear hd Hd
      go_wp2_with fail
      refine Hli.out.mono ?_
      rintro e w7 ⟨v7, rfl, hv7, -, -, hd⟩
      rw [n_names] at hv7
      have htx := texts_calls (HasN.below (OwnN.has hv7) ((Below.refl _ _).alloc (Nat.le_refl _) (.cells #[.string sY] 9))) (has_names (w := w7) #[.string sY] [yN] _ 1 1 rfl rfl rfl 9 (0, 0)) (by decide) (by decide)
      rw [beq_self_eq_true] at htx
      have Htx := Lib.hid htx
      have Hd := Lib.hid hd
      clear hd htx hv7 Hli
      go_wp2_with fail
      refine Htx.out.mono ?_
      rintro e w8 ⟨rfl, q8, rfl⟩
      have hrn := st_rename ((Hd.out.alloc (.cells #[.string sY] 9)).drewN q8) sX sZ2 (by decide) (by decide)
      rw [show nm sX = xN from rfl, show nm sZ2 = zzN from rfl, n_ren2] at hrn
      have Hrn := Lib.hid hrn
      clear hrn Hd Htx
      go_wp2_with fail
      refine Hrn.out.mono ?_
      rintro e w9 ⟨rfl, hd, -⟩
      have Hcr := Lib.hid (st_crash hd 0 (by decide) (by decide))
      clear hd Hrn
      go_wp2_with fail
      refine Hcr.out.mono ?_
      rintro e w10 ⟨rfl, hd, -⟩
      have hrd := st_read hd sY (by decide)
      rw [show nm sY = yN from rfl, n_get] at hrd
      have Hrd := Lib.hid hrd
      clear hd hrd Hcr
      go_wp2_with fail
      refine Hrd.out.mono ?_
      rintro e w11 ⟨v, rfl, hv, -, -, hd⟩
      have hv' : OwnB w11 5 v ((a ++ b).take a.length) := hv
      have Hv := Lib.hid hv'
      have Hd := Lib.hid hd
      clear hd hv hv' Hrd
      obtain ⟨i0, hi, hz0, hz1, hz2⟩ := info_parts (show (Try.prog.info? 5).map (fun i => (i.zero, i.size, i.bytes)) = some (some (.int .u8 0), 1, 1) by kernel_rfl)
      have X11 := Lib.hid ((Below.refl w11.heap.size w11).alloc (Nat.le_refl _) (.cells #[] 5))
      have Haw := Lib.hid (show Holds (w11.alloc (.cells #[] 5)) 1 (.slice pa na ca) na (bytesV a) from by
        have h := (Ha.out.below Hd.out.below).below X11.out
        unfold HasB at h
        rw [Hna.out] at h
        exact h)
      go_wp2_with (first | (at_builtin; refine wpList_app (w11.alloc (.cells #[] 5)) rfl (.tmp 89) (.tmp 90) 23 rfl 5 i0 (.int .u8 0) 1 1 Try.underlying23 hi hz0 hz1 hz2 rfl (by decide) (.slice (some ⟨w11.heap.size, 0, none⟩) 0 0) 0 [] rfl (own_empty w11 _) (.slice pa na ca) na (bytesV a) rfl Haw.out (bytesV_one _) (by unfold maxLen; omega) (by omega) ?_; intro v12 w12 hown12 hgrow12 hloc12; rw [Nat.zero_add, List.nil_append] at hown12; have hX := X11.out.grown hgrow12 X11.out.size (fun j e => by simp [Value.ownBlock] at e; omega); have hnew := own_ge (B := w11.heap.size) hloc12 (fun k hk => by simp [Value.ownBlock] at hk; omega) X11.out.size; have X12 := Lib.hid (And.intro hX (And.intro hown12 hnew)); clear hown12 hgrow12 hloc12 hX hnew))
      have hsm := same_calls (l := a) (m := a) (by have h := Hv.out.has.below X12.out.1; rw [List.take_left] at h; exact h) (OwnB.has (show OwnB w12 5 v12 a from by unfold OwnB; rw [Hna.out]; exact X12.out.2.1)) (by rw [Hna.out]; exact la) (by rw [Hna.out]; exact la)
      rw [beq_self_eq_true] at hsm
      have Hsm := Lib.hid hsm
      clear hsm
      refine Hsm.out.mono ?_
      rintro e w14 ⟨rfl, q14, rfl⟩
      have Hkn := Lib.hid (known_calls (w12.drewN q14))
      have Hb3 := Lib.hid ((Hd.out.next X12.out.1).drewN q14).below
      clear Hsm
      go_wp2_with fail
      refine Hkn.out.mono ?_
      rintro e w15 ⟨rfl, hb4⟩
      have Hb4 := Lib.hid (Hb3.out.trans (hb4.mono Hb3.out.size))
      clear hb4
      go_wp2_with fail
      go_ret
      exact ⟨rfl, Hb4.out⟩
    · have hsy := st_sync Hd.out [sX] w5.heap.size 1 rfl (0, 0) (by decide) (by decide)
      rw [show [sX].map nm = [xN] from rfl, n_sync2] at hsy
      have Hsy := Lib.hid hsy
      clear hsy Hd
      go_wp2_with fail
      refine Hsy.out.mono ?_
      rintro e w5b ⟨rfl, hd, -⟩
      have Hd := Lib.hid hd
      clear hd Hsy
      go_wp2_with fail
      have hrn := st_rename Hd.out sX sY (by decide) (by decide)
      rw [show nm sX = xN from rfl, show nm sY = yN from rfl, n_ren] at hrn
      refine hrn.mono ?_
      clear hrn
      rintro e w6 ⟨rfl, hd, -⟩
      have Hli := Lib.hid (st_list hd)
      clear hd Hd
      go_wp2_with fail
      refine Hli.out.mono ?_
      rintro e w7 ⟨v7, rfl, hv7, -, -, hd⟩
      rw [n_names] at hv7
      have htx := texts_calls (HasN.below (OwnN.has hv7) ((Below.refl _ _).alloc (Nat.le_refl _) (.cells #[.string sY] 9))) (has_names (w := w7) #[.string sY] [yN] _ 1 1 rfl rfl rfl 9 (0, 0)) (by decide) (by decide)
      rw [beq_self_eq_true] at htx
      have Htx := Lib.hid htx
      have Hd := Lib.hid hd
      clear hd htx hv7 Hli
      go_wp2_with fail
      refine Htx.out.mono ?_
      rintro e w8 ⟨rfl, q8, rfl⟩
      have hrn := st_rename ((Hd.out.alloc (.cells #[.string sY] 9)).drewN q8) sX sZ2 (by decide) (by decide)
      rw [show nm sX = xN from rfl, show nm sZ2 = zzN from rfl, n_ren2] at hrn
      have Hrn := Lib.hid hrn
      clear hrn Hd Htx
      go_wp2_with fail
      refine Hrn.out.mono ?_
      rintro e w9 ⟨rfl, hd, -⟩
      have Hcr := Lib.hid (st_crash hd 0 (by decide) (by decide))
      clear hd Hrn
      go_wp2_with fail
      refine Hcr.out.mono ?_
      rintro e w10 ⟨rfl, hd, -⟩
      have hrd := st_read hd sY (by decide)
      rw [show nm sY = yN from rfl, n_get] at hrd
      have Hrd := Lib.hid hrd
      clear hd hrd Hcr
      go_wp2_with fail
      refine Hrd.out.mono ?_
      rintro e w11 ⟨v, rfl, hv, -, -, hd⟩
      have hv' : OwnB w11 5 v ((a ++ b).take (a ++ b).length) := hv
      have Hv := Lib.hid hv'
      have Hd := Lib.hid hd
      clear hd hv hv' Hrd
      obtain ⟨i0, hi, hz0, hz1, hz2⟩ := info_parts (show (Try.prog.info? 5).map (fun i => (i.zero, i.size, i.bytes)) = some (some (.int .u8 0), 1, 1) by kernel_rfl)
      have X11 := Lib.hid ((Below.refl w11.heap.size w11).alloc (Nat.le_refl _) (.cells #[] 5))
      have Haw := Lib.hid (show Holds (w11.alloc (.cells #[] 5)) 1 (.slice pa na ca) na (bytesV a) from by
        have h := (Ha.out.below Hd.out.below).below X11.out
        unfold HasB at h
        rw [Hna.out] at h
        exact h)
      have Hbw := Lib.hid (show ∀ W, Below w11.heap.size w11 W → Holds W 1 (.slice pb nb cb) nb (bytesV b) from fun W hW => by
        have h := (Hb.out.below Hd.out.below).below hW
        unfold HasB at h
        rw [Hnb.out] at h
        exact h)
      go_wp2_with (first | (at_builtin; refine wpList_app (w11.alloc (.cells #[] 5)) rfl (.tmp 89) (.tmp 90) 23 rfl 5 i0 (.int .u8 0) 1 1 Try.underlying23 hi hz0 hz1 hz2 rfl (by decide) (.slice (some ⟨w11.heap.size, 0, none⟩) 0 0) 0 [] rfl (own_empty w11 _) (.slice pa na ca) na (bytesV a) rfl Haw.out (bytesV_one _) (by unfold maxLen; omega) (by omega) ?_; intro v12 w12 hown12 hgrow12 hloc12; rw [Nat.zero_add, List.nil_append] at hown12; have hX := X11.out.grown hgrow12 X11.out.size (fun j e => by simp [Value.ownBlock] at e; omega); have hnew := own_ge (B := w11.heap.size) hloc12 (fun k hk => by simp [Value.ownBlock] at hk; omega) X11.out.size; have X12 := Lib.hid (And.intro hX (And.intro hown12 hnew)); clear hown12 hgrow12 hloc12 hX hnew) | (at_builtin; refine wpList_app w12 rfl (.tmp 93) (.tmp 94) 23 rfl 5 i0 (.int .u8 0) 1 1 Try.underlying23 hi hz0 hz1 hz2 rfl (by decide) v12 na (bytesV a) rfl X12.out.2.1 (.slice pb nb cb) nb (bytesV b) rfl (Hbw.out _ X12.out.1) (bytesV_one _) (by unfold maxLen; omega) (by omega) ?_; intro v13 w13 hown13 hgrow13 hloc13; have hX := X12.out.1.grown hgrow13 X12.out.1.size X12.out.2.2; have X13 := Lib.hid (And.intro hX hown13); clear hown13 hgrow13 hloc13 hX))
      have hsm := same_calls (l := a ++ b) (m := a ++ b) (by have h := Hv.out.has.below X13.out.1; rw [List.take_length] at h; exact h) (OwnB.has (show OwnB w13 5 v13 (a ++ b) from by unfold OwnB; rw [List.length_append, Hna.out, Hnb.out, bytesV_app]; exact X13.out.2)) (by rw [List.length_append, Hna.out, Hnb.out]; omega) (by rw [List.length_append, Hna.out, Hnb.out]; omega)
      rw [beq_self_eq_true] at hsm
      have Hsm := Lib.hid hsm
      clear hsm
      refine Hsm.out.mono ?_
      rintro e w14 ⟨rfl, q14, rfl⟩
      have Hkn := Lib.hid (known_calls (w13.drewN q14))
      have Hb3 := Lib.hid ((Hd.out.next X13.out.1).drewN q14).below
      clear Hsm
      go_wp2_with fail
      refine Hkn.out.mono ?_
      rintro e w15 ⟨rfl, hb4⟩
      have Hb4 := Lib.hid (Hb3.out.trans (hb4.mono Hb3.out.size))
      clear hb4
      go_wp2_with fail
      go_ret
      exact ⟨rfl, Hb4.out⟩
  · generalize a.length = na at *
    generalize b.length = nb at *
    generalize c.length = nc at *
    clear ha hb hc
    go_enter Try.func8, Try.ntmps8
    go_wp2_with fail
    go_ret
    exact ⟨rfl, Below.refl _ _⟩
end Go.Proofs.Ytdlbamhabenhgaa
