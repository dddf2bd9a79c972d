/- The document's disk: Used, Read, List. The contract of keep.Clear: the walk. What keep.Save leaves on a disk with room (plain laws). What keep.Load says of what keep.Save left, behind a crash too; rows that are laid out; a nil disk. The contract of satrapylaw4.known: it is true. KeepApart: what the disk keeps (a plain law). The document's disk: a cell of a file is written; Sync. -/
import Derived.StillTailTactics
import Derived.Test.YtdlbamhabenhgaaUF
namespace Go.Proofs.Ytdlbamhabenhgaa
open Go.RowKit Go.Sat Go.Maps

def flens (L : List RFile) : Nat := (L.map fun x => x.f.data.length).sum

theorem flens_take (L : List RFile) {k : Nat} {x : RFile} (h : L[k]? = some x) : flens (L.take (k + 1)) = flens (L.take k) + x.f.data.length := by
  obtain ⟨hk, rfl⟩ := List.getElem?_eq_some_iff.1 h
  rw [List.take_succ_eq_append_getElem hk]
  simp only [flens, List.map_append, List.map_cons, List.map_nil, List.sum_append, List.sum_cons, List.sum_nil, Nat.add_zero]

theorem flens_le (L : List RFile) (k : Nat) : flens (L.take k) ≤ flens L := by
  have e : flens L = flens (L.take k) + flens (L.drop k) := by
    conv => lhs; rw [← List.take_append_drop k L]
    simp only [flens, List.map_append, List.sum_append]
  omega

section
variable {w : World} {r : Nat} {v : Value} {L : List RFile} {own : Nat → Prop} {D : DiskM}

theorem RefIn.used (h : RefIn w r v L own D) : D.used = flens L := by
  unfold DiskM.used sumBy flens
  rw [h.files, List.map_map]
  rfl

theorem RefIn.len_le (h : RefIn w r v L own D) {k : Nat} {x : RFile} (hx : L[k]? = some x) : x.f.data.length ≤ 1073741824 := by
  have h1 := flens_take L hx
  have h2 := flens_le L (k + 1)
  have h3 := h.used
  have h4 := h.ok.used
  have h5 := h.ok.room
  omega

set_option maxRecDepth 100000 in
set_option maxHeartbeats 1000000 in
theorem rused_calls (h : RefIn w r v L own D) :
    Calls Try.prog 68 #[.pointer (some ⟨r, 0, none⟩)] w fun e w' => e = .returned (.int .i64 (D.used : Int)) ∧ w' = w := by
  obtain ⟨p, c, rfl⟩ := h.slice
  have c1 := h.c1
  have Hat := Lib.hid h.at
  have Hda := Lib.hid h.data
  have hcount : L.length ≤ 4096 := by rw [h.len]; exact h.ok.count
  have Hus := Lib.hid h.used
  have hub : D.used ≤ 1073741824 := Nat.le_trans h.ok.used h.ok.room
  rw [h.used] at hub ⊢
  have Hub := Lib.hid hub
  clear h hub
  generalize hN : L.length = N at *
  have HN := Lib.hid hN
  clear hN
  go_enter Try.func68, Try.ntmps68
  go_wp2_with fail
  go_loop [3, 4] (fun a i => ∃ k : Nat, k ≤ N ∧ i = .int .i64 k ∧ a = .int .i64 (flens (L.take k) : Int)) (fun _ i => N - (intOf i).toNat)
  case atStart => exact ⟨0, Nat.zero_le _, rfl, rfl⟩
  case round =>
    obtain ⟨k, hk, rfl, rfl⟩ := hrel
    by_cases hlt : k < N
    · have hkl : k < L.length := by rw [HN.out]; exact hlt
      obtain ⟨y, hy⟩ : ∃ y, L[k]? = some y := ⟨_, List.getElem?_eq_getElem hkl⟩
      have hym : y ∈ L := List.mem_of_getElem? hy
      rcases Hat.out with h0 | ⟨g, c1, e1, -, hc⟩
      · rw [h0] at hkl
        simp at hkl
      cases e1
      obtain ⟨-, hn1, -⟩ := hc k y hy
      obtain ⟨pb, cb, eb⟩ := HasB.slice (Hda.out y hym).has
      rw [eb] at hn1
      have hl := flens_take L hy
      have hle := flens_le L (k + 1)
      have Hl := Lib.hid hl
      have hb1 : flens (L.take k) + y.f.data.length ≤ 1073741824 := by have := Hub.out; omega
      clear hc hkl hy hym eb hl hle
      generalize y.f.data.length = m at *
      generalize hC : flens (L.take k) = C at *
      go_wp2_with fail
      go_round
      case rel => exact ⟨k + 1, by omega, by go_num, by rw [Hl.out]; go_num⟩
      case measure => simp [intOf]; omega
    · have e : L.take k = L := List.take_of_length_le (by rw [HN.out]; omega)
      rw [e]
      go_wp2_with fail
      go_ret
      exact ⟨rfl, rfl⟩

set_option maxRecDepth 100000 in
set_option maxHeartbeats 1000000 in
theorem rread_calls (h : RefIn w r v L own D) (s : ByteArray) :
    Calls Try.prog 48 #[.pointer (some ⟨r, 0, none⟩), .string s] w (ReadPost w (Sat.get (nm s) D.files)) := by
  have hsp := spot_calls h s
  rw [h.is] at hsp
  have c1 := h.c1
  cases hg : Sat.get (nm s) D.files with
  | none =>
    rw [hg] at hsp
    have Hsp := Lib.hid hsp
    clear hsp c1 h
    go_enter Try.func48, Try.ntmps48
    go_wp2_with fail
    refine Hsp.out.mono ?_
    rintro e w2 ⟨rfl, q, rfl⟩
    go_wp2_with fail
    go_ret2
    exact ⟨.slice none 0 0, rfl, OwnR.nil _ _ _, fun k hk => (by cases hk), ⟨rfl, rfl, rfl, Nat.le_refl _, fun _ _ => rfl⟩⟩
  | some f =>
    rw [hg] at hsp
    obtain ⟨x, hx, hxn, rfl⟩ := h.hit hg
    have hlm := h.len_le hx
    have hd := (h.data x (List.mem_of_getElem? hx)).has
    have hN : spotN (nm s) (L.map RFile.n) < L.length := (List.getElem?_eq_some_iff.1 hx).1
    generalize spotN (nm s) (L.map RFile.n) = i at *
    rcases h.at with h0 | ⟨g, c0, rfl, hlc, hc⟩
    · rw [h0] at hN
      simp at hN
    obtain ⟨-, hn1, -⟩ := hc i x hx
    obtain ⟨pb, cb, eb⟩ := HasB.slice hd
    rw [eb] at hn1 hd
    have hrlt : r < w.heap.size := h.olt r h.or
    have hglt : g < w.heap.size := h.olt g (h.ov g rfl).1
    have Hsp := Lib.hid hsp
    have Hd := Lib.hid hd
    have hDa : dataOf (some x.f) = x.f.data := rfl
    generalize x.f.data = l at *
    generalize hlen : l.length = m at *
    have Hlen := Lib.hid hlen
    obtain ⟨i0, hi, hz0, hz1, hz2⟩ := info_parts (show (Try.prog.info? 5).map (fun i => (i.zero, i.size, i.bytes)) = some (some (.int .u8 0), 1, 1) by kernel_rfl)
    clear hsp h hc hx hd hg hlen
    go_enter Try.func48, Try.ntmps48
    go_wp2_with fail
    refine Hsp.out.mono ?_
    rintro e w2 ⟨rfl, q, rfl⟩
    have hX8 : Below w.heap.size w (w.drewN q) := ⟨rfl, rfl, rfl, Nat.le_refl _, fun _ _ => rfl⟩
    have X11 := Lib.hid (hX8.alloc (Nat.le_refl _) (.cells #[] 5))
    have Hdw := Lib.hid (show Holds ((w.drewN q).alloc (.cells #[] 5)) 1 (.slice pb m cb) m (bytesV l) from by
      have h := Hd.out.below X11.out
      unfold HasB at h
      rw [Hlen.out] at h
      exact h)
    have c1w := (X11.out.cell (p := ⟨r, 1, none⟩) hrlt).trans c1
    have hn1w := (X11.out.cell (p := ⟨g, i * 3 + 1, none⟩) hglt).trans hn1
    clear hX8
    go_wp2_with (at_builtin; refine wpList_app ((w.drewN q).alloc (.cells #[] 5)) rfl (.tmp 16) (.tmp 24) 23 rfl 5 i0 (.int .u8 0) 1 1 Try.underlying23 hi hz0 hz1 hz2 rfl (by decide) (.slice (some ⟨w.heap.size, 0, none⟩) 0 0) 0 [] rfl (own_empty (w.drewN q) _) (.slice pb m cb) m (bytesV l) rfl Hdw.out (bytesV_one _) (by unfold maxLen; omega) (by omega) ?_; intro v12 w12 hown12 hgrow12 hloc12; rw [Nat.zero_add, List.nil_append] at hown12; have hX := X11.out.grown hgrow12 X11.out.size (fun j e => by simp [Value.ownBlock] at e; omega); have hnew := own_ge (B := w.heap.size) hloc12 (fun k hk => by simp [Value.ownBlock] at hk; omega) X11.out.size; have X12 := Lib.hid (And.intro hX (And.intro hown12 hnew)); clear hown12 hgrow12 hloc12 hX hnew)
    go_ret2
    refine ⟨v12, rfl, ?_, X12.out.2.2, X12.out.1⟩
    unfold OwnB
    rw [hDa, Hlen.out]
    exact X12.out.2.1

theorem str_one {w : World} (x : Bs) : Holds (w.alloc (.cells #[.string ⟨x.toArray⟩] 9)) 1 (.slice (some ⟨w.heap.size, 0, none⟩) 1 1) 1 [encStr x] := has_names (w := w) #[.string ⟨x.toArray⟩] [x] _ 1 1 rfl rfl rfl 9 (0, 0)

set_option maxRecDepth 100000 in
set_option maxHeartbeats 1000000 in
theorem rlist_calls (h : RefIn w r v L own D) :
    Calls Try.prog 47 #[.pointer (some ⟨r, 0, none⟩)] w (Listed w D) := by
  obtain ⟨p, c, rfl⟩ := h.slice
  have c1 := h.c1
  have Hat := Lib.hid h.at
  have hcount : L.length ≤ 4096 := by rw [h.len]; exact h.ok.count
  have hnames : namesOf D = L.map RFile.n := by rw [h.names]; rfl
  have hrlt : r < w.heap.size := h.olt r h.or
  have hglt : ∀ k, (Value.slice p L.length c).ownBlock = some k → k < w.heap.size := fun k hk => h.olt k (h.ov k hk).1
  have Hnames := Lib.hid hnames
  have Hglt := Lib.hid hglt
  clear h hnames hglt
  have hNn : (L.map RFile.n).length = L.length := List.length_map ..
  have HNn := Lib.hid hNn
  generalize hN : L.length = N at *
  have HN := Lib.hid hN
  clear hN hNn
  obtain ⟨i0, hi, hz0, hz1, hz2⟩ := info_parts (show (Try.prog.info? 9).map (fun i => (i.zero, i.size, i.bytes)) = some (some (.string ⟨#[]⟩), 1, 16) by kernel_rfl)
  go_enter Try.func47, Try.ntmps47
  go_wp2_with fail
  go_loopw [3, 4] (fun a i wr => ∃ k : Nat, k ≤ N ∧ i = .int .i64 k ∧ OwnR wr 9 1 a k (((L.map RFile.n).take k).map encStr) ∧ (∀ j, a.ownBlock = some j → w.heap.size ≤ j) ∧ Below w.heap.size w wr) (fun _ i _ => N - (intOf i).toNat)
  case atStart => exact ⟨0, Nat.zero_le _, rfl, OwnR.nil _ _ _, fun j hj => (by cases hj), Below.refl _ _⟩
  case round =>
    obtain ⟨k, hk, rfl, hown, hnew, hbel⟩ := hrel
    have c1' := (hbel.cell (p := ⟨r, 1, none⟩) hrlt).trans c1
    by_cases hlt : k < N
    · have hkl : k < L.length := by rw [HN.out]; exact hlt
      obtain ⟨y, hy⟩ : ∃ y, L[k]? = some y := ⟨_, List.getElem?_eq_getElem hkl⟩
      have hyn : (L.map RFile.n)[k]? = some y.n := by rw [List.getElem?_map, hy]; rfl
      have htk : (L.map RFile.n).take (k + 1) = (L.map RFile.n).take k ++ [y.n] := by rw [List.take_add_one, hyn]; rfl
      rcases Hat.out with h0 | ⟨g, cc, e1, -, hc⟩
      · rw [h0] at hkl
        simp at hkl
      cases e1
      obtain ⟨hn0, -, -⟩ := hc k y hy
      have hn0' := (hbel.cell (p := ⟨g, k * 3, none⟩) (Hglt.out g rfl)).trans hn0
      rw [enc_str] at hn0'
      obtain ⟨pa, ca, rfl⟩ := OwnR.shape hown
      have Htk := Lib.hid htk
      have Hown := Lib.hid (OwnR.keep hown fun j hj => heap_alloc_old wr (.cells #[.string ⟨y.n.toArray⟩] 9) (OwnR.lt hown hj))
      have Hnew := Lib.hid hnew
      have Hbel := Lib.hid (hbel.alloc hbel.size (.cells #[.string ⟨y.n.toArray⟩] 9))
      have Hstr := Lib.hid (str_one (w := wr) y.n)
      clear hown hnew hbel hc hn0 hy hyn htk hkl
      generalize y.n = x at *
      go_wp2_with (at_builtin; refine wpList_app (wr.alloc (.cells #[.string ⟨x.toArray⟩] 9)) rfl (.tmp 14) (.tmp 23) 40 rfl 9 i0 (.string ⟨#[]⟩) 1 16 Try.underlying40 hi hz0 hz1 hz2 rfl (by decide) (.slice pa k ca) k _ rfl Hown.out (.slice (some ⟨wr.heap.size, 0, none⟩) 1 1) 1 [encStr x] rfl Hstr.out (fun u hu => by simp at hu; subst hu; rfl) (by unfold maxLen; omega) (by omega) ?_; intro v12 w12 hown12 hgrow12 hloc12; have X12 := Lib.hid (And.intro hown12 (And.intro hgrow12 hloc12)); clear hown12 hgrow12 hloc12)
      go_roundw
      case rel =>
        refine ⟨k + 1, by omega, by go_num, ?_, own_ge X12.out.2.2 Hnew.out Hbel.out.size, Hbel.out.grown X12.out.2.1 Hbel.out.size (fun j hj => Hnew.out j hj)⟩
        have h1 := X12.out.1
        rw [Htk.out, List.map_append]
        exact h1
      case measure => simp [intOf]; omega
    · have hkN : k = N := by omega
      subst hkN
      have e : (L.map RFile.n).take k = L.map RFile.n := List.take_of_length_le (by rw [HNn.out]; exact Nat.le_refl _)
      rw [e] at hown
      obtain ⟨pa, ca, rfl⟩ := OwnR.shape hown
      have Hf := Lib.hid (show Listed w D (.returned (.slice pa k ca)) wr from ⟨_, rfl, by unfold OwnN; rw [Hnames.out, HNn.out]; exact hown, hnew, hbel⟩)
      clear hown hnew hbel
      go_wp2_with fail
      go_ret
      exact Hf.out
end
end Go.Proofs.Ytdlbamhabenhgaa

namespace Go.Proofs.Ytdlbamhabenhgaa
open Go.RowKit Go.Sat Go.Maps

set_option maxRecDepth 100000 in
set_option maxHeartbeats 4000000 in
theorem clear_calls {w w1 : World} {d : Nat} {D : DiskM} {F : Nat → Prop} (h : St w w1 d D F) (s : ByteArray) {p : Option Addr} {n c : Nat} {stay : List Bs} (hx : ∀ W, Below w.heap.size w W → Same F w1 W → HasN W (.slice p n c) stay) (hn : stay.length ≤ 140737488355328) :
    Calls Try.prog 38 #[.pointer (some ⟨d, 0, none⟩), .string s, .slice p n c] w1 (Told w d F w1 (D.clear (nm s) stay)) := by
  have Hst := Lib.hid h
  have Hl := Lib.hid (st_list h)
  have Hx := Lib.hid hx
  have hcount := h.ok.count
  have Hnames := Lib.hid h.ok.names
  clear h hx
  unfold DiskM.clear
  have hnl : (namesOf D).length ≤ 4096 := by unfold namesOf; rw [List.length_map]; exact hcount
  have hno : ∀ x ∈ namesOf D, x.length ≤ 64 := by
    intro x hx
    obtain ⟨q, hq, rfl⟩ := List.mem_map.1 hx
    exact (okN_string (Hnames.out q hq)).2
  have Hno := Lib.hid hno
  clear Hnames hno hcount
  generalize hns : namesOf D = ns at *
  have Hns := Lib.hid hns
  generalize hN : ns.length = N at *
  have HN := Lib.hid hN
  clear hns hN
  go_enter Try.func38, Try.ntmps38
  go_wp2_with fail
  refine Hl.out.mono ?_
  rintro e w2 ⟨v, rfl, hv, hnew, hb, hst⟩
  rw [Hns.out] at hv
  have hv' : HasN w2 v ns := OwnR.holds hv
  obtain ⟨pv, cv, rfl⟩ := hv'.slice
  have hvl : N ≠ 0 → ∀ k, (Value.slice pv ns.length cv).ownBlock = some k → k < w2.heap.size := fun hne k hk => by
    rcases hv'.at with rfl | ⟨b, o, c', e, hc⟩
    · exact absurd HN.out.symm hne
    · have hlt : 0 < ns.length := by rw [HN.out]; omega
      have h1 := World.block_lt_of_cell? w2 _ (hc 0 ns[0] (List.getElem?_eq_getElem hlt))
      rw [e] at hk
      cases hk
      exact h1
  rw [HN.out] at hv' hvl
  have hst2 : St w w2 d D (fun k => F k ∨ (N ≠ 0 ∧ (Value.slice pv N cv).ownBlock = some k)) := Hst.out.move (S := fun _ => False) (Chg.of_below hb) (fun _ _ h => h.elim) fun k hk => by
    rcases hk with hk | ⟨hne, hk⟩
    · exact ⟨.inl hk, Nat.lt_of_lt_of_le (Hst.out.flt hk) hb.size⟩
    · exact ⟨.inr (hnew k (by rw [HN.out]; exact hk)), hvl hne k hk⟩
  have Hs2 := Lib.hid (same_below Hst.out hb : Same F w1 w2)
  have Hv := Lib.hid hv'
  have Hst2 := Lib.hid hst2
  clear hv hv' hnew hb hst hvl hst2
  rw [HN.out]
  go_wp2_with fail
  go_loopw [15] (fun i wr => ∃ (k : Nat) (Dk : DiskM), k ≤ N ∧ i = .int .i64 k ∧ St w wr d Dk (fun k => F k ∨ (N ≠ 0 ∧ (Value.slice pv N cv).ownBlock = some k)) ∧ Same (fun k => F k ∨ (N ≠ 0 ∧ (Value.slice pv N cv).ownBlock = some k)) w2 wr ∧ DiskM.clearL (nm s) stay D ns = DiskM.clearL (nm s) stay Dk (ns.drop k)) (fun i _ => N - (intOf i).toNat)
  case atStart => exact ⟨0, D, Nat.zero_le _, rfl, Hst2.out, fun _ _ => rfl, rfl⟩
  case round =>
    obtain ⟨k, Dk, hk, rfl, hr, hsame, hcl⟩ := hrel
    by_cases hlt : k < N
    · have hkl : k < ns.length := by rw [HN.out]; exact hlt
      rw [List.drop_eq_getElem_cons hkl] at hcl
      rcases Hv.out.at with h0 | ⟨b, o, c1, e1, hc⟩
      · rw [h0] at hkl
        simp at hkl
      rw [HN.out] at e1
      cases e1
      have hcw := (World.cell?_of_block (a := ⟨b, o + k, none⟩) (hsame b (.inr ⟨by omega, rfl⟩))).trans (hc k _ (List.getElem?_eq_getElem hkl))
      rw [enc_str] at hcw
      have hx64 := Hno.out _ (List.getElem_mem hkl)
      generalize ns[k] = x at *
      have hxs : (⟨x.toArray⟩ : ByteArray).size ≤ 9223372036854775807 := by
        have : (⟨x.toArray⟩ : ByteArray).size = x.length := by rw [← nm_len, nm_str]
        omega
      have hstay : HasN wr (.slice p n c) stay := Hx.out wr hr.below fun k hk => (hsame k (.inl hk)).trans (Hs2.out k hk)
      have hCon := contains_calls hstay (by omega) x
      have hPre := prefix_calls wr x s
      have Hr := Lib.hid hr
      have Hsame := Lib.hid hsame
      have Hcl := Lib.hid hcl
      clear hr hsame hcl hstay hc hkl
      cases hp : (nm s).isPrefixOf x with
      | false =>
        rw [hp] at hPre
        have HPre := Lib.hid hPre
        clear hPre hCon
        go_wp2_with fail
        refine HPre.out.mono ?_
        rintro e w3 ⟨rfl, rfl⟩
        go_wp2_with fail
        go_roundw
        case rel => exact ⟨k + 1, Dk, by omega, by go_num, Hr.out, Hsame.out, Hcl.out.trans (DiskM.clearL_skip (by unfold skipN; rw [hp]; rfl))⟩
        case measure => simp [intOf]; omega
      | true =>
        rw [hp] at hPre
        have HPre := Lib.hid hPre
        clear hPre
        cases hcn : stay.contains x with
        | true =>
          rw [hcn] at hCon
          have HCon := Lib.hid hCon
          clear hCon
          go_wp2_with fail
          refine HPre.out.mono ?_
          rintro e w3 ⟨rfl, rfl⟩
          go_wp2_with fail
          refine HCon.out.mono ?_
          rintro e w3 ⟨rfl, rfl⟩
          go_wp2_with fail
          go_roundw
          case rel => exact ⟨k + 1, Dk, by omega, by go_num, Hr.out, Hsame.out, Hcl.out.trans (DiskM.clearL_skip (by unfold skipN; rw [hcn]; simp))⟩
          case measure => simp [intOf]; omega
        | false =>
          rw [hcn] at hCon
          have HCon := Lib.hid hCon
          have hskip : skipN (nm s) stay x = false := by unfold skipN; rw [hp, hcn]; rfl
          clear hCon
          have hrm := st_remove Hr.out [(⟨x.toArray⟩ : ByteArray)] wr.heap.size 1 rfl (0, 0) (by simp) (by simpa using hxs)
          rw [show [(⟨x.toArray⟩ : ByteArray)].map nm = [x] from by rw [List.map_cons, nm_str, List.map_nil]] at hrm
          cases hz : DiskM.remove Dk [x] with
          | mk D1 e1 =>
            rw [hz] at hrm
            have Hrm := Lib.hid hrm
            have Hsa := Lib.hid (Hsame.out.trans (same_below Hr.out ((Below.refl wr.heap.size wr).alloc (Nat.le_refl _) (.cells #[.string ⟨x.toArray⟩] 9))))
            clear hrm
            by_cases he : e1 = 0
            · subst he
              go_wp2_with fail
              refine HPre.out.mono ?_
              rintro e w3 ⟨rfl, rfl⟩
              go_wp2_with fail
              refine HCon.out.mono ?_
              rintro e w3 ⟨rfl, rfl⟩
              go_wp2_with fail
              refine Hrm.out.mono ?_
              rintro e w3 ⟨rfl, hst3, hs3⟩
              have Hst3 := Lib.hid (show St w w3 d D1 _ from hst3)
              have Hs3 := Lib.hid (Hsa.out.trans hs3)
              clear hst3 hs3
              go_wp2_with fail
              go_roundw
              case rel => exact ⟨k + 1, D1, by omega, by go_num, Hst3.out, Hs3.out, Hcl.out.trans (DiskM.clearL_go hskip hz)⟩
              case measure => simp [intOf]; omega
            · have hne : ((e1 : Int) != 0) = true := by simp; omega
              go_wp2_with fail
              refine HPre.out.mono ?_
              rintro e w3 ⟨rfl, rfl⟩
              go_wp2_with fail
              refine HCon.out.mono ?_
              rintro e w3 ⟨rfl, rfl⟩
              go_wp2_with fail
              refine Hrm.out.mono ?_
              rintro e w3 ⟨rfl, hst3, hs3⟩
              have Hf := Lib.hid (show Told w d F w1 (DiskM.clearL (nm s) stay D ns) (.returned (.int .i64 (e1 : Int))) w3 from by
                rw [Hcl.out, DiskM.clearL_err hskip hz he]
                exact ⟨rfl, St.less hst3 fun _ hk => .inl hk, fun k hk => (hs3 k (.inl hk)).trans ((Hsa.out k (.inl hk)).trans (Hs2.out k hk))⟩)
              clear hst3 hs3
              go_wp2_with fail
              go_ret
              exact Hf.out
    · have Hf := Lib.hid (show Told w d F w1 (DiskM.clearL (nm s) stay D ns) (.returned (.int .i64 0)) wr from by
        rw [hcl, List.drop_of_length_le (by rw [HN.out]; omega)]
        exact ⟨rfl, hr.less fun _ hk => .inl hk, fun k hk => (hsame k (.inl hk)).trans (Hs2.out k hk)⟩)
      clear hr hsame hcl
      go_wp2_with fail
      go_ret
      exact Hf.out
end Go.Proofs.Ytdlbamhabenhgaa

namespace Go.Sat
theorem del_put {α : Type} {L : List (Bs × α)} (h : Srt L) (n : Bs) (a : α) : del n (put n a L) = del n L := by
  refine srt_ext (srt_del (srt_put h)) (srt_del h) fun m => ?_
  by_cases e : m = n
  · subst e
    rw [get_del_same, get_del_same]
  · rw [get_del_other (srt_put h) e, get_put_other h a e, get_del_other h e]

theorem put_put {α : Type} {L : List (Bs × α)} (h : Srt L) (n : Bs) (a b : α) : put n b (put n a L) = put n b L := by
  show ins (n, b) (del n (put n a L)) = ins (n, b) (del n L)
  rw [del_put h]
end Go.Sat

namespace Go.Proofs.Ytdlbamhabenhgaa
open Go.RowKit Go.Sat Go.Maps

theorem shadow_len (n : Bs) : (shadowN n).length = n.length + 1 := by simp [shadowN]
theorem shadow_ne (n : Bs) : n ≠ shadowN n := fun e => by
  have := congrArg List.length e
  rw [shadow_len] at this
  omega

/-- So many steps behind. -/
def offF (f : Option Nat) (k : Nat) : Option Nat := f.map (· - k)

section
variable {D : DiskM} {n l : Bs}

theorem save_app (_h : D.OK) (hf : D.fuse ≠ some 0) (hn1 : 1 ≤ n.length) (hn : n.length ≤ 60) (hsh : Sat.get (shadowN n) D.files = none) (hroom : D.used + l.length + 12 ≤ D.room) (hc : D.files.length < 4096) :
    D.append (shadowN n) (frameN l) = (⟨D.room, put (shadowN n) ⟨frameN l, 0⟩ D.files, offF D.fuse 1⟩, 0) := by
  have hm : D.may [shadowN n] = 0 := by
    unfold DiskM.may
    rw [if_neg hf, if_pos]
    simp only [List.all_cons, List.all_nil, Bool.and_true, okN, shadow_len]
    simp; omega
  have hfu : D.full (shadowN n) (frameN l) = false := by
    unfold DiskM.full
    rw [frame_len, hsh]
    simp; omega
  unfold DiskM.append
  rw [if_neg (by rw [hm]; simp), if_neg (by rw [hfu]; simp)]
  have hcur : D.cur (shadowN n) = ⟨[], 0⟩ := by unfold DiskM.cur; rw [hsh]; rfl
  rw [hcur]
  rfl

theorem save_syn {room : Nat} {L : List (Bs × FileM)} {f : Option Nat} (h : Srt L) (hf : f ≠ some 0) (hn1 : 1 ≤ n.length) (hn : n.length ≤ 60) :
    DiskM.sync ⟨room, put (shadowN n) ⟨frameN l, 0⟩ L, f⟩ [shadowN n] = (⟨room, put (shadowN n) ⟨frameN l, (frameN l).length⟩ L, offF f 1⟩, 0) := by
  have hm : DiskM.may ⟨room, put (shadowN n) ⟨frameN l, 0⟩ L, f⟩ [shadowN n] = 0 := by
    unfold DiskM.may
    rw [if_neg hf, if_pos]
    simp only [List.all_cons, List.all_nil, Bool.and_true, okN, shadow_len]
    simp; omega
  have h1 : DiskM.each1 DiskM.gSync ⟨room, put (shadowN n) ⟨frameN l, 0⟩ L, f⟩ (shadowN n) = (⟨room, put (shadowN n) ⟨frameN l, (frameN l).length⟩ L, offF f 1⟩, 0) := by
    unfold DiskM.each1
    rw [if_neg (by rw [hm]; simp)]
    have hg : Sat.get (shadowN n) (DiskM.files ⟨room, put (shadowN n) ⟨frameN l, 0⟩ L, f⟩) = some ⟨frameN l, 0⟩ := get_put_same h _ _
    rw [hg]
    show ((⟨room, put _ _ (put _ _ L), _⟩ : DiskM), 0) = _
    rw [put_put h]
    rfl
  show (if (DiskM.each1 _ _ _).2 = 0 then _ else _) = _
  rw [h1, if_pos rfl]
  rfl

theorem save_ren {room : Nat} {L : List (Bs × FileM)} {f : Option Nat} {g : FileM} (h : Srt L) (hf : f ≠ some 0) (hn1 : 1 ≤ n.length) (hn : n.length ≤ 60) (hsh : Sat.get (shadowN n) L = none) :
    DiskM.rename ⟨room, put (shadowN n) g L, f⟩ (shadowN n) n = (⟨room, put n g L, offF f 1⟩, 0) := by
  have hm : DiskM.may ⟨room, put (shadowN n) g L, f⟩ [shadowN n, n] = 0 := by
    unfold DiskM.may
    rw [if_neg hf, if_pos]
    simp only [List.all_cons, List.all_nil, Bool.and_true, okN, shadow_len]
    simp; omega
  unfold DiskM.rename
  rw [if_neg (by rw [hm]; simp)]
  have hg : Sat.get (shadowN n) (DiskM.files ⟨room, put (shadowN n) g L, f⟩) = some g := get_put_same h _ _
  rw [hg]
  show ((⟨room, put n g (del (shadowN n) (put (shadowN n) g L)), _⟩ : DiskM), 0) = _
  rw [del_put h, del_none hsh]
  rfl

theorem off_ne {f : Option Nat} {k : Nat} (hf : ∀ j, f = some j → k < j) : offF f k ≠ some 0 := by
  cases f with
  | none => intro h; cases h
  | some j =>
    have := hf j rfl
    intro h
    have := Option.some.inj (show some (j - k) = some 0 from h)
    omega
theorem off_off (f : Option Nat) (a b : Nat) : offF (offF f a) b = offF f (a + b) := by
  cases f with
  | none => rfl
  | some j => exact congrArg some (Nat.sub_sub _ _ _)

theorem save_room (hn1 : 1 ≤ n.length) (hn : n.length ≤ 60) : D.save n l = D.save1 n (frameN l) := by
  unfold DiskM.save
  rw [if_neg (by omega)]

/-- A Save that is done: three steps of the fuse. -/
theorem save_all (h : D.OK) (hf : ∀ j, D.fuse = some j → 3 ≤ j) (hn1 : 1 ≤ n.length) (hn : n.length ≤ 60) (hsh : Sat.get (shadowN n) D.files = none) (hroom : D.used + l.length + 12 ≤ D.room) (hc : D.files.length < 4096) :
    D.save n l = (⟨D.room, put n ⟨frameN l, (frameN l).length⟩ D.files, offF D.fuse 3⟩, 0) := by
  have h0 : D.save0 n = (D, 0) := by unfold DiskM.save0; rw [hsh]; rfl
  have hz : D.fuse ≠ some 0 := fun e => by have := hf 0 e; omega
  rw [save_room hn1 hn, save1_ren h0 (save_app h hz hn1 hn hsh hroom hc) (save_syn h.srt (off_ne fun j e => by have := hf j e; omega) hn1 hn), off_off,
    save_ren h.srt (off_ne fun j e => by have := hf j e; omega) hn1 hn hsh, off_off]

theorem may_burn {D : DiskM} (hf : D.fuse = some 0) (ns : List Bs) : D.may ns = 9 := by unfold DiskM.may; rw [if_pos hf]

/-- A Save that the fuse cuts off: what has the name stays. -/
theorem save_cut (h : D.OK) {j : Nat} (hf : D.fuse = some j) (hj : j < 3) (hn1 : 1 ≤ n.length) (hn : n.length ≤ 60) (hsh : Sat.get (shadowN n) D.files = none) (hroom : D.used + l.length + 12 ≤ D.room) (hc : D.files.length < 4096) :
    ∃ D', D.save n l = (D', 9) ∧ Sat.get n D'.files = Sat.get n D.files := by
  have h0 : D.save0 n = (D, 0) := by unfold DiskM.save0; rw [hsh]; rfl
  rw [save_room hn1 hn]
  by_cases hj0 : j = 0
  · subst hj0
    refine ⟨D, ?_, rfl⟩
    refine save1_app h0 ?_ (by decide)
    unfold DiskM.append
    rw [may_burn hf, if_pos (by decide)]
  · have hz : D.fuse ≠ some 0 := by rw [hf]; intro e; exact hj0 (Option.some.inj e)
    have ha := save_app (l := l) h hz hn1 hn hsh hroom hc
    by_cases hj1 : j = 1
    · subst hj1
      refine ⟨⟨D.room, put (shadowN n) ⟨frameN l, 0⟩ D.files, offF D.fuse 1⟩, save1_syn h0 ha ?_ (by decide), get_put_other h.srt _ (shadow_ne n)⟩
      have hm : DiskM.may ⟨D.room, put (shadowN n) ⟨frameN l, 0⟩ D.files, offF D.fuse 1⟩ [shadowN n] = 9 := may_burn (by rw [hf]; rfl) _
      have h1 : DiskM.each1 DiskM.gSync ⟨D.room, put (shadowN n) ⟨frameN l, 0⟩ D.files, offF D.fuse 1⟩ (shadowN n) = (⟨D.room, put (shadowN n) ⟨frameN l, 0⟩ D.files, offF D.fuse 1⟩, 9) := by
        unfold DiskM.each1
        rw [hm, if_pos (by decide)]
      show (if (DiskM.each1 _ _ _).2 = 0 then _ else _) = _
      rw [h1, if_neg (by simp)]
    · have hj2 : j = 2 := by omega
      subst hj2
      have hs := save_syn (l := l) (room := D.room) h.srt (f := offF D.fuse 1) (off_ne fun j e => by rw [hf] at e; cases e; omega) hn1 hn
      rw [save1_ren h0 ha hs]
      refine ⟨⟨D.room, put (shadowN n) ⟨frameN l, (frameN l).length⟩ D.files, offF (offF D.fuse 1) 1⟩, ?_, get_put_other h.srt _ (shadow_ne n)⟩
      unfold DiskM.rename
      rw [may_burn (by rw [hf]; rfl), if_pos (by decide)]
end
end Go.Proofs.Ytdlbamhabenhgaa

namespace Go.Proofs.Ytdlbamhabenhgaa
open Go.RowKit Go.Sat Go.Maps

theorem stays_whole (b : Bs) (k : Int) : DiskM.stays ⟨b, b.length⟩ k = b.length := by
  show b.length + (max 0 k).toNat % (b.length - b.length + 1) = b.length
  rw [Nat.sub_self, Nat.zero_add, Nat.mod_one, Nat.add_zero]

theorem crash_whole (b : Bs) (k : Int) : DiskM.crashF k ⟨b, b.length⟩ = ⟨b, b.length⟩ := by
  show (⟨b.take (DiskM.stays ⟨b, b.length⟩ k), DiskM.stays ⟨b, b.length⟩ k⟩ : FileM) = _
  rw [stays_whole, List.take_length]

theorem get_crash (D : DiskM) (n : Bs) (k : Int) : Sat.get n (D.crash k).files = (Sat.get n D.files).map (DiskM.crashF k) := mp_get _ _ _

theorem get_crash_whole {D : DiskM} {n b : Bs} (h : Sat.get n D.files = some ⟨b, b.length⟩) (k : Int) : Sat.get n (D.crash k).files = some ⟨b, b.length⟩ := by
  rw [get_crash, h, Option.map_some, crash_whole]
theorem get_crash_none {D : DiskM} {n : Bs} (h : Sat.get n D.files = none) (k : Int) : Sat.get n (D.crash k).files = none := by
  rw [get_crash, h, Option.map_none]

theorem load_frame (l : Bs) (h : l.length ≤ 1048576) (k : Nat) : loadE (some ⟨frameN l, k⟩) = 0 ∧ loadB (some ⟨frameN l, k⟩) = l := by
  have e : dataOf (some ⟨frameN l, k⟩) = frameN l := rfl
  rw [loadE_some, loadB_some, e, frame_oneE l h, frame_oneB l h]
  exact ⟨if_pos rfl, rfl⟩

/-- A list of rows, in a new block. -/
theorem rows_lits {w : World} {vs : List Value} {ls : List Bs} (h : ∀ (i : Nat) (u : Value) (l : Bs), vs[i]? = some u → ls[i]? = some l → HasB w u l) (hlen : vs.length = ls.length) (e : TypeId) (fr : Nat × Nat) (g c : Nat) (hg : g = w.heap.size) (hc : ls.length ≤ c) :
    RowsAt (w.alloc (.cells vs.toArray e fr)) (.slice (some ⟨g, 0, none⟩) ls.length c) ls := by
  subst hg
  refine ⟨_, c, rfl, hc, fun _ => ⟨_, _, vs, rfl, hlen, fun i u hu => ?_, fun i u m hu hm => ?_⟩⟩
  · rw [add_zero]
    refine cell_of (new_block w _) ?_
    simpa using hu
  · exact (has_alloc (h i u m hu hm) _).kit

theorem rows_two' {w : World} {a b : Value} {x y : Bs} (ha : HasB w a x) (hb : HasB w b y) (e : TypeId) (fr : Nat × Nat) (g c : Nat) (hg : g = w.heap.size) (hc : 2 ≤ c) :
    RowsAt (w.alloc (.cells #[a, b] e fr)) (.slice (some ⟨g, 0, none⟩) 2 c) [x, y] :=
  rows_lits (vs := [a, b]) (ls := [x, y]) (fun i u l hu hl => by
    match i, hu, hl with
    | 0, hu, hl => cases hu; cases hl; exact ha
    | 1, hu, hl => cases hu; cases hl; exact hb) rfl e fr g c hg hc

set_option maxRecDepth 100000 in
theorem save_nil (s : ByteArray) (x : Value) (w : World) : Calls Try.prog 25 #[.pointer none, .string s, x] w fun e w' => e = .returned (.int .i64 1) ∧ w' = w := by
  go_enter Try.func25, Try.ntmps25
  go_wp2_with fail
  go_ret
  exact ⟨rfl, rfl⟩

set_option maxRecDepth 100000 in
theorem load_nil (s : ByteArray) (w : World) : Calls Try.prog 26 #[.pointer none, .string s] w fun e w' => e = .returned (.tuple #[.slice none 0 0, .int .i64 1]) ∧ w' = w := by
  go_enter Try.func26, Try.ntmps26
  go_wp2_with fail
  go_ret2
  exact ⟨rfl, rfl⟩

set_option maxRecDepth 100000 in
theorem clear_nil (s : ByteArray) (x : Value) (w : World) : Calls Try.prog 38 #[.pointer none, .string s, x] w fun e w' => e = .returned (.int .i64 1) ∧ w' = w := by
  go_enter Try.func38, Try.ntmps38
  go_wp2_with fail
  go_ret
  exact ⟨rfl, rfl⟩
end Go.Proofs.Ytdlbamhabenhgaa

namespace Go.Proofs.Ytdlbamhabenhgaa
open Go.RowKit Go.Sat Go.Maps

def b12' : Bs := [49, 50]
def b3' : Bs := [51]
def b123 : Bs := [49, 50, 51]
def Q0 : DiskM := DiskM.fresh 1000
def Q1 : DiskM := ⟨1000, [([97], ⟨frameN b123, (frameN b123).length⟩)], none⟩

theorem q1 : Q0.save (nm sA) [b12', b3'].flatten = (Q1, 0) :=
  save_all (D := Q0) (n := [97]) (l := b123) (ok_fresh 1000 (by decide)) (fun j h => by cases h) (by decide) (by decide) rfl (by decide) (by decide)

theorem q2 (k : Int) : Sat.get (nm sA) (Q1.crash k).files = some ⟨frameN b123, (frameN b123).length⟩ := get_crash_whole (D := Q1) (n := [97]) rfl k

theorem conv_at (P : Program) (w : World) (o : Obj) (t e : TypeId) (C : Array Value) (n c : Nat) (ht : P.underlying t = some (.slice e)) (he : P.underlying e = some (.int .u8)) :
    (convert t t (.slice (some ⟨w.heap.size + 1, 0, none⟩) n c)).run P ((w.alloc o).alloc (.cells C e)) = .ok (.slice (some ⟨w.heap.size + 1, 0, none⟩) n c) ((w.alloc o).alloc (.cells C e (C.size, C.size + 1))) := by
  have h := Lib.run_convert_bytes_const (P := P) (w.alloc o) t e C n c ht he
  rw [show (w.alloc o).heap.size = w.heap.size + 1 from World.size_alloc w o] at h
  exact h

set_option maxRecDepth 100000 in
set_option maxHeartbeats 2000000 in
theorem known4_calls (w : World) : Calls Try.prog 24 #[] w (True3 w) := by
  have Hnew := Lib.hid (st_new (w := w) (w1 := w) 1000 (by decide) (by decide) (Below.refl _ _))
  have kc := fun (w : World) (C : Array Value) (n c : Nat) => Lib.run_convert_bytes_const (P := Try.prog) w 23 5 C n c Try.underlying23 Try.underlying5
  have kc2 := fun (o : Obj) (C : Array Value) (n c : Nat) (w : World) => conv_at Try.prog w o 23 5 C n c Try.underlying23 Try.underlying5
  go_enter Try.func24, Try.ntmps24
  go_wp2_with fail
  refine Hnew.out.mono ?_
  rintro e w1 ⟨d, rfl, hd⟩
  have Hd := Lib.hid (show St w w1 d Q0 NoF from hd)
  clear hd Hnew
  go_wp2_with fail
  have hrw := rows_two' (w := (w1.alloc (.cells #[.int .u8 49, .int .u8 50] 5 (2, 3))).alloc (.cells #[.int .u8 51] 5 (1, 2))) (a := .slice (some ⟨w1.heap.size, 0, none⟩) 2 2) (b := .slice (some ⟨w1.heap.size + 1, 0, none⟩) 1 1)
    (has_alloc (has_lit _ b12' _ 2 2 rfl rfl rfl) _) (has_lit _ b3' _ 1 1 (by simp) rfl rfl) 23 (0, 0) (w1.heap.size + 1 + 1) 2 (by simp) (Nat.le_refl _)
  refine (save_calls (((Hd.out.alloc _).alloc _).alloc _) sA (by decide) (ls := [b12', b3']) hrw (by decide) (by decide)).mono ?_
  rw [q1]
  rintro e w2 ⟨rfl, hd2, -⟩
  have Hd2 := Lib.hid hd2
  clear hd2 Hd
  go_wp2_with fail
  refine (st_crash Hd2.out 0 (by decide) (by decide)).mono ?_
  rintro e w3 ⟨rfl, hd3, -⟩
  have hld := load_calls hd3 sA (by decide)
  rw [q2] at hld
  unfold GotL at hld
  rw [(load_frame b123 (by decide) _).1, (load_frame b123 (by decide) _).2] at hld
  have Hld := Lib.hid hld
  clear hld hd3 Hd2
  go_wp2_with fail
  refine Hld.out.mono ?_
  rintro e w4 ⟨v, rfl, hv, -, -, hd4⟩
  have Hd4 := Lib.hid hd4
  have Hv := Lib.hid hv
  clear hv hd4 Hld
  go_wp2_with fail
  refine (same4_calls (has_alloc Hv.out.has _) (has_lit _ b123 _ _ 3 rfl rfl rfl) (by decide) (by decide)).mono ?_
  rintro e w5 ⟨rfl, q, rfl⟩
  have Hb := Lib.hid ((Hd4.out.alloc (.cells ((b123.map fun u => Value.int .u8 (u.toNat : Int)).toArray) 5 (3, 4))).drewN q).below
  go_wp2_with fail
  go_ret
  exact ⟨rfl, Hb.out⟩
end Go.Proofs.Ytdlbamhabenhgaa

namespace Go.Proofs.Ytdlbamhabenhgaa
open Go.RowKit Go.Sat Go.Maps

def p1N : Bs := [112, 45, 49]
def p2N : Bs := [112, 45, 50]
def qN : Bs := [113]
def pN : Bs := [112, 45]
/-- A file that was saved. -/
def fl (x : Bs) : FileM := ⟨frameN x, (frameN x).length⟩

theorem each_one (g : Bs → FileM → List (Bs × FileM) → List (Bs × FileM)) (D : DiskM) (n : Bs) : D.each g [n] = D.each1 g n := by
  cases h : D.each1 g n with
  | mk D1 e1 =>
    unfold DiskM.each
    rw [h]
    by_cases he : e1 = 0
    · subst he
      rw [if_pos rfl]
      rfl
    · rw [if_neg he]

theorem fl_size (x : Bs) : DiskM.size (fl x) = x.length + 12 := frame_len x

def aD1 (a : Bs) : DiskM := ⟨1048576, [(p1N, fl a)], none⟩
def aD2 (a b : Bs) : DiskM := ⟨1048576, [(p1N, fl a), (p2N, fl b)], none⟩
def aD3 (a b c : Bs) : DiskM := ⟨1048576, [(p1N, fl a), (p2N, fl b), (qN, fl c)], none⟩
def aD5 (b c : Bs) : DiskM := ⟨1048576, [(p2N, fl b), (qN, fl c)], none⟩

theorem ap_save {L : List (Bs × FileM)} (h : DiskM.OK ⟨1048576, L, none⟩) {n l : Bs} (hn1 : 1 ≤ n.length) (hn : n.length ≤ 60) (hsh : Sat.get (shadowN n) L = none) (hroom : sumBy DiskM.size L + l.length + 12 ≤ 1048576) (hc : L.length < 4096) :
    DiskM.save ⟨1048576, L, none⟩ n l = (⟨1048576, put n (fl l) L, none⟩, 0) :=
  save_all h (fun j e => by cases e) hn1 hn hsh hroom hc

section
variable {a b c : Bs}
theorem ap1 (h : a.length ≤ 5000) : (DiskM.fresh 1048576).save p1N a = (aD1 a, 0) :=
  ap_save (L := []) (ok_fresh 1048576 (by decide)) (by decide) (by decide) rfl (by simp [sumBy]; omega) (by decide)

theorem ap2 (h : a.length + b.length ≤ 5000) (ok : (aD1 a).OK) : (aD1 a).save p2N b = (aD2 a b, 0) :=
  ap_save (L := [(p1N, fl a)]) ok (by decide) (by decide) rfl (by simp [sumBy, fl_size]; omega) (by simp)

theorem ap3 (h : a.length + b.length + c.length ≤ 5000) (ok : (aD2 a b).OK) : (aD2 a b).save qN c = (aD3 a b c, 0) :=
  ap_save (L := [(p1N, fl a), (p2N, fl b)]) ok (by decide) (by decide) rfl (by simp [sumBy, fl_size]; omega) (by simp)

theorem ap4 (h : a.length + b.length + c.length ≤ 5000) (ok : (aD3 a b c).OK) : (aD3 a b c).save p2N (b ++ a) = (aD3 a (b ++ a) c, 0) :=
  ap_save (L := [(p1N, fl a), (p2N, fl b), (qN, fl c)]) ok (by decide) (by decide) rfl (by simp [sumBy, fl_size]; omega) (by simp)

theorem ap_crash (k : Int) : (aD3 a b c).crash k = aD3 a b c := by
  unfold DiskM.crash aD3 mp
  simp only [List.map_cons, List.map_nil, fl, crash_whole]

theorem ap_rem : (aD3 a b c).remove [p1N] = (aD5 b c, 0) := by
  exact (each_one _ _ _).trans rfl

theorem ap_clear : (aD3 a b c).clear pN [p2N, qN] = (aD5 b c, 0) := by
  unfold DiskM.clear
  rw [show namesOf (aD3 a b c) = [p1N, p2N, qN] from rfl, DiskM.clearL_go (by rfl) ap_rem, DiskM.clearL_skip (by rfl), DiskM.clearL_skip (by rfl)]
  rfl
theorem ap_names : namesOf (aD5 b c) = [p2N, qN] := rfl
end
end Go.Proofs.Ytdlbamhabenhgaa

namespace Go.Sat
open Go.RowKit
theorem OwnR.set {w : World} {e : TypeId} {size : Nat} {v : Value} {n : Nat} {xs : List Value} (h : OwnR w e size v n xs) {g : Nat} (hg : v.ownBlock = some g) (j : Nat) (u : Value) : OwnR (w.setCell ⟨g, j, none⟩ u) e size v n (xs.set j u) := by
  refine ⟨by rw [List.length_set]; exact h.1, ?_⟩
  rcases h.2 with ⟨rfl, _⟩ | ⟨g', cap, cur, rfl, hgg, hnc, hcm, hcs, ht⟩
  · cases hg
  · cases hg
    refine .inr ⟨g', cap, cur.setIfInBounds j u, rfl, set_block hgg j u, hnc, hcm, by simpa using hcs, ?_⟩
    rw [← ht, Array.toList_setIfInBounds, List.take_set]
end Go.Sat

namespace Go.Proofs.Ytdlbamhabenhgaa
open Go.RowKit Go.Sat Go.Maps

theorem cells_set (L : List RFile) (i : Nat) (x x' : RFile) (h : L[i]? = some x) (j : Nat) (hj : j < 3) (u : Value) (hc : x'.cells = x.cells.set j u) : (L.flatMap RFile.cells).set (i * 3 + j) u = (L.set i x').flatMap RFile.cells := by
  induction L generalizing i with
  | nil => simp at h
  | cons y r ih =>
    have hy : y.cells.length = 3 := rfl
    rw [List.flatMap_cons]
    cases i with
    | zero =>
      simp at h
      subst h
      rw [List.set_cons_zero, List.flatMap_cons, hc, List.set_append_left _ _ (by omega), Nat.zero_mul, Nat.zero_add]
    | succ i =>
      rw [List.set_cons_succ, List.flatMap_cons, List.set_append_right _ _ (by omega), ← ih i (by simpa using h)]
      congr 2
      omega

/-- Where the document's disk lies, whatever it says. -/
structure RefCore (w : World) (r : Nat) (v : Value) (L : List RFile) (own : Nat → Prop) (room : Nat) (fuse : Option Nat) : Prop where
  cells : w.heap[r]? = some (.cells #[.int .i64 (room : Int), v, .int .i64 (leftOf fuse)] 94 (0, 0))
  row : OwnR w 96 3 v L.length (L.flatMap RFile.cells)
  data : ∀ x ∈ L, OwnB w 5 x.b x.f.data
  or : own r
  ov : ∀ k, v.ownBlock = some k → own k ∧ k ≠ r
  ob : ∀ x ∈ L, ∀ k, x.b.ownBlock = some k → own k ∧ k ≠ r ∧ v.ownBlock ≠ some k
  olt : ∀ k, own k → k < w.heap.size

section
variable {w : World} {r : Nat} {v : Value} {L : List RFile} {own : Nat → Prop} {D : DiskM} {room : Nat} {fuse : Option Nat}

theorem RefIn.core (h : RefIn w r v L own D) : RefCore w r v L own D.room D.fuse := ⟨h.cells, h.row, h.data, h.or, h.ov, h.ob, h.olt⟩
theorem RefCore.full (h : RefCore w r v L own room fuse) (hr : D.room = room) (hf : D.fuse = fuse) (hL : D.files = L.map RFile.key) (ok : D.OK) : RefIn w r v L own D := by
  subst hr
  subst hf
  exact ⟨h.cells, h.row, hL, h.data, h.or, h.ov, h.ob, h.olt, ok⟩

theorem RefCore.at (h : RefCore w r v L own room fuse) {g : Nat} (hg : v.ownBlock = some g) {i : Nat} {x : RFile} (hx : L[i]? = some x) : w.cell? ⟨g, i * 3, none⟩ = some (encStr x.n) ∧ w.cell? ⟨g, i * 3 + 1, none⟩ = some x.b ∧ w.cell? ⟨g, i * 3 + 2, none⟩ = some (.int .i64 (x.f.lasts : Int)) := by
  have hc := h.row.cells hg
  refine ⟨?_, ?_, ?_⟩
  · have := hc (i * 3 + 0) (encStr x.n) ((cells_at L i x hx 0 (by omega)).trans rfl)
    rwa [add_zero] at this
  · have := hc (i * 3 + 1) x.b ((cells_at L i x hx 1 (by omega)).trans rfl)
    rwa [add_zero] at this
  · have := hc (i * 3 + 2) _ ((cells_at L i x hx 2 (by omega)).trans rfl)
    rwa [add_zero] at this

theorem mem_set {α : Type} {L : List α} {i : Nat} {x' y : α} (h : y ∈ L.set i x') : y ∈ L ∨ y = x' := List.mem_or_eq_of_mem_set h

/-- A cell of a file is written. -/
theorem RefCore.store (h : RefCore w r v L own room fuse) {g : Nat} (hg : v.ownBlock = some g) {i : Nat} {x : RFile} (hx : L[i]? = some x) (j : Nat) (hj : j < 3) (u : Value) (x' : RFile) (hc : x'.cells = x.cells.set j u)
    {own' : Nat → Prop} (hown : ∀ k, own k → own' k) (hd : OwnB w 5 x'.b x'.f.data) (hb : ∀ k, x'.b.ownBlock = some k → own' k ∧ k ≠ r ∧ k ≠ g) (holt : ∀ k, own' k → k < w.heap.size) :
    RefCore (w.setCell ⟨g, i * 3 + j, none⟩ u) r v (L.set i x') own' room fuse where
  cells := (set_other u (h.ov g hg).2.symm).trans h.cells
  row := by
    rw [List.length_set, ← cells_set L i x x' hx j hj u hc]
    exact h.row.set hg _ _
  data := fun y hy => by
    rcases mem_set hy with hy | rfl
    · exact OwnR.keep (h.data y hy) fun k hk => set_other u (fun e => (h.ob y hy k hk).2.2 (by rw [hg]; exact congrArg some e.symm))
    · exact OwnR.keep hd fun k hk => set_other u (hb k hk).2.2
  or := hown r h.or
  ov := fun k hk => ⟨hown k (h.ov k hk).1, (h.ov k hk).2⟩
  ob := fun y hy k hk => by
    rcases mem_set hy with hy | rfl
    · exact ⟨hown k (h.ob y hy k hk).1, (h.ob y hy k hk).2⟩
    · exact ⟨(hb k hk).1, (hb k hk).2.1, fun e => (hb k hk).2.2 (Option.some.inj (e.symm.trans hg))⟩
  olt := fun k hk => by
    have := holt k hk
    simpa [World.setCell] using this

theorem RefCore.free (h : RefCore w r v L own room fuse) {g : Nat} (hg : v.ownBlock = some g) (j : Nat) : w.frozen? ⟨g, j, none⟩ = false := by
  rcases h.row.2 with ⟨rfl, _⟩ | ⟨g', cap, cur, rfl, hgg, _⟩
  · cases hg
  · cases hg
    exact frozen_of hgg j

/-- What a thing that is done with the document's disk leaves. -/
def RStep (w : World) (r : Nat) (own : Nat → Prop) (R : DiskM × Nat) (e : Ending) (w' : World) : Prop :=
  e = .returned (.int .i64 (R.2 : Int)) ∧ ∃ own', RefAt w' r R.1 own' ∧ Chg own w w' ∧ ∀ k, own' k → own k ∨ w.heap.size ≤ k

theorem RefIn.below (h : RefIn w r v L own D) {w' : World} (hb : Below w.heap.size w w') : RefIn w' r v L own D := h.keep hb.size fun k hk => hb.block k (h.olt k hk)

theorem chg_below {w' w'' : World} (hb : Below w.heap.size w w') (hc : Chg own w' w'') : Chg own w w'' :=
  ((Chg.of_below hb).mono fun _ _ h => h.elim).trans hc fun _ _ h => h

/-- Nothing was done. -/
theorem rstep_same (h : RefIn w r v L own D) {w' : World} (hb : Below w.heap.size w w') (k : Nat) : RStep w r own (D, k) (.returned (.int .i64 (k : Int))) w' :=
  ⟨rfl, own, ⟨v, L, h.below hb⟩, (Chg.of_below hb).mono fun _ _ h => h.elim, fun _ h => .inl h⟩

theorem below_names (w : World) (o : Obj) (q : Nat) : Below w.heap.size w ((w.alloc o).drewN q) := ((Below.refl _ _).alloc (Nat.le_refl _) o).trans ⟨rfl, rfl, rfl, Nat.le_refl _, fun _ _ => rfl⟩

theorem may_fuse {ns : List Bs} (h : D.may ns = 0) : D.fuse ≠ some 0 := fun e => by
  unfold DiskM.may at h
  rw [if_pos e] at h
  cases h

/-- The fuse burns on behind what was done. -/
theorem rstep_did {D1 : DiskM} {v' : Value} {L' : List RFile} {own' : Nat → Prop} {w1 w2 : World} {e : Ending} (hc : Chg own w w1) (hx : ∀ k, own' k → own k ∨ w.heap.size ≤ k) (_ho : w.heap.size ≤ w1.heap.size)
    (h : e = .returned (.int .i64 0) ∧ RefIn w2 r v' L' own' D1.done ∧ Chg own' w1 w2) : RStep w r own (D1.done, 0) e w2 := by
  obtain ⟨rfl, h2, hc2⟩ := h
  refine ⟨rfl, own', ⟨v', L', h2⟩, hc.trans hc2 fun k hk hT => ?_, hx⟩
  rcases hx k hT with h | h
  · exact h
  · omega

theorem map_set_key (L : List RFile) (i : Nat) (x : RFile) : (L.set i x).map RFile.key = (L.map RFile.key).set i x.key := List.map_set ..

theorem RefIn.put (h : RefIn w r v L own D) {n : Bs} {f : FileM} (hg : Sat.get n D.files = some f) (x' : RFile) (hn : x'.n = n) : put n x'.f D.files = (L.set (spotN n (L.map RFile.n)) x').map RFile.key := by
  have h1 : isAt n (D.files.map (·.1)) = true := by rw [(spot_get n h.ok.srt).1, hg]; rfl
  rw [put_at n x'.f h.ok.srt h1, map_set_key, ← h.files, h.names]
  unfold RFile.key
  rw [hn]

set_option maxRecDepth 100000 in
set_option maxHeartbeats 2000000 in
theorem rsync_calls (h : RefIn w r v L own D) (s : ByteArray) (hs : s.size ≤ 9223372036854775807) :
    Calls Try.prog 64 #[.pointer (some ⟨r, 0, none⟩), .string s] w (RStep w r own (D.sync [nm s])) := by
  have h1 : RefIn (w.alloc (.cells #[.string s] 9)) r v L own D := h.below ((Below.refl _ _).alloc (Nat.le_refl _) _)
  have hmay := rmay_calls h1 (some ⟨w.heap.size, 0, none⟩) [s] 1 (strs_one w s) (by simp) (by simpa using hs)
  simp only [List.map_cons, List.map_nil] at hmay
  unfold DiskM.sync
  rw [each_one]
  by_cases hm : D.may [nm s] = 0
  · have hsp := spot_calls h1 s
    rw [h.is] at hsp
    rw [hm] at hmay
    cases hg : Sat.get (nm s) D.files with
    | none =>
      rw [hg] at hsp
      have hR : DiskM.each1 DiskM.gSync D (nm s) = (D, 7) := by unfold DiskM.each1; rw [if_neg (by rw [hm]; simp), hg]
      rw [hR]
      have Hf := Lib.hid (fun q => rstep_same h (below_names w (.cells #[.string s] 9) q) 7)
      have Hmay := Lib.hid hmay
      have Hsp := Lib.hid hsp
      clear h h1 hmay hsp hm hR hg
      go_enter Try.func64, Try.ntmps64
      go_wp2_with fail
      refine Hmay.out.mono ?_
      rintro e w2 ⟨rfl, rfl⟩
      go_wp2_with fail
      refine Hsp.out.mono ?_
      rintro e w3 ⟨rfl, q, rfl⟩
      go_wp2_with fail
      go_ret
      exact Hf.out q
    | some f =>
      rw [hg] at hsp
      obtain ⟨x, hx, hxn, rfl⟩ := h.hit hg
      have hlm := h.len_le hx
      have hput := h.put hg ⟨x.n, x.b, ⟨x.f.data, x.f.data.length⟩⟩ hxn
      have hxm := List.mem_of_getElem? hx
      have hN : spotN (nm s) (L.map RFile.n) < L.length := (List.getElem?_eq_some_iff.1 hx).1
      have hR : DiskM.each1 DiskM.gSync D (nm s) = (DiskM.done { D with files := DiskM.gSync (nm s) x.f D.files }, 0) := by unfold DiskM.each1; rw [if_neg (by rw [hm]; simp), hg]
      rw [hR]
      have hok := ok_sync h.ok hg
      generalize spotN (nm s) (L.map RFile.n) = i at *
      have hFin : ∀ W g, Below w.heap.size w W → v.ownBlock = some g → RefIn (W.setCell ⟨g, i * 3 + 2, none⟩ (.int .i64 (x.f.data.length : Int))) r v (L.set i ⟨x.n, x.b, ⟨x.f.data, x.f.data.length⟩⟩) own { D with files := DiskM.gSync (nm s) x.f D.files } := fun W g hbW hgv => by
        have hW := (h.below hbW).core
        exact (hW.store hgv hx 2 (by omega) _ ⟨x.n, x.b, ⟨x.f.data, x.f.data.length⟩⟩ rfl (fun _ h => h) (hW.data x hxm) (fun k hk => ⟨(h.ob x hxm k hk).1, (h.ob x hxm k hk).2.1, fun e => (h.ob x hxm k hk).2.2 (by rw [hgv, e])⟩) hW.olt).full rfl rfl hput hok
      have hCh : ∀ W g, Below w.heap.size w W → v.ownBlock = some g → Chg own w (W.setCell ⟨g, i * 3 + 2, none⟩ (.int .i64 (x.f.data.length : Int))) := fun W g hbW hgv => chg_below hbW (chg_own (h.ov g hgv).1)
      rcases h.at with h0 | ⟨g, c0, rfl, hlc, -⟩
      · rw [h0] at hN
        simp at hN
      have hDid := fun W hbW => rdid_calls (hFin W g hbW rfl) (may_fuse hm)
      have hCh' := fun W hbW => hCh W g hbW rfl
      have hcell : ∀ W, Below w.heap.size w W → (W.cell? ⟨r, 1, none⟩ = some (.slice (some ⟨g, 0, none⟩) L.length c0) ∧ W.cell? ⟨g, i * 3 + 1, none⟩ = some x.b ∧ W.cell? ⟨g, i * 3 + 2, none⟩ = some (.int .i64 (x.f.lasts : Int)) ∧ W.frozen? ⟨g, i * 3 + 2, none⟩ = false) := fun W hbW => by
        have hW := h.below hbW
        exact ⟨hW.c1, (hW.core.at rfl hx).2.1, (hW.core.at rfl hx).2.2, hW.core.free rfl _⟩
      obtain ⟨pb, cb, eb⟩ := HasB.slice (h.data x hxm).has
      rw [eb] at hcell
      generalize x.f.data.length = m at *
      have HDid := Lib.hid (And.intro hDid hCh')
      have Hcell := Lib.hid hcell
      have Hmay := Lib.hid hmay
      have Hsp := Lib.hid hsp
      clear h h1 hmay hsp hm hR hg hput hok hFin hCh hDid hCh' hcell hx hxm eb
      go_enter Try.func64, Try.ntmps64
      go_wp2_with fail
      refine Hmay.out.mono ?_
      rintro e w2 ⟨rfl, rfl⟩
      go_wp2_with fail
      refine Hsp.out.mono ?_
      rintro e w3 ⟨rfl, q, rfl⟩
      have HbW := Lib.hid (below_names w (.cells #[.string s] 9) q)
      generalize (w.alloc (.cells #[.string s] 9)).drewN q = W at *
      obtain ⟨hc1, hc2, hc3, hfz⟩ := Hcell.out W HbW.out
      go_wp2_with fail
      go_still_tail 14, (by kernel_rfl)
      change wpList _ _ _ _ _ W.drew
      have hbD : Below w.heap.size w W.drew := HbW.out.trans ⟨rfl, rfl, rfl, Nat.le_refl _, fun _ _ => rfl⟩
      obtain ⟨hc1, hc2, hc3, hfz⟩ := Hcell.out _ hbD
      have Hdid := Lib.hid (HDid.out.1 _ hbD)
      have Hch := Lib.hid (HDid.out.2 _ hbD)
      clear Hcell HDid hbD
      generalize W.drew = Wd at *
      go_wp2_with fail
      refine Hdid.out.mono ?_
      intro e w4 h4
      have hE := rstep_did Hch.out (fun _ h => .inl h) Hch.out.size h4
      obtain ⟨rfl, -⟩ := h4
      have HE := Lib.hid hE
      clear hE
      go_wp2_with fail
      go_ret
      exact HE.out
  · have hR : DiskM.each1 DiskM.gSync D (nm s) = (D, D.may [nm s]) := by unfold DiskM.each1; rw [if_pos hm]
    rw [hR]
    have Hf := Lib.hid (rstep_same h ((Below.refl _ _).alloc (Nat.le_refl _) (.cells #[.string s] 9)) (D.may [nm s]))
    have Hmay := Lib.hid hmay
    generalize D.may [nm s] = m at *
    have hne : ((m : Int) != 0) = true := by simp; omega
    clear h h1 hmay hR
    go_enter Try.func64, Try.ntmps64
    go_wp2_with fail
    refine Hmay.out.mono ?_
    rintro e w2 ⟨rfl, rfl⟩
    go_wp2_with fail
    go_ret
    exact Hf.out
end
end Go.Proofs.Ytdlbamhabenhgaa
