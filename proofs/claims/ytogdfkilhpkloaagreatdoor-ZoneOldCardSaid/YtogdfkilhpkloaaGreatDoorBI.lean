/- The contract of keep.Save: the walk. The contract of keep.Load. A ledger (a plain model): what a disk opens as, what Append, Write and Drop leave. The contract of Truncate. The contract of keep.Clear. The contract of keep.Clear: the walk. What keep.Save leaves on a disk with room (plain laws). DiskKeeps: the walk. What keep.Load says of what keep.Save left, behind a crash too; rows that are laid out; a nil disk. A ledger in memory; the contracts of ledger's has, removes, imageName, logName. A ledger of a law's own, its disk, and blocks (F) that neither has. ledger: clears, Base, At, dies. (Printed by mkled.py.) ledger: image. (Printed by mkled2.py.) -/
import Derived.Test.YtogdfkilhpkloaaGreatDoorBA
import Derived.Test.YtogdfkilhpkloaaGreatDoorBC
import Derived.Test.YtogdfkilhpkloaaGreatDoorBE
import Derived.Test.YtogdfkilhpkloaaGreatDoorBH
import Derived.Test.YtogdfkilhpkloaaGreatDoorShelf
namespace Go.Proofs.YtogdfkilhpkloaaGreatDoor
open Go.RowKit Go.Sat Go.Maps

set_option maxRecDepth 100000 in
set_option maxHeartbeats 4000000 in
theorem save_calls {w w1 : World} {d : Nat} {D : DiskM} {F : Nat → Prop} (h : St w w1 d D F) (s : ByteArray) (hs : s.size ≤ 9223372036854775807) {p : Option Addr} {n c : Nat} {ls : List Bs} (hx : RowsAt w1 (.slice p n c) ls) (hn : n ≤ 140737488355328) (hl : ls.flatten.length ≤ 1048576) :
    Calls Tryz.prog 97 #[.pointer (some ⟨d, 0, none⟩), .string s, .slice p n c] w1 (Told w d F w1 (D.save (nm s) ls.flatten)) := by
  have hsz : (nm s).length = s.size := nm_len s
  by_cases hnm : (nm s).length < 1 ∨ 60 < (nm s).length
  · have hM : D.save (nm s) ls.flatten = (D, 1) := by unfold DiskM.save; rw [if_pos hnm]
    rw [hM]
    have Hfin := Lib.hid (show Told w d F w1 (D, 1) (.returned (.int .i64 1)) w1 from ⟨rfl, h, fun _ _ => rfl⟩)
    rw [hsz] at hnm
    generalize hzz : s.size = z at *
    clear hM h hx
    have hd1 : (decide ((z : Int) < 1) || decide (60 < (z : Int))) = true := by simp; omega
    by_cases hz : z < 1
    · have hz0 : z = 0 := by omega
      subst hz0
      go_enter Tryz.func97, Tryz.ntmps97
      go_wp2_with fail
      go_ret
      exact Hfin.out
    · have hz6 : 60 < z := by omega
      go_enter Tryz.func97, Tryz.ntmps97
      go_wp2_with fail
      go_ret
      exact Hfin.out
  · have hM : D.save (nm s) ls.flatten = DiskM.save1 D (nm s) (frameN ls.flatten) := by unfold DiskM.save; rw [if_neg hnm]
    rw [hM]
    have He := Lib.hid (enc_calls hx hn hl)
    have Hst := Lib.hid h
    rw [hsz] at hnm
    have hsh : (s ++ (⟨#[126]⟩ : ByteArray)).size = s.size + 1 := by simp [ByteArray.size_append]; rfl
    generalize hz : s.size = z at *
    have Hl := Lib.hid hl
    clear hM h hx hl
    go_enter Tryz.func97, Tryz.ntmps97
    go_wp2_with fail
    refine He.out.mono ?_
    rintro e w2 ⟨v, rfl, hv, hnew, hb⟩
    have hvl : ∀ k, v.ownBlock = some k → k < w2.heap.size := fun k hk => hv.lt (by simp [frameN, headN, fourN]) hk
    have hst2 : St w w2 d D (Fv F v) := Hst.out.move (S := fun _ => False) (Chg.of_below hb) (fun _ _ h => h.elim) fun k hk => by
      rcases hk with hk | hk
      · exact ⟨.inl hk, Nat.lt_of_lt_of_le (Hst.out.flt hk) hb.size⟩
      · exact ⟨.inr (hnew k hk), hvl k hk⟩
    have hsame2 : Same (fun k => F k) w1 w2 := same_below Hst.out hb
    have Hth := Lib.hid (there_calls hst2 (s ++ (⟨#[126]⟩ : ByteArray)) (by rw [hsh]; omega))
    rw [nm_shadow] at Hth
    have Hv := Lib.hid hv
    have Hs2 := Lib.hid hsame2
    have Hst2 := Lib.hid hst2
    clear hv hnew hb hvl hst2 hsame2
    go_wp2_with fail
    refine Hth.out.mono ?_
    rintro e w3 ⟨rfl, hb3, hst3⟩
    obtain ⟨pv, cv, rfl⟩ := Hv.out.slice
    generalize hmv : (frameN ls.flatten).length = mv at *
    have Hst := Lib.hid hst3
    have Hs := Lib.hid (Hs2.out.trans (same_below (Hst2.out.less fun _ hk => .inl hk) hb3))
    have Hv := Lib.hid (Hv.out.below hb3)
    clear hb3 hst3
    cases hg : Sat.get (shadowN (nm s)) D.files with
    | none =>
      have h0 : D.save0 (nm s) = (D, 0) := by unfold DiskM.save0; rw [hg]; rfl
      clear Hth
      have hap := st_append (Hst.out.alloc (.cells #[.slice pv mv cv] 39)) (s ++ (⟨#[126]⟩ : ByteArray)) (.slice (some ⟨w3.heap.size, 0, none⟩) 1 1) [frameN ls.flatten] (rows_one (v := .slice pv mv cv) Hv.out 39 (0, 0) _ 1 rfl (Nat.le_refl _)) (by simp) (by rw [List.flatten_cons, List.flatten_nil, List.append_nil, frame_len]; have := Hl.out; omega) (by rw [hsh]; omega)
      rw [nm_shadow, List.flatten_cons, List.flatten_nil, List.append_nil] at hap
      have Hsa := Lib.hid (Hs.out.trans (same_below (F := F) (Hst.out.less fun _ hk => .inl hk) ((Below.refl w3.heap.size w3).alloc (Nat.le_refl _) (.cells #[.slice pv mv cv] 39))))
      cases h1 : DiskM.append D (shadowN (nm s)) (frameN ls.flatten) with
      | mk D1 e1 =>
        rw [h1] at hap
        have Hap := Lib.hid hap
        by_cases he1 : e1 = 0
        · subst he1
          clear hap
          go_wp2_with fail
          refine Hap.out.mono ?_
          rintro e w5 ⟨rfl, hst5, hs5⟩
          have hst5 : St w w5 d D1 (Fv F (.slice pv mv cv)) := hst5
          have hsy := st_sync hst5 [s ++ (⟨#[126]⟩ : ByteArray)] w5.heap.size 1 rfl (0, 0) (by simp) (by simp [hsh]; omega)
          rw [show [s ++ (⟨#[126]⟩ : ByteArray)].map nm = [shadowN (nm s)] from by rw [List.map_cons, nm_shadow, List.map_nil]] at hsy
          have Hsb := Lib.hid (Hsa.out.trans (Same.trans (fun k hk => hs5 k (.inl hk)) (same_below (F := F) (hst5.less fun _ hk => .inl hk) ((Below.refl w5.heap.size w5).alloc (Nat.le_refl _) (.cells #[.string (s ++ (⟨#[126]⟩ : ByteArray))] 9)))))
          clear hs5 hst5
          cases h2 : DiskM.sync D1 [shadowN (nm s)] with
          | mk D2 e2 =>
            rw [h2] at hsy
            have Hsy := Lib.hid hsy
            by_cases he2 : e2 = 0
            · subst he2
              clear hsy
              go_wp2_with fail
              refine Hsy.out.mono ?_
              rintro e w6 ⟨rfl, hst6, hs6⟩
              have hst6 : St w w6 d D2 (Fv F (.slice pv mv cv)) := hst6
              have hrn := st_rename hst6 (s ++ (⟨#[126]⟩ : ByteArray)) s (by rw [hsh]; omega) (by omega)
              rw [nm_shadow, ← save1_ren h0 h1 h2] at hrn
              have Hrn := Lib.hid hrn
              have Hsc := Lib.hid (Hsb.out.trans (fun k hk => hs6 k (.inl hk)))
              clear hrn hs6 hst6
              go_wp2_with fail
              refine Hrn.out.mono ?_
              intro e w7 hT
              have hE := save_end Hsc.out hT
              obtain ⟨rfl, -⟩ := hT
              have HE := Lib.hid hE
              clear hE
              go_wp2_with fail
              go_ret
              exact HE.out
            · have hne : ((e2 : Int) != 0) = true := by simp; omega
              clear hsy
              go_wp2_with fail
              refine Hsy.out.mono ?_
              intro e w6 hT
              have hE : Told w d F w1 (D.save1 (nm s) (frameN ls.flatten)) e w6 := by rw [save1_syn h0 h1 h2 he2]; exact save_end Hsb.out hT
              obtain ⟨rfl, -⟩ := hT
              have HE := Lib.hid hE
              clear hE
              go_wp2_with fail
              go_ret
              exact HE.out
        · have hne : ((e1 : Int) != 0) = true := by simp; omega
          clear hap
          go_wp2_with fail
          refine Hap.out.mono ?_
          intro e w5 hT
          have hE : Told w d F w1 (D.save1 (nm s) (frameN ls.flatten)) e w5 := by rw [save1_app h0 h1 he1]; exact save_end Hsa.out hT
          obtain ⟨rfl, -⟩ := hT
          have HE := Lib.hid hE
          clear hE
          go_wp2_with fail
          go_ret
          exact HE.out
    | some f =>
      have hrm := st_remove Hst.out [s ++ (⟨#[126]⟩ : ByteArray)] w3.heap.size 1 rfl (0, 0) (by simp) (by simp [hsh]; omega)
      rw [show [s ++ (⟨#[126]⟩ : ByteArray)].map nm = [shadowN (nm s)] from by rw [List.map_cons, nm_shadow, List.map_nil]] at hrm
      have Hsr := Lib.hid (Hs.out.trans (same_below (Hst.out.less fun _ hk => .inl hk) ((Below.refl w3.heap.size w3).alloc (Nat.le_refl _) (.cells #[.string (s ++ (⟨#[126]⟩ : ByteArray))] 9))))
      cases h0 : D.save0 (nm s) with
      | mk D0 e0 =>
        have hz0 : DiskM.remove D [shadowN (nm s)] = (D0, e0) := by rw [← h0]; unfold DiskM.save0; rw [hg]; rfl
        rw [hz0] at hrm
        have Hrm := Lib.hid hrm
        clear hrm
        by_cases he0 : e0 = 0
        · subst he0
          go_wp2_with fail
          refine Hrm.out.mono ?_
          rintro e w4 ⟨rfl, hst4, hs4⟩
          have Hst4 := Lib.hid (show St w w4 d D0 (Fv F (.slice pv mv cv)) from hst4)
          have Hv4 := Lib.hid ((Hv.out.below ((Below.refl w3.heap.size w3).alloc (Nat.le_refl _) (.cells #[.string (s ++ (⟨#[126]⟩ : ByteArray))] 9))).same fun k hk => hs4 k (.inr hk))
          have Hs4 := Lib.hid (Hsr.out.trans (fun k hk => hs4 k (.inl hk)))
          clear Hst Hv Hs Hsr hst4 hs4
          have Hst := Hst4
          have Hv := Hv4
          have Hs := Hs4
          clear Hst4 Hv4 Hs4
          have hap := st_append (Hst.out.alloc (.cells #[.slice pv mv cv] 39)) (s ++ (⟨#[126]⟩ : ByteArray)) (.slice (some ⟨w4.heap.size, 0, none⟩) 1 1) [frameN ls.flatten] (rows_one (v := .slice pv mv cv) Hv.out 39 (0, 0) _ 1 rfl (Nat.le_refl _)) (by simp) (by rw [List.flatten_cons, List.flatten_nil, List.append_nil, frame_len]; have := Hl.out; omega) (by rw [hsh]; omega)
          rw [nm_shadow, List.flatten_cons, List.flatten_nil, List.append_nil] at hap
          have Hsa := Lib.hid (Hs.out.trans (same_below (F := F) (Hst.out.less fun _ hk => .inl hk) ((Below.refl w4.heap.size w4).alloc (Nat.le_refl _) (.cells #[.slice pv mv cv] 39))))
          cases h1 : DiskM.append D0 (shadowN (nm s)) (frameN ls.flatten) with
          | mk D1 e1 =>
            rw [h1] at hap
            have Hap := Lib.hid hap
            by_cases he1 : e1 = 0
            · subst he1
              clear hap
              go_wp2_with fail
              refine Hap.out.mono ?_
              rintro e w5 ⟨rfl, hst5, hs5⟩
              have hst5 : St w w5 d D1 (Fv F (.slice pv mv cv)) := hst5
              have hsy := st_sync hst5 [s ++ (⟨#[126]⟩ : ByteArray)] w5.heap.size 1 rfl (0, 0) (by simp) (by simp [hsh]; omega)
              rw [show [s ++ (⟨#[126]⟩ : ByteArray)].map nm = [shadowN (nm s)] from by rw [List.map_cons, nm_shadow, List.map_nil]] at hsy
              have Hsb := Lib.hid (Hsa.out.trans (Same.trans (fun k hk => hs5 k (.inl hk)) (same_below (F := F) (hst5.less fun _ hk => .inl hk) ((Below.refl w5.heap.size w5).alloc (Nat.le_refl _) (.cells #[.string (s ++ (⟨#[126]⟩ : ByteArray))] 9)))))
              clear hs5 hst5
              cases h2 : DiskM.sync D1 [shadowN (nm s)] with
              | mk D2 e2 =>
                rw [h2] at hsy
                have Hsy := Lib.hid hsy
                by_cases he2 : e2 = 0
                · subst he2
                  clear hsy
                  go_wp2_with fail
                  refine Hsy.out.mono ?_
                  rintro e w6 ⟨rfl, hst6, hs6⟩
                  have hst6 : St w w6 d D2 (Fv F (.slice pv mv cv)) := hst6
                  have hrn := st_rename hst6 (s ++ (⟨#[126]⟩ : ByteArray)) s (by rw [hsh]; omega) (by omega)
                  rw [nm_shadow, ← save1_ren h0 h1 h2] at hrn
                  have Hrn := Lib.hid hrn
                  have Hsc := Lib.hid (Hsb.out.trans (fun k hk => hs6 k (.inl hk)))
                  clear hrn hs6 hst6
                  go_wp2_with fail
                  refine Hrn.out.mono ?_
                  intro e w7 hT
                  have hE := save_end Hsc.out hT
                  obtain ⟨rfl, -⟩ := hT
                  have HE := Lib.hid hE
                  clear hE
                  go_wp2_with fail
                  go_ret
                  exact HE.out
                · have hne : ((e2 : Int) != 0) = true := by simp; omega
                  clear hsy
                  go_wp2_with fail
                  refine Hsy.out.mono ?_
                  intro e w6 hT
                  have hE : Told w d F w1 (D.save1 (nm s) (frameN ls.flatten)) e w6 := by rw [save1_syn h0 h1 h2 he2]; exact save_end Hsb.out hT
                  obtain ⟨rfl, -⟩ := hT
                  have HE := Lib.hid hE
                  clear hE
                  go_wp2_with fail
                  go_ret
                  exact HE.out
            · have hne : ((e1 : Int) != 0) = true := by simp; omega
              clear hap
              go_wp2_with fail
              refine Hap.out.mono ?_
              intro e w5 hT
              have hE : Told w d F w1 (D.save1 (nm s) (frameN ls.flatten)) e w5 := by rw [save1_app h0 h1 he1]; exact save_end Hsa.out hT
              obtain ⟨rfl, -⟩ := hT
              have HE := Lib.hid hE
              clear hE
              go_wp2_with fail
              go_ret
              exact HE.out
        · have hne : ((e0 : Int) != 0) = true := by simp; omega
          go_wp2_with fail
          refine Hrm.out.mono ?_
          intro e w4 hT
          have hE : Told w d F w1 (D.save1 (nm s) (frameN ls.flatten)) e w4 := by rw [save1_rem h0 he0]; exact save_end Hsr.out hT
          obtain ⟨rfl, -⟩ := hT
          have HE := Lib.hid hE
          clear hE
          go_wp2_with fail
          go_ret
          exact HE.out
end Go.Proofs.YtogdfkilhpkloaaGreatDoor

namespace Go.Proofs.YtogdfkilhpkloaaGreatDoor
open Go.RowKit Go.Sat Go.Maps

theorem data_len {D : DiskM} (h : D.OK) (n : Bs) : (dataOf (Sat.get n D.files)).length ≤ 1073741824 := by
  cases hg : Sat.get n D.files with
  | none => simp [dataOf]
  | some f =>
    have h1 : DiskM.size f ≤ D.used := le_sum h.srt hg
    have h2 := h.used
    have h3 := h.room
    show f.data.length ≤ _
    unfold DiskM.size at h1
    omega

def loadE (o : Option FileM) : Nat := if o.isSome then (if oneE (dataOf o) = 0 then 0 else 3) else 7
def loadB (o : Option FileM) : Bs := if o.isSome then oneB (dataOf o) else []

theorem loadE_none : loadE none = 7 := by unfold loadE; exact if_neg (by decide)
theorem loadB_none : loadB none = [] := by unfold loadB; exact if_neg (by decide)
theorem loadE_some (f : FileM) : loadE (some f) = if oneE (dataOf (some f)) = 0 then 0 else 3 := by unfold loadE; exact if_pos (by rfl)
theorem loadB_some (f : FileM) : loadB (some f) = oneB (dataOf (some f)) := by unfold loadB; exact if_pos (by rfl)

def GotL (w : World) (d : Nat) (D : DiskM) (F : Nat → Prop) (w1 : World) (o : Option FileM) (e : Ending) (w' : World) : Prop :=
  ∃ v, e = .returned (.tuple #[v, .int .i64 (loadE o : Int)]) ∧ OwnB w' 5 v (loadB o) ∧ (∀ k, v.ownBlock = some k → w1.heap.size ≤ k) ∧ Below w1.heap.size w1 w' ∧ St w w' d D F

theorem own_slice {w : World} {e : TypeId} {v : Value} {l : Bs} (h : OwnB w e v l) : ∃ p c, v = .slice p l.length c ∧ l.length ≤ c := by
  rcases h.2 with ⟨rfl, hn⟩ | ⟨g, cap, cur, rfl, _, hnc, _⟩
  · exact ⟨none, 0, by rw [hn], by omega⟩
  · exact ⟨_, cap, rfl, hnc⟩

theorem load_calls {w w1 : World} {d : Nat} {D : DiskM} {F : Nat → Prop} (h : St w w1 d D F) (s : ByteArray) (hs : s.size ≤ 9223372036854775807) :
    Calls Tryz.prog 160 #[.pointer (some ⟨d, 0, none⟩), .string s] w1 (GotL w d D F w1 (Sat.get (nm s) D.files)) := by
  have hln := data_len h.ok (nm s)
  have H := Lib.hid (st_read h s hs)
  clear h
  cases hg : Sat.get (nm s) D.files with
  | none =>
    rw [hg] at H
    clear hln
    go_enter Tryz.func160, Tryz.ntmps160
    go_wp2_with fail
    refine H.out.mono ?_
    rintro e w2 ⟨v, rfl, -, -, hb, hst⟩
    have Hf := Lib.hid (show GotL w d D F w1 none (.returned (.tuple #[.slice none 0 0, .int .i64 7])) w2 from ⟨.slice none 0 0, by rw [loadE_none]; rfl, by rw [loadB_none]; exact OwnR.nil _ _ _, fun k hk => (by cases hk), hb, hst⟩)
    clear hb hst
    go_wp2_with fail
    go_ret2
    exact Hf.out
  | some f =>
    rw [hg] at H hln
    go_enter Tryz.func160, Tryz.ntmps160
    go_wp2_with fail
    refine H.out.mono ?_
    rintro e w2 ⟨v, rfl, hv, -, hb, hst⟩
    obtain ⟨p, c, rfl, hnc⟩ := own_slice hv
    have H1 := Lib.hid (one_calls hv.has hnc (by omega))
    have Hst := Lib.hid hst
    have Hb := Lib.hid hb
    have hE := loadE_some f
    have hB := loadB_some f
    generalize dataOf (some f) = b at *
    generalize hN : b.length = N at *
    clear hv hst hb hnc hln
    go_wp2_with fail
    refine H1.out.mono ?_
    rintro e w3 ⟨v, rfl, hv, hn, hb3⟩
    have hb4 := Hb.out.trans (hb3.mono Hb.out.size)
    have hst3 := Hst.out.next hb3
    by_cases he : oneE b = 0
    · have Hf := Lib.hid (show GotL w d D F w1 (some f) (.returned (.tuple #[v, .int .i64 0])) w3 from ⟨v, by rw [hE, if_pos he]; rfl, by rw [hB]; exact hv, fun k hk => Nat.le_trans Hb.out.size (hn k hk), hb4, hst3⟩)
      rw [he]
      clear hv hn hb3 hb4 hst3
      go_wp2_with fail
      go_ret2
      exact Hf.out
    · have Hf := Lib.hid (show GotL w d D F w1 (some f) (.returned (.tuple #[.slice none 0 0, .int .i64 3])) w3 from ⟨.slice none 0 0, by rw [hE, if_neg he]; rfl, by rw [hB]; unfold oneB; rw [if_neg he]; exact OwnR.nil _ _ _, fun k hk => (by cases hk), hb4, hst3⟩)
      have hne : ((oneE b : Int) != 0) = true := by simp; omega
      generalize oneE b = E at *
      clear hv hn hb3 hb4 hst3
      go_wp2_with fail
      go_ret2
      exact Hf.out
end Go.Proofs.YtogdfkilhpkloaaGreatDoor

namespace Go.Proofs.YtogdfkilhpkloaaGreatDoor
open Go.RowKit Go.Sat Go.Maps

structure LedM where
  base : Nat
  data : Bs
  entries : List Bs
  dead : Bool

namespace LedM
def none0 : LedM := ⟨0, [], [], false⟩
def last (M : LedM) : Nat := M.base + M.entries.length
def die (M : LedM) : LedM := { M with dead := true }
end LedM

def imgX : Bs := [45, 105, 109, 103]
def logX : Bs := [45, 108, 111, 103]
def imgN (p : Bs) : Bs := p ++ imgX
def logN (p : Bs) : Bs := p ++ logX

/-- A number and a row: an image, or a record of the log. -/
def imgB (n : Nat) (p : Bs) : Bs := numB n ++ rowB p

namespace DiskM
/-- Files that are there are taken away. -/
def rid1 (D : DiskM) (n : Bs) : DiskM × Nat := if (get n D.files).isSome then D.remove [n] else (D, 0)
def rid (D : DiskM) : List Bs → DiskM × Nat
  | [] => (D, 0)
  | n :: r => if (rid1 D n).2 = 0 then rid (rid1 D n).1 r else rid1 D n
end DiskM

/-- A record of the log is taken in: the last number (-1: none), the entries. -/
def take1 (base : Nat) (s : Int × List Bs) (p : Bs) : Option (Int × List Bs) :=
  if (Rd.num ⟨p, false⟩).2.bytes.2.whole = false ∨ (Rd.num ⟨p, false⟩).1 < 1 ∨ 1099511627776 < (Rd.num ⟨p, false⟩).1 ∨ (0 ≤ s.1 ∧ ((Rd.num ⟨p, false⟩).1 : Int) ≠ s.1 + 1) then none
  else if (Rd.num ⟨p, false⟩).1 ≤ base then some ((Rd.num ⟨p, false⟩).1, s.2)
  else if (Rd.num ⟨p, false⟩).1 ≠ base + s.2.length + 1 then none
  else some ((Rd.num ⟨p, false⟩).1, s.2 ++ [(Rd.num ⟨p, false⟩).2.bytes.1])

def takeAll (base : Nat) : Int × List Bs → List Bs → Option (Int × List Bs)
  | s, [] => some s
  | s, p :: r => match take1 base s p with
    | none => none
    | some t => takeAll base t r

/-- What an image says: an error, a number, the data. -/
def imageOf (o : Option FileM) : Nat × Nat × Bs :=
  if loadE o = 7 then (0, 0, []) else if loadE o ≠ 0 then (loadE o, 0, [])
  else if (Rd.num ⟨loadB o, false⟩).2.bytes.2.whole = false ∨ 1099511627776 < (Rd.num ⟨loadB o, false⟩).1 then (3, 0, [])
  else (0, (Rd.num ⟨loadB o, false⟩).1, (Rd.num ⟨loadB o, false⟩).2.bytes.1)

/-- What is torn is cut off. -/
def tornOff (D : DiskM) (n : Bs) (k len : Nat) : DiskM × Nat :=
  if k < len then (if (D.truncate n (k : Int)).2 ≠ 0 then D.truncate n (k : Int) else (D.truncate n (k : Int)).1.sync [n]) else (D, 0)

/-- What a log says: the disk behind it, an error, the entries. -/
def logOf (D : DiskM) (pre : Bs) (base : Nat) : DiskM × Nat × List Bs :=
  match get (logN pre) D.files with
  | none => (D, 0, [])
  | some f => match takeAll base (-1, []) (scan f.data).1 with
    | none => (D, 3, [])
    | some s =>
      if (tornOff D (logN pre) (scan f.data).2 f.data.length).2 ≠ 0 then ((tornOff D (logN pre) (scan f.data).2 f.data.length).1, (tornOff D (logN pre) (scan f.data).2 f.data.length).2, s.2)
      else if s.2 = [] then (((tornOff D (logN pre) (scan f.data).2 f.data.length).1.remove [logN pre]).1, ((tornOff D (logN pre) (scan f.data).2 f.data.length).1.remove [logN pre]).2, s.2)
      else ((tornOff D (logN pre) (scan f.data).2 f.data.length).1, 0, s.2)

/-- What a disk opens as: the disk behind it, an error, the ledger. -/
def ledOpen (D : DiskM) (pre : Bs) : DiskM × Nat × LedM :=
  if pre.length < 1 ∨ 20 < pre.length then (D, 1, LedM.none0)
  else if (D.rid [shadowN (imgN pre)]).2 ≠ 0 then ((D.rid [shadowN (imgN pre)]).1, (D.rid [shadowN (imgN pre)]).2, LedM.none0)
  else if (imageOf (get (imgN pre) (D.rid [shadowN (imgN pre)]).1.files)).1 ≠ 0 then ((D.rid [shadowN (imgN pre)]).1, (imageOf (get (imgN pre) (D.rid [shadowN (imgN pre)]).1.files)).1, LedM.none0)
  else ((logOf (D.rid [shadowN (imgN pre)]).1 pre (imageOf (get (imgN pre) (D.rid [shadowN (imgN pre)]).1.files)).2.1).1, (logOf (D.rid [shadowN (imgN pre)]).1 pre (imageOf (get (imgN pre) (D.rid [shadowN (imgN pre)]).1.files)).2.1).2.1,
    ⟨(imageOf (get (imgN pre) (D.rid [shadowN (imgN pre)]).1.files)).2.1, (imageOf (get (imgN pre) (D.rid [shadowN (imgN pre)]).1.files)).2.2, (logOf (D.rid [shadowN (imgN pre)]).1 pre (imageOf (get (imgN pre) (D.rid [shadowN (imgN pre)]).1.files)).2.1).2.2, false⟩)

/-- Append and Sync, as one. -/
def layOn (D : DiskM) (n b : Bs) : DiskM × Nat := if (D.append n b).2 ≠ 0 then D.append n b else (D.append n b).1.sync [n]

structure Wrote where
  disk : DiskM
  led : LedM
  num : Nat
  err : Nat

def ledAppend (pre : Bs) (D : DiskM) (M : LedM) (p : Bs) : Wrote :=
  if M.dead then ⟨D, M, 0, 9⟩ else if 65536 < p.length ∨ 1099511627776 ≤ M.last then ⟨D, M, 0, 5⟩
  else if (layOn D (logN pre) (frameN (imgB (M.last + 1) p))).2 ≠ 0 then ⟨(layOn D (logN pre) (frameN (imgB (M.last + 1) p))).1, M.die, 0, (layOn D (logN pre) (frameN (imgB (M.last + 1) p))).2⟩
  else ⟨(layOn D (logN pre) (frameN (imgB (M.last + 1) p))).1, { M with entries := M.entries ++ [p] }, M.last + 1, 0⟩

/-- An image is Saved, and the log goes. -/
def imgOn (pre : Bs) (D : DiskM) (n : Nat) (p : Bs) : DiskM × Nat := if (D.save (imgN pre) (imgB n p)).2 ≠ 0 then D.save (imgN pre) (imgB n p) else (D.save (imgN pre) (imgB n p)).1.rid [logN pre]

def ledWrite (pre : Bs) (D : DiskM) (M : LedM) (n : Int) (p : Bs) : Wrote :=
  if M.dead then ⟨D, M, 0, 9⟩ else if n < (M.last : Int) ∨ 1099511627776 < n then ⟨D, M, 0, 1⟩ else if 524288 < p.length then ⟨D, M, 0, 5⟩
  else if (imgOn pre D n.toNat p).2 ≠ 0 then ⟨(imgOn pre D n.toNat p).1, M.die, 0, (imgOn pre D n.toNat p).2⟩
  else ⟨(imgOn pre D n.toNat p).1, ⟨n.toNat, p, [], M.dead⟩, 0, 0⟩

end Go.Proofs.YtogdfkilhpkloaaGreatDoor

namespace Go.Sat
open Go.RowKit
theorem own_cut {w : World} {e : TypeId} {p : Option Addr} {n c : Nat} {l : Bs} (h : OwnB w e (.slice p n c) l) {y : Nat} (hy : y ≤ l.length) : OwnB w e (.slice p y y) (l.take y) := by
  have hl : (l.take y).length = y := by rw [List.length_take]; omega
  unfold OwnB
  rw [hl]
  refine ⟨by rw [bytesV_len, hl]; omega, ?_⟩
  rcases h.2 with ⟨e1, hn⟩ | ⟨g, cap, cur, e1, hg, hnc, hcm, hcs, ht⟩
  · cases e1
    have hy0 : y = 0 := by omega
    subst hy0
    exact .inl ⟨rfl, rfl⟩
  · cases e1
    refine .inr ⟨g, y, cur, rfl, hg, Nat.le_refl _, by omega, by omega, ?_⟩
    rw [bytesV_take, ← ht, List.take_take]
    congr 1
    omega
end Go.Sat

namespace Go.Proofs.YtogdfkilhpkloaaGreatDoor
open Go.RowKit Go.Sat Go.Maps

theorem ok_trunc {D : DiskM} (h : D.OK) {n : Bs} {f : FileM} (hg : Sat.get n D.files = some f) (k : Nat) : DiskM.OK { D with files := put n ⟨f.data.take k, min f.lasts k⟩ D.files } where
  srt := srt_put h.srt
  room := h.room
  used := by
    show sumBy DiskM.size (put n _ D.files) ≤ D.room
    rw [sum_put]
    have h1 : D.used = DiskM.size f + sumBy DiskM.size (del n D.files) := sum_del h.srt hg
    have := h.used
    simp only [DiskM.size, List.length_take] at h1 ⊢
    omega
  count := by
    show (put n _ D.files).length ≤ 4096
    rw [len_put]
    have := len_del h.srt hg
    have := h.count
    omega
  names p hp := by
    rcases mem_put.1 hp with rfl | ⟨hp, _⟩
    · exact (h.names (n, f) (get_mem hg) : okN n = true)
    · exact h.names p hp
  lasts p hp := by
    rcases mem_put.1 hp with rfl | ⟨hp, _⟩
    · have h1 : f.lasts ≤ f.data.length := h.lasts (n, f) (get_mem hg)
      show min f.lasts k ≤ (f.data.take k).length
      rw [List.length_take]
      omega
    · exact h.lasts p hp
  fuse := h.fuse

section
variable {w : World} {d m : Nat} {left : Int} {L : List (Bs × FRep)} {own : Own} {D : DiskM}

set_option maxRecDepth 100000 in
set_option maxHeartbeats 2000000 in
theorem trunc_bad (h : DiskIn w d m left L own D) (o : ByteArray) (hso : o.size ≤ 9223372036854775807) (z : Int) (hm : D.may [nm o] ≠ 0) :
    Calls Tryz.prog 165 #[.pointer (some ⟨d, 0, none⟩), .string o, .int .i64 z] w (After w d own (D, D.may [nm o])) := by
  have h1 := h.chg (Chg.alloc w (.cells #[.string o] 9)) (fun k hk => hk.elim)
  have hc := may_calls h1 _ [o] 1 (strs_one w o) (by simp) (by simpa using hso)
  simp only [List.map_cons, List.map_nil] at hc
  have Hfin := Lib.hid (show After w d own (D, D.may [nm o]) (.returned (.int .i64 (D.may [nm o] : Int))) (w.alloc (.cells #[.string o] 9)) from
    ⟨own, rfl, ⟨m, left, L, h1⟩, (Chg.alloc w _).mono fun _ _ h => h.elim, ext_refl _ _⟩)
  generalize D.may [nm o] = e0 at *
  have hne : ((e0 : Int) != 0) = true := by simp; omega
  have Hc := Lib.hid hc
  clear h hc h1
  go_enter Tryz.func165, Tryz.ntmps165
  go_wp2_with fail
  refine Hc.out.mono ?_
  rintro e w' ⟨rfl, rfl⟩
  go_wp2_with fail
  go_ret
  exact Hfin.out

set_option maxRecDepth 100000 in
set_option maxHeartbeats 2000000 in
theorem trunc_none (h : DiskIn w d m left L own D) (o : ByteArray) (hso : o.size ≤ 9223372036854775807) (z : Int) (hm : D.may [nm o] = 0) (hg : Sat.get (nm o) L = none) :
    Calls Tryz.prog 165 #[.pointer (some ⟨d, 0, none⟩), .string o, .int .i64 z] w (After w d own (D, 7)) := by
  have h1 := h.chg (Chg.alloc w (.cells #[.string o] 9)) (fun k hk => hk.elim)
  have hc := may_calls h1 _ [o] 1 (strs_one w o) (by simp) (by simpa using hso)
  simp only [List.map_cons, List.map_nil, hm] at hc
  have hlook := run_look_none _ keyLaw Tryz.underlying9 Tryz.underlying89 (zeroFile _) FRep.fb h1.map hso hg
  have hc1 := h1.c1
  have Hfin := Lib.hid (show After w d own (D, 7) (.returned (.int .i64 (7 : Int))) (w.alloc (.cells #[.string o] 9)) from
    ⟨own, rfl, ⟨m, left, L, h1⟩, (Chg.alloc w _).mono fun _ _ h => h.elim, ext_refl _ _⟩)
  have Hc := Lib.hid hc
  have Hlook := Lib.hid hlook
  have Hc1 := Lib.hid hc1
  clear h hc h1 hlook hc1
  generalize hw0 : w.alloc (.cells #[.string o] 9) = w0 at *
  go_enter Tryz.func165, Tryz.ntmps165
  go_wp2_with fail
  have hlook := Hlook.out
  have hc1 := Hc1.out
  refine Hc.out.mono ?_
  rintro e w' ⟨rfl, rfl⟩
  clear hw0
  go_wp2_with fail
  go_ret
  exact Hfin.out
set_option maxRecDepth 100000 in
set_option maxHeartbeats 4000000 in
theorem trunc_some (h : DiskIn w d m left L own D) (o : ByteArray) (hso : o.size ≤ 9223372036854775807) (z : Int) (hz : -9223372036854775808 ≤ z) (hz' : z ≤ 9223372036854775807) (hm : D.may [nm o] = 0) {r : FRep} (hg : Sat.get (nm o) L = some r) :
    Calls Tryz.prog 165 #[.pointer (some ⟨d, 0, none⟩), .string o, .int .i64 z] w (After w d own (if z < 0 ∨ (r.f.data.length : Int) < z then (D, 1) else (DiskM.done { D with files := put (nm o) ⟨r.f.data.take z.toNat, min r.f.lasts z.toNat⟩ D.files }, 0))) := by
  have h1 := h.chg (Chg.alloc w (.cells #[.string o] 9)) (fun k hk => hk.elim)
  have hc := may_calls h1 _ [o] 1 (strs_one w o) (by simp) (by simpa using hso)
  simp only [List.map_cons, List.map_nil, hm] at hc
  have hlook := run_look_some _ keyLaw Tryz.underlying9 Tryz.underlying89 (zeroFile _) FRep.fb h1.map hso hg
  have hc1 := h1.c1
  have hkey := WideMaps.keyOf_string_mk Tryz.underlying9 hso
  have hzf := may_zero hm
  have hgD : Sat.get (nm o) D.files = some r.f := by rw [h.get, hg]; rfl
  have hr := h1.fileAt hg
  have hlm : r.f.data.length ≤ 1073741824 := by
    have h5 : DiskM.size r.f ≤ D.used := le_sum h.ok.srt hgD
    have h6 := h.ok.used
    have h7 := h.ok.room
    unfold DiskM.size at h5
    omega
  obtain ⟨pv, cv, ev, hmc⟩ : ∃ p c, r.v = .slice p r.f.data.length c ∧ r.f.data.length ≤ c := by
    rcases hr.row.2 with ⟨e, hn⟩ | ⟨g, cap, cur, e, _, hnc, _⟩
    · exact ⟨none, 0, by rw [e, hn], by omega⟩
    · exact ⟨_, cap, e, hnc⟩
  have hcA := cell_of (i := 0) hr.cells rfl
  have hcB := cell_of (i := 1) hr.cells rfl
  have hfA := frozen_of hr.cells 0
  have hfB := frozen_of hr.cells 1
  rw [ev] at hcA
  by_cases hb : z < 0 ∨ (r.f.data.length : Int) < z
  · rw [if_pos hb]
    have Hfin := Lib.hid (show After w d own (D, 1) (.returned (.int .i64 ((1 : Nat) : Int))) (w.alloc (.cells #[.string o] 9)) from
      ⟨own, rfl, ⟨m, left, L, h1⟩, (Chg.alloc w _).mono fun _ _ h => h.elim, ext_refl _ _⟩)
    have Hc := Lib.hid hc
    generalize r.f.data.length = M at *
    clear h h1 hc hm hzf hg hgD hr hfA hfB ev
    generalize hw0 : w.alloc (.cells #[.string o] 9) = w0 at *
    by_cases hz0 : z < 0
    · go_enter Tryz.func165, Tryz.ntmps165
      go_wp2_with fail
      refine Hc.out.mono ?_
      rintro e w' ⟨rfl, rfl⟩
      clear hw0
      go_wp2_with fail
      go_ret
      exact Hfin.out
    · obtain ⟨y, rfl⟩ : ∃ y : Nat, z = (y : Int) := ⟨z.toNat, by omega⟩
      have hMy : M < y := by omega
      go_enter Tryz.func165, Tryz.ntmps165
      go_wp2_with fail
      refine Hc.out.mono ?_
      rintro e w' ⟨rfl, rfl⟩
      clear hw0
      go_wp2_with fail
      go_ret
      exact Hfin.out
  · rw [if_neg hb]
    obtain ⟨y, rfl⟩ : ∃ y : Nat, z = (y : Int) := ⟨z.toNat, by omega⟩
    rw [Int.toNat_natCast]
    have hyM : y ≤ r.f.data.length := by omega
    have hrow : OwnB (w.alloc (.cells #[.string o] 9)) 5 (.slice pv y y) (r.f.data.take y) := Go.Sat.own_cut (by rw [← ev]; exact hr.row) hyM
    have hof : own r.fb = some (2, nm o) := hr.ob
    have hog : ∀ g, (Value.slice pv y y).ownBlock = some g → own g = some (3, nm o) := fun g hgk => hr.og g (by rw [ev, ownBlock_slice pv _ _ y y]; exact hgk)
    have hv2 : OwnB (((w.alloc (.cells #[.string o] 9)).setCell ⟨r.fb, 0, none⟩ (.slice pv y y)).setCell ⟨r.fb, 1, none⟩ (.int .i64 ((min r.f.lasts y : Nat) : Int))) 5 (.slice pv y y) (r.f.data.take y) := OwnB.keep hrow fun k hk => by
      have hne : k ≠ r.fb := fun e => by
        have h1 := hog k hk
        rw [e, hof] at h1
        simp at h1
      exact (set_other _ hne).trans (set_other _ hne)
    obtain ⟨own', h4, hx⟩ := h1.upd hg (f' := ⟨r.f.data.take y, min r.f.lasts y⟩) (v' := .slice pv y y) (w' := ((w.alloc (.cells #[.string o] 9)).setCell ⟨r.fb, 0, none⟩ (.slice pv y y)).setCell ⟨r.fb, 1, none⟩ (.int .i64 ((min r.f.lasts y : Nat) : Int)))
      (by simp [World.setCell]) (fun k _ hne _ => (set_other _ hne).trans (set_other _ hne)) (set_block (set_block hr.cells 0 _) 1 _) hv2
      (fun g hgk => .inl (by rw [ev, ownBlock_slice pv _ _ y y]; exact hgk)) (ok_trunc h.ok hgD y)
    have hchg : Chg (Has own) w (((w.alloc (.cells #[.string o] 9)).setCell ⟨r.fb, 0, none⟩ (.slice pv y y)).setCell ⟨r.fb, 1, none⟩ (.int .i64 ((min r.f.lasts y : Nat) : Int))) := by
      have ho : Has own r.fb := by unfold Has; rw [hof]; simp
      refine (((Chg.alloc w _).mono (T := Has own) fun _ _ h => h.elim).trans (Chg.setCell _ ⟨r.fb, 0, none⟩ _) fun k _ e => ?_).trans (Chg.setCell _ ⟨r.fb, 1, none⟩ _) fun k _ e => ?_
      · rw [show k = r.fb from e]; exact ho
      · rw [show k = r.fb from e]; exact ho
    have hdone := done_calls h4 hzf.1
    have Hdone := Lib.hid hdone
    have Hchg := Lib.hid hchg
    have Hx := Lib.hid hx
    have Hsz := Lib.hid (Chg.alloc w (.cells #[.string o] 9)).size
    have Hod := Lib.hid (has_d h1)
    have Hc := Lib.hid hc
    obtain ⟨i0, hi, _⟩ := info_parts (show (Tryz.prog.info? 5).map (fun i => (i.zero, i.size, i.bytes)) = some (some (.int .u8 0), 1, 1) by kernel_rfl)
    have hsl : ∀ W, (Instr.slice 39 (.slice pv r.f.data.length cv) none (some (.int .i64 (y : Int))) (some (.int .i64 (y : Int)))).run Tryz.prog W = .ok (.slice pv y y) W := fun W => run_cut W Tryz.underlying39 hi pv _ cv y (by omega)
    have hmin : min (r.f.lasts : Int) (y : Int) = ((min r.f.lasts y : Nat) : Int) := by omega
    generalize hMM : r.f.data.length = M at *
    generalize r.f.lasts = la at *
    clear h h1 hc hm hzf hg hgD hr ev hrow hof hog hv2 h4 hx hchg hdone hMM
    generalize hw0 : w.alloc (.cells #[.string o] 9) = w0 at *
    go_enter Tryz.func165, Tryz.ntmps165
    go_wp2_with fail
    refine Hc.out.mono ?_
    rintro e w' ⟨rfl, rfl⟩
    clear hw0
    go_wp2_with fail
    refine Hdone.out.mono ?_
    rintro e w5 ⟨rfl, hd5, hc5⟩
    go_wp2_with fail
    go_ret
    exact ⟨own', rfl, hd5, Hchg.out.trans hc5 fun i _ e => by rw [e]; exact Hod.out, fun k hk => Hx.out k (Nat.lt_of_lt_of_le hk Hsz.out)⟩

/-- **Truncate.** -/
theorem trunc_calls (h : DiskAt w d D own) (o : ByteArray) (hso : o.size ≤ 9223372036854775807) (z : Int) (hz : -9223372036854775808 ≤ z) (hz' : z ≤ 9223372036854775807) :
    Calls Tryz.prog 165 #[.pointer (some ⟨d, 0, none⟩), .string o, .int .i64 z] w (After w d own (D.truncate (nm o) z)) := by
  obtain ⟨m, left, L, h⟩ := h
  unfold DiskM.truncate
  by_cases hm : D.may [nm o] = 0
  · rw [if_neg (by simpa using hm), h.get]
    cases hg : Sat.get (nm o) L with
    | none => exact trunc_none h o hso z hm hg
    | some r => exact trunc_some h o hso z hz hz' hm hg
  · rw [if_pos (by simpa using hm)]
    exact trunc_bad h o hso z hm
end

theorem st_trunc {w w1 : World} {d : Nat} {D : DiskM} {F : Nat → Prop} (h : St w w1 d D F) (s : ByteArray) (hss : s.size ≤ 9223372036854775807) (z : Int) (hz : -9223372036854775808 ≤ z) (hz' : z ≤ 9223372036854775807) :
    Calls Tryz.prog 165 #[.pointer (some ⟨d, 0, none⟩), .string s, .int .i64 z] w1 (Told w d F w1 (D.truncate (nm s) z)) := by
  obtain ⟨own, hd, hb, hnn, hF⟩ := h
  refine (trunc_calls hd s hss z hz hz').mono ?_
  rintro e w' ⟨own', rfl, hd', hc, hx⟩
  exact ⟨rfl, St.step hb hnn hF hd' hc hx⟩
end Go.Proofs.YtogdfkilhpkloaaGreatDoor

namespace Go.Sat
open Go.RowKit
/-- Names that begin with pre and are not to stay go. -/
def skipN (pre : Bs) (stay : List Bs) (n : Bs) : Bool := !(pre.isPrefixOf n) || stay.contains n
end Go.Sat

namespace Go.Proofs.YtogdfkilhpkloaaGreatDoor
open Go.RowKit Go.Sat Go.Maps

namespace DiskM
def clearL (pre : Bs) (stay : List Bs) (D : DiskM) : List Bs → DiskM × Nat
  | [] => (D, 0)
  | n :: r => if skipN pre stay n then clearL pre stay D r else if (D.remove [n]).2 = 0 then clearL pre stay (D.remove [n]).1 r else D.remove [n]
def clear (D : DiskM) (pre : Bs) (stay : List Bs) : DiskM × Nat := clearL pre stay D (namesOf D)

end DiskM

theorem enc_str (x : Bs) : encStr x = .string ⟨x.toArray⟩ := rfl
theorem nm_str (x : Bs) : nm ⟨x.toArray⟩ = x := by simp [nm]

theorem HasN.same {w w' : World} {v : Value} {l : List Bs} (h : HasN w v l) (hs : ∀ k, v.ownBlock = some k → w'.heap[k]? = w.heap[k]?) : HasN w' v l := by
  obtain ⟨hl, p, cap, rfl, h0, hc⟩ := h
  refine ⟨hl, p, cap, rfl, h0, fun a ha i u hu => ?_⟩
  have hb : (a.add i).block = a.block := add_block _ _
  exact (World.cell?_of_block (by rw [hb]; exact hs _ (by rw [ha]; rfl))).trans (hc a ha i u hu)

theorem contains_calls {w : World} {v : Value} {l : List Bs} (h : HasN w v l) (hl : l.length ≤ 9223372036854775807) (x : Bs) :
    Calls Tryz.prog 224 #[v, .string ⟨x.toArray⟩] w fun e w' => e = .returned (.bool (l.contains x)) ∧ w' = w := by
  rcases h.at with rfl | ⟨b, o, c, rfl, hc⟩
  · obtain ⟨p, c, rfl⟩ := h.slice
    exact Tryz.slices_Contains_string_empty p c _ w
  · have H := Tryz.slices_Contains_string b o l.length c (l.map fun x => (⟨x.toArray⟩ : ByteArray)) ⟨x.toArray⟩ w (by simp) hl (fun j hj => by
      have hj' : j < l.length := by simpa using hj
      rw [hc j l[j] (List.getElem?_eq_getElem hj'), enc_str]
      simp [List.getD_eq_getElem?_getD, hj'])
    have e : Lib.containsS ((l.map fun x => (⟨x.toArray⟩ : ByteArray)).take l.length) ⟨x.toArray⟩ = l.contains x := by
      rw [List.take_of_length_le (by simp), Bool.eq_iff_iff, Lib.containsS_iff, List.contains_iff_mem, List.mem_map]
      constructor
      · rintro ⟨y, hy, e⟩
        have : y = x := by
          have := congrArg nm e
          rwa [nm_str, nm_str] at this
        rwa [this] at hy
      · intro hx
        exact ⟨x, hx, rfl⟩
    rw [e] at H
    exact H

end Go.Proofs.YtogdfkilhpkloaaGreatDoor

namespace Go.Sat
theorem del_put {α : Type} {L : List (Bs × α)} (h : Srt L) (n : Bs) (a : α) : del n (put n a L) = del n L := by
  refine srt_ext (srt_del (srt_put h)) (srt_del h) fun m => ?_
  by_cases e : m = n
  · subst e
    rw [get_del_same, get_del_same]
  · rw [get_del_other (srt_put h) e, get_put_other h a e, get_del_other h e]

theorem put_put {α : Type} {L : List (Bs × α)} (h : Srt L) (n : Bs) (a b : α) : put n b (put n a L) = put n b L := by
  show ins (n, b) (del n (put n a L)) = ins (n, b) (del n L)
  rw [del_put h]
end Go.Sat

namespace Go.Proofs.YtogdfkilhpkloaaGreatDoor
open Go.RowKit Go.Sat Go.Maps

theorem shadow_len (n : Bs) : (shadowN n).length = n.length + 1 := by simp [shadowN]
theorem shadow_ne (n : Bs) : n ≠ shadowN n := fun e => by
  have := congrArg List.length e
  rw [shadow_len] at this
  omega

/-- So many steps behind. -/
def offF (f : Option Nat) (k : Nat) : Option Nat := f.map (· - k)

section
variable {D : DiskM} {n l : Bs}

theorem save_app (_h : D.OK) (hf : D.fuse ≠ some 0) (hn1 : 1 ≤ n.length) (hn : n.length ≤ 60) (hsh : Sat.get (shadowN n) D.files = none) (hroom : D.used + l.length + 12 ≤ D.room) (hc : D.files.length < 4096) :
    D.append (shadowN n) (frameN l) = (⟨D.room, put (shadowN n) ⟨frameN l, 0⟩ D.files, offF D.fuse 1⟩, 0) := by
  have hm : D.may [shadowN n] = 0 := by
    unfold DiskM.may
    rw [if_neg hf, if_pos]
    simp only [List.all_cons, List.all_nil, Bool.and_true, okN, shadow_len]
    simp; omega
  have hfu : D.full (shadowN n) (frameN l) = false := by
    unfold DiskM.full
    rw [frame_len, hsh]
    simp; omega
  unfold DiskM.append
  rw [if_neg (by rw [hm]; simp), if_neg (by rw [hfu]; simp)]
  have hcur : D.cur (shadowN n) = ⟨[], 0⟩ := by unfold DiskM.cur; rw [hsh]; rfl
  rw [hcur]
  rfl

theorem save_syn {room : Nat} {L : List (Bs × FileM)} {f : Option Nat} (h : Srt L) (hf : f ≠ some 0) (hn1 : 1 ≤ n.length) (hn : n.length ≤ 60) :
    DiskM.sync ⟨room, put (shadowN n) ⟨frameN l, 0⟩ L, f⟩ [shadowN n] = (⟨room, put (shadowN n) ⟨frameN l, (frameN l).length⟩ L, offF f 1⟩, 0) := by
  have hm : DiskM.may ⟨room, put (shadowN n) ⟨frameN l, 0⟩ L, f⟩ [shadowN n] = 0 := by
    unfold DiskM.may
    rw [if_neg hf, if_pos]
    simp only [List.all_cons, List.all_nil, Bool.and_true, okN, shadow_len]
    simp; omega
  have h1 : DiskM.each1 DiskM.gSync ⟨room, put (shadowN n) ⟨frameN l, 0⟩ L, f⟩ (shadowN n) = (⟨room, put (shadowN n) ⟨frameN l, (frameN l).length⟩ L, offF f 1⟩, 0) := by
    unfold DiskM.each1
    rw [if_neg (by rw [hm]; simp)]
    have hg : Sat.get (shadowN n) (DiskM.files ⟨room, put (shadowN n) ⟨frameN l, 0⟩ L, f⟩) = some ⟨frameN l, 0⟩ := get_put_same h _ _
    rw [hg]
    show ((⟨room, put _ _ (put _ _ L), _⟩ : DiskM), 0) = _
    rw [put_put h]
    rfl
  show (if (DiskM.each1 _ _ _).2 = 0 then _ else _) = _
  rw [h1, if_pos rfl]
  rfl

theorem save_ren {room : Nat} {L : List (Bs × FileM)} {f : Option Nat} {g : FileM} (h : Srt L) (hf : f ≠ some 0) (hn1 : 1 ≤ n.length) (hn : n.length ≤ 60) (hsh : Sat.get (shadowN n) L = none) :
    DiskM.rename ⟨room, put (shadowN n) g L, f⟩ (shadowN n) n = (⟨room, put n g L, offF f 1⟩, 0) := by
  have hm : DiskM.may ⟨room, put (shadowN n) g L, f⟩ [shadowN n, n] = 0 := by
    unfold DiskM.may
    rw [if_neg hf, if_pos]
    simp only [List.all_cons, List.all_nil, Bool.and_true, okN, shadow_len]
    simp; omega
  unfold DiskM.rename
  rw [if_neg (by rw [hm]; simp)]
  have hg : Sat.get (shadowN n) (DiskM.files ⟨room, put (shadowN n) g L, f⟩) = some g := get_put_same h _ _
  rw [hg]
  show ((⟨room, put n g (del (shadowN n) (put (shadowN n) g L)), _⟩ : DiskM), 0) = _
  rw [del_put h, del_none hsh]
  rfl

theorem off_ne {f : Option Nat} {k : Nat} (hf : ∀ j, f = some j → k < j) : offF f k ≠ some 0 := by
  cases f with
  | none => intro h; cases h
  | some j =>
    have := hf j rfl
    intro h
    have := Option.some.inj (show some (j - k) = some 0 from h)
    omega
theorem off_off (f : Option Nat) (a b : Nat) : offF (offF f a) b = offF f (a + b) := by
  cases f with
  | none => rfl
  | some j => exact congrArg some (Nat.sub_sub _ _ _)

theorem save_room (hn1 : 1 ≤ n.length) (hn : n.length ≤ 60) : D.save n l = D.save1 n (frameN l) := by
  unfold DiskM.save
  rw [if_neg (by omega)]

/-- A Save that is done: three steps of the fuse. -/
theorem save_all (h : D.OK) (hf : ∀ j, D.fuse = some j → 3 ≤ j) (hn1 : 1 ≤ n.length) (hn : n.length ≤ 60) (hsh : Sat.get (shadowN n) D.files = none) (hroom : D.used + l.length + 12 ≤ D.room) (hc : D.files.length < 4096) :
    D.save n l = (⟨D.room, put n ⟨frameN l, (frameN l).length⟩ D.files, offF D.fuse 3⟩, 0) := by
  have h0 : D.save0 n = (D, 0) := by unfold DiskM.save0; rw [hsh]; rfl
  have hz : D.fuse ≠ some 0 := fun e => by have := hf 0 e; omega
  rw [save_room hn1 hn, save1_ren h0 (save_app h hz hn1 hn hsh hroom hc) (save_syn h.srt (off_ne fun j e => by have := hf j e; omega) hn1 hn), off_off,
    save_ren h.srt (off_ne fun j e => by have := hf j e; omega) hn1 hn hsh, off_off]

end
end Go.Proofs.YtogdfkilhpkloaaGreatDoor

namespace Go.Proofs.YtogdfkilhpkloaaGreatDoor
open Go.RowKit Go.Sat Go.Maps

theorem stays_whole (b : Bs) (k : Int) : DiskM.stays ⟨b, b.length⟩ k = b.length := by
  show b.length + (max 0 k).toNat % (b.length - b.length + 1) = b.length
  rw [Nat.sub_self, Nat.zero_add, Nat.mod_one, Nat.add_zero]

theorem crash_whole (b : Bs) (k : Int) : DiskM.crashF k ⟨b, b.length⟩ = ⟨b, b.length⟩ := by
  show (⟨b.take (DiskM.stays ⟨b, b.length⟩ k), DiskM.stays ⟨b, b.length⟩ k⟩ : FileM) = _
  rw [stays_whole, List.take_length]

theorem get_crash (D : DiskM) (n : Bs) (k : Int) : Sat.get n (D.crash k).files = (Sat.get n D.files).map (DiskM.crashF k) := mp_get _ _ _

theorem load_frame (l : Bs) (h : l.length ≤ 1048576) (k : Nat) : loadE (some ⟨frameN l, k⟩) = 0 ∧ loadB (some ⟨frameN l, k⟩) = l := by
  have e : dataOf (some ⟨frameN l, k⟩) = frameN l := rfl
  rw [loadE_some, loadB_some, e, frame_oneE l h, frame_oneB l h]
  exact ⟨if_pos rfl, rfl⟩

end Go.Proofs.YtogdfkilhpkloaaGreatDoor

namespace Go.Proofs.YtogdfkilhpkloaaGreatDoor
open Go.RowKit Go.Sat Go.Maps

/-! ### A ledger in memory -/
structure LedIn (w : World) (l d : Nat) (pre : ByteArray) (own : Nat → Prop) (M : LedM) (dv ev : Value) (vs : List Value) : Prop where
  cells : w.heap[l]? = some (.cells #[.pointer (some ⟨d, 0, none⟩), .string pre, .int .i64 (M.base : Int), dv, ev, .bool M.dead] 157 (0, 0))
  data : OwnB w 5 dv M.data
  row : OwnR w 39 1 ev M.entries.length vs
  rows : ∀ (i : Nat) u b, vs[i]? = some u → M.entries[i]? = some b → OwnB w 5 u b
  ol : own l
  od : ∀ k, dv.ownBlock = some k → own k ∧ k ≠ l ∧ ev.ownBlock ≠ some k
  oe : ∀ k, ev.ownBlock = some k → own k ∧ k ≠ l
  ov : ∀ u ∈ vs, ∀ k, u.ownBlock = some k → own k ∧ k ≠ l ∧ ev.ownBlock ≠ some k
  olt : ∀ k, own k → k < w.heap.size
  last : M.last ≤ 1099511627776
  psz : 1 ≤ pre.size ∧ pre.size ≤ 20
  big : M.data.length ≤ 1073741824 ∧ ∀ b ∈ M.entries, b.length ≤ 1073741824

section
variable {w w' : World} {l d : Nat} {pre : ByteArray} {own : Nat → Prop} {M : LedM} {dv ev : Value} {vs : List Value}

theorem LedIn.len (h : LedIn w l d pre own M dv ev vs) : vs.length = M.entries.length := by have := h.row.1; omega

theorem LedIn.keep (h : LedIn w l d pre own M dv ev vs) (hs : ∀ k, own k → w'.heap[k]? = w.heap[k]?) (hl : ∀ k, own k → k < w'.heap.size) : LedIn w' l d pre own M dv ev vs where
  cells := (hs l h.ol).trans h.cells
  data := OwnR.keep h.data fun k hk => hs k (h.od k hk).1
  row := h.row.keep fun k hk => hs k (h.oe k hk).1
  rows := fun i u b hu hb => OwnR.keep (h.rows i u b hu hb) fun k hk => hs k (h.ov u (List.mem_of_getElem? hu) k hk).1
  ol := h.ol
  od := h.od
  oe := h.oe
  ov := h.ov
  olt := hl
  last := h.last
  psz := h.psz
  big := h.big

theorem LedIn.below (h : LedIn w l d pre own M dv ev vs) (hb : Below w.heap.size w w') : LedIn w' l d pre own M dv ev vs :=
  h.keep (fun k hk => hb.block k (h.olt k hk)) fun k hk => Nat.lt_of_lt_of_le (h.olt k hk) hb.size

theorem LedIn.c0 (h : LedIn w l d pre own M dv ev vs) : w.cell? ⟨l, 0, none⟩ = some (.pointer (some ⟨d, 0, none⟩)) := cell_of h.cells rfl
theorem LedIn.c1 (h : LedIn w l d pre own M dv ev vs) : w.cell? ⟨l, 1, none⟩ = some (.string pre) := cell_of h.cells rfl
theorem LedIn.c2 (h : LedIn w l d pre own M dv ev vs) : w.cell? ⟨l, 2, none⟩ = some (.int .i64 (M.base : Int)) := cell_of h.cells rfl
theorem LedIn.c3 (h : LedIn w l d pre own M dv ev vs) : w.cell? ⟨l, 3, none⟩ = some dv := cell_of h.cells rfl
theorem LedIn.c4 (h : LedIn w l d pre own M dv ev vs) : w.cell? ⟨l, 4, none⟩ = some ev := cell_of h.cells rfl
theorem LedIn.c5 (h : LedIn w l d pre own M dv ev vs) : w.cell? ⟨l, 5, none⟩ = some (.bool M.dead) := cell_of h.cells rfl
theorem LedIn.fr (h : LedIn w l d pre own M dv ev vs) (i : Nat) : w.frozen? ⟨l, i, none⟩ = false := frozen_of h.cells i

/-- Of a ledger's block alone. -/
def LedCells (l d : Nat) (pre : ByteArray) (w : World) : Prop := w.cell? ⟨l, 0, none⟩ = some (.pointer (some ⟨d, 0, none⟩)) ∧ w.cell? ⟨l, 1, none⟩ = some (.string pre) ∧ pre.size ≤ 20
theorem LedIn.lc (h : LedIn w l d pre own M dv ev vs) : LedCells l d pre w := ⟨h.c0, h.c1, h.psz.2⟩
end

def sImg (s : ByteArray) : ByteArray := s ++ ⟨#[45, 105, 109, 103]⟩
def sLog (s : ByteArray) : ByteArray := s ++ ⟨#[45, 108, 111, 103]⟩
def sShadow (s : ByteArray) : ByteArray := s ++ ⟨#[126]⟩
theorem nm_img (s : ByteArray) : nm (sImg s) = imgN (nm s) := by simp [nm, sImg, imgN, imgX]
theorem nm_log (s : ByteArray) : nm (sLog s) = logN (nm s) := by simp [nm, sLog, logN, logX]
theorem nm_sha (s : ByteArray) : nm (sShadow s) = shadowN (nm s) := nm_shadow s
theorem size_log (s : ByteArray) : (sLog s).size = s.size + 4 := by simp [sLog, ByteArray.size_append]; rfl
theorem size_img (s : ByteArray) : (sImg s).size = s.size + 4 := by simp [sImg, ByteArray.size_append]; rfl
theorem size_sha (s : ByteArray) : (sShadow s).size = s.size + 1 := by simp [sShadow, ByteArray.size_append]; rfl

section
variable {w w1 : World} {l d : Nat} {pre : ByteArray} {D : DiskM} {F : Nat → Prop}

theorem imgName_calls (h : LedCells l d pre w) : Calls Tryz.prog 98 #[.pointer (some ⟨l, 0, none⟩)] w fun e w' => e = .returned (.string (sImg pre)) ∧ w = w' := by
  obtain ⟨-, h1, h2⟩ := h
  go_enter Tryz.func98, Tryz.ntmps98
  go_wp2_with fail
  go_ret
  exact ⟨rfl, rfl⟩

theorem logName_calls (h : LedCells l d pre w) : Calls Tryz.prog 101 #[.pointer (some ⟨l, 0, none⟩)] w fun e w' => e = .returned (.string (sLog pre)) ∧ w = w' := by
  obtain ⟨-, h1, h2⟩ := h
  go_enter Tryz.func101, Tryz.ntmps101
  go_wp2_with fail
  go_ret
  exact ⟨rfl, rfl⟩

theorem names_has (hD : D.OK) (n : Bs) : (namesOf D).contains n = (Sat.get n D.files).isSome := by
  rw [Bool.eq_iff_iff, List.contains_iff_mem]
  unfold namesOf
  rw [List.mem_map]
  constructor
  · rintro ⟨p, hp, rfl⟩
    rw [get_of_mem hD.srt (n := p.1) (a := p.2) hp]
    rfl
  · intro h
    obtain ⟨f, hf⟩ := Option.isSome_iff_exists.1 h
    exact ⟨(n, f), get_mem hf, rfl⟩

theorem str_of (s : ByteArray) : (⟨(nm s).toArray⟩ : ByteArray) = s := by simp [nm]

theorem has_calls (h : St w w1 d D F) (s : ByteArray) :
    Calls Tryz.prog 161 #[.pointer (some ⟨d, 0, none⟩), .string s] w1 fun e w' => e = .returned (.bool (Sat.get (nm s) D.files).isSome) ∧ Below w1.heap.size w1 w' ∧ St w w' d D F := by
  have Hl := Lib.hid (st_list h)
  have hnl : (namesOf D).length ≤ 9223372036854775807 := by unfold namesOf; rw [List.length_map]; have := h.ok.count; omega
  have He := Lib.hid (names_has h.ok (nm s))
  clear h
  go_enter Tryz.func161, Tryz.ntmps161
  go_wp2_with fail
  refine Hl.out.mono ?_
  rintro e w2 ⟨v, rfl, hv, -, hb, hst⟩
  have hv' : HasN w2 v (namesOf D) := OwnR.holds hv
  have hc := contains_calls hv' hnl (nm s)
  rw [str_of, He.out] at hc
  have Hc := Lib.hid hc
  have HE := Lib.hid (And.intro hb hst)
  clear hv hb hst hv' hc Hl
  go_wp2_with fail
  refine Hc.out.mono ?_
  rintro e w3 ⟨rfl, rfl⟩
  go_wp2_with fail
  go_ret
  exact ⟨rfl, HE.out⟩

set_option maxRecDepth 100000 in
set_option maxHeartbeats 4000000 in
theorem removes_calls (h : St w w1 d D F) {p : Option Addr} {n c : Nat} {ns : List Bs} (hx : ∀ W, Below w.heap.size w W → Same F w1 W → HasN W (.slice p n c) ns) (hsz : ∀ x ∈ ns, x.length ≤ 9223372036854775807) (hn63 : ns.length ≤ 140737488355328) :
    Calls Tryz.prog 100 #[.pointer (some ⟨d, 0, none⟩), .slice p n c] w1 (Told w d F w1 (D.rid ns)) := by
  have hn : ns.length = n := by obtain ⟨_, _, e⟩ := (hx w1 h.below (fun _ _ => rfl)).slice; simp only [Value.slice.injEq] at e; exact e.2.1.symm
  rw [hn] at hn63
  have Hst := Lib.hid h
  have Hx := Lib.hid hx
  have Hsz := Lib.hid hsz
  have Hn := Lib.hid hn
  clear h hx hsz hn
  go_enter Tryz.func100, Tryz.ntmps100
  go_wp2_with fail
  go_loopw [10] (fun i wr => ∃ (k : Nat) (Dk : DiskM), k ≤ n ∧ i = .int .i64 k ∧ St w wr d Dk F ∧ Same F w1 wr ∧ D.rid ns = Dk.rid (ns.drop k)) (fun i _ => n - (intOf i).toNat)
  case atStart => exact ⟨0, D, Nat.zero_le _, rfl, Hst.out, fun _ _ => rfl, rfl⟩
  case round =>
    clear Hst
    obtain ⟨k, Dk, hk, rfl, hr, hsame, hcl⟩ := hrel
    by_cases hlt : k < n
    · have hkl : k < ns.length := by rw [Hn.out]; exact hlt
      rw [List.drop_eq_getElem_cons hkl] at hcl
      rcases (Hx.out wr hr.below hsame).at with h0 | ⟨b, o, c1, e1, hc⟩
      · rw [h0] at hkl
        simp at hkl
      rw [Hn.out] at e1
      simp only [Value.slice.injEq] at e1
      obtain ⟨rfl, -, rfl⟩ := e1
      have hcw := hc k _ (List.getElem?_eq_getElem hkl)
      rw [enc_str] at hcw
      have hx64 := Hsz.out _ (List.getElem_mem hkl)
      generalize ns[k] = x at *
      have hxs : (⟨x.toArray⟩ : ByteArray).size ≤ 9223372036854775807 := by
        have : (⟨x.toArray⟩ : ByteArray).size = x.length := by rw [← nm_len, nm_str]
        omega
      have hhas := has_calls hr ⟨x.toArray⟩
      rw [nm_str] at hhas
      have Hsame := Lib.hid hsame
      have Hr := Lib.hid hr
      have hcl' : D.rid ns = if (DiskM.rid1 Dk x).2 = 0 then DiskM.rid (DiskM.rid1 Dk x).1 (ns.drop (k + 1)) else DiskM.rid1 Dk x := hcl
      have Hcl := Lib.hid hcl'
      clear hsame hcl hcl' hc hkl hr hx64
      cases hg : (Sat.get x Dk.files).isSome with
      | false =>
        rw [hg] at hhas
        have Hhas := Lib.hid hhas
        have hr1 : DiskM.rid1 Dk x = (Dk, 0) := by unfold DiskM.rid1; rw [hg]; rfl
        have Hr1 := Lib.hid hr1
        clear hhas hr1 hg
        go_wp2_with fail
        refine Hhas.out.mono ?_
        rintro e w3 ⟨rfl, hb3, hst3⟩
        have HE := Lib.hid (And.intro hst3 (Hsame.out.trans (same_below Hr.out hb3)))
        clear hb3 hst3 Hhas
        go_wp2_with fail
        go_roundw
        case rel => exact ⟨k + 1, Dk, by omega, by go_num, HE.out.1, HE.out.2, by rw [Hcl.out, Hr1.out, if_pos rfl]⟩
        case measure => simp [intOf]; omega
      | true =>
        rw [hg] at hhas
        have Hhas := Lib.hid hhas
        have hr1 : DiskM.rid1 Dk x = Dk.remove [x] := by unfold DiskM.rid1; rw [hg]; rfl
        have Hr1 := Lib.hid hr1
        clear hhas hr1 hg
        go_wp2_with fail
        refine Hhas.out.mono ?_
        rintro e w3 ⟨rfl, hb3, hst3⟩
        have hrm := st_remove hst3 [(⟨x.toArray⟩ : ByteArray)] w3.heap.size 1 rfl (0, 0) (by simp) (by simpa using hxs)
        rw [show [(⟨x.toArray⟩ : ByteArray)].map nm = [x] from by rw [List.map_cons, nm_str, List.map_nil]] at hrm
        have Hsa := Lib.hid ((Hsame.out.trans (same_below Hr.out hb3)).trans (same_below hst3 ((Below.refl w3.heap.size w3).alloc (Nat.le_refl _) (.cells #[.string ⟨x.toArray⟩] 9))))
        clear hb3 hst3 Hhas
        cases hz : DiskM.remove Dk [x] with
        | mk D1 e1 =>
          rw [hz] at hrm Hr1
          have Hrm := Lib.hid hrm
          clear hrm hz
          by_cases he : e1 = 0
          · subst he
            go_wp2_with fail
            refine Hrm.out.mono ?_
            rintro e w4 ⟨rfl, hst4, hs4⟩
            have HE := Lib.hid (And.intro (show St w w4 d D1 F from hst4) (Hsa.out.trans hs4))
            clear hst4 hs4 Hrm
            go_wp2_with fail
            go_roundw
            case rel => exact ⟨k + 1, D1, by omega, by go_num, HE.out.1, HE.out.2, by rw [Hcl.out, Hr1.out, if_pos rfl]⟩
            case measure => simp [intOf]; omega
          · have hne : ((e1 : Int) != 0) = true := by simp; omega
            go_wp2_with fail
            refine Hrm.out.mono ?_
            rintro e w4 ⟨rfl, hst4, hs4⟩
            have HE := Lib.hid (show Told w d F w1 (D.rid ns) (.returned (.int .i64 (e1 : Int))) w4 from by
              rw [Hcl.out, Hr1.out, if_neg he]
              exact ⟨rfl, hst4, Hsa.out.trans hs4⟩)
            clear hst4 hs4 Hrm
            go_wp2_with fail
            go_ret
            exact HE.out
    · have HE := Lib.hid (show Told w d F w1 (D.rid ns) (.returned (.int .i64 0)) wr from by
        rw [hcl, List.drop_of_length_le (by rw [Hn.out]; omega)]
        exact ⟨rfl, hr, hsame⟩)
      clear hr hsame hcl
      go_wp2_with fail
      go_ret
      exact HE.out
end
end Go.Proofs.YtogdfkilhpkloaaGreatDoor

namespace Go.Proofs.YtogdfkilhpkloaaGreatDoor
open Go.RowKit Go.Sat Go.Maps

def LedF (w w1 : World) (l d : Nat) (pre : ByteArray) (D : DiskM) (M : LedM) (F : Nat → Prop) : Prop :=
  ∃ own dv ev vs, LedIn w1 l d pre own M dv ev vs ∧ St w w1 d D (fun k => own k ∨ F k) ∧ (∀ k, own k → w.heap.size ≤ k ∧ ¬ F k) ∧ ∀ k, F k → k < w1.heap.size

theorem al_cell {w : World} {a : Addr} {v : Value} (h : w.cell? a = some v) (o : Obj) : (w.alloc o).cell? a = some v := (((Below.refl w.heap.size w).alloc (Nat.le_refl _) o).cell (World.block_lt_of_cell? w _ h)).trans h

theorem ownB_far {w w' : World} {e : TypeId} {v : Value} {b : Bs} (h : OwnB w e v b) (hb : Below w.heap.size w w') : OwnB w' e v b := OwnR.keep h fun k hk => hb.block k (OwnR.lt h hk)

theorem below_drew (w : World) : Below w.heap.size w w.drew := ⟨rfl, rfl, rfl, Nat.le_refl _, fun _ _ => rfl⟩
theorem below_one (w : World) (o : Obj) : Below w.heap.size w (w.alloc o) := (Below.refl _ _).alloc (Nat.le_refl _) o

section
variable {w w1 w2 : World} {l d : Nat} {pre : ByteArray} {D : DiskM} {M : LedM} {F F' : Nat → Prop}

theorem LedF.bel (h : LedF w w1 l d pre D M F) : Below w.heap.size w w1 := let ⟨_, _, _, _, _, hS, _, _⟩ := h; hS.below
theorem LedF.okD (h : LedF w w1 l d pre D M F) : D.OK := let ⟨_, _, _, _, _, hS, _, _⟩ := h; hS.ok
theorem LedF.flt (h : LedF w w1 l d pre D M F) {k : Nat} (hk : F k) : k < w1.heap.size := let ⟨_, _, _, _, _, _, _, hF⟩ := h; hF k hk
theorem LedF.lc (h : LedF w w1 l d pre D M F) : LedCells l d pre w1 := let ⟨_, _, _, _, hL, _, _, _⟩ := h; hL.lc
theorem LedF.st (h : LedF w w1 l d pre D M F) : St w w1 d D NoF := let ⟨_, _, _, _, _, hS, _, _⟩ := h; hS.noF
theorem LedF.llt (h : LedF w w1 l d pre D M F) : l < w1.heap.size := let ⟨_, _, _, _, hL, _, _, _⟩ := h; hL.olt l hL.ol
theorem LedF.last (h : LedF w w1 l d pre D M F) : M.last ≤ 1099511627776 := let ⟨_, _, _, _, hL, _, _, _⟩ := h; hL.last
theorem LedF.psz (h : LedF w w1 l d pre D M F) : 1 ≤ pre.size ∧ pre.size ≤ 20 := let ⟨_, _, _, _, hL, _, _, _⟩ := h; hL.psz
/-- The ledger's own cells. -/
theorem LedF.cells (h : LedF w w1 l d pre D M F) : ∃ dv ev, w1.heap[l]? = some (.cells #[.pointer (some ⟨d, 0, none⟩), .string pre, .int .i64 (M.base : Int), dv, ev, .bool M.dead] 157 (0, 0)) ∧ OwnB w1 5 dv M.data ∧ ∃ vs, OwnR w1 39 1 ev M.entries.length vs ∧ ∀ (i : Nat) u b, vs[i]? = some u → M.entries[i]? = some b → OwnB w1 5 u b :=
  let ⟨_, dv, ev, vs, hL, _, _, _⟩ := h; ⟨dv, ev, hL.cells, hL.data, vs, hL.row, hL.rows⟩

/-- Something else has turned: blocks of F that are new since w; what is new may be in F' too. -/
theorem LedF.move {S : Nat → Prop} (h : LedF w w1 l d pre D M F) (hc : Chg S w1 w2) (hS : ∀ k, k < w1.heap.size → S k → F k ∧ w.heap.size ≤ k) (hF : ∀ k, F' k → (F k ∨ w1.heap.size ≤ k) ∧ k < w2.heap.size) : LedF w w2 l d pre D M F' := by
  obtain ⟨own, dv, ev, vs, hL, hSt, hn, hl⟩ := h
  refine ⟨own, dv, ev, vs, hL.keep (fun k hk => hc.block k (hL.olt k hk) fun hs => (hn k hk).2 (hS k (hL.olt k hk) hs).1) fun k hk => Nat.lt_of_lt_of_le (hL.olt k hk) hc.size, hSt.move hc (fun k hk hs => ⟨.inr (hS k hk hs).1, (hS k hk hs).2⟩) (fun k hk => ?_), fun k hk => ⟨(hn k hk).1, fun hf => ?_⟩, fun k hk => (hF k hk).2⟩
  · rcases hk with hk | hk
    · exact ⟨.inl (.inl hk), Nat.lt_of_lt_of_le (hL.olt k hk) hc.size⟩
    · exact ⟨(hF k hk).1.imp .inr id, (hF k hk).2⟩
  · rcases (hF k hf).1 with h | h
    · exact (hn k hk).2 h
    · have := hL.olt k hk
      omega

theorem LedF.next (h : LedF w w1 l d pre D M F) (hb : Below w1.heap.size w1 w2) : LedF w w2 l d pre D M F :=
  h.move (Chg.of_below hb) (fun _ _ h => h.elim) fun _ hk => ⟨.inl hk, Nat.lt_of_lt_of_le (h.flt hk) hb.size⟩
theorem LedF.same (h : LedF w w1 l d pre D M F) (hb : Below w1.heap.size w1 w2) : Same F w1 w2 := fun _ hk => hb.block _ (h.flt hk)
theorem LedF.less (h : LedF w w1 l d pre D M F) (hF : ∀ k, F' k → F k) : LedF w w1 l d pre D M F' :=
  h.move (Chg.refl _ _ : Chg (fun _ => False) w1 w1) (fun _ _ h => h.elim) fun _ hk => ⟨.inl (hF _ hk), h.flt (hF _ hk)⟩
theorem LedF.more (h : LedF w w1 l d pre D M F) (hb : Below w1.heap.size w1 w2) (hF : ∀ k, F' k → F k ∨ w1.heap.size ≤ k ∧ k < w2.heap.size) : LedF w w2 l d pre D M F' :=
  h.move (Chg.of_below hb) (fun _ _ h => h.elim) fun k hk => by
    rcases hF k hk with h1 | h1
    · exact ⟨.inl h1, Nat.lt_of_lt_of_le (h.flt h1) hb.size⟩
    · exact ⟨.inr h1.1, h1.2⟩
/-- A new block is set apart. -/
theorem LedF.box (h : LedF w w1 l d pre D M F) (o : Obj) : LedF w (w1.alloc o) l d pre D M (fun k => F k ∨ k = w1.heap.size) :=
  h.more (below_one w1 o) fun k hk => hk.imp id fun e => ⟨by omega, by simp; omega⟩

/-- A thing done with the disk. -/
theorem led_disk {P : Program} {f : FuncId} {args : Array Value} {Re : DiskM × Nat} {wc : World} (h : LedF w w1 l d pre D M F) (hb : Below w1.heap.size w1 wc) (hx : ∀ G, St w w1 d D G → Calls P f args wc (Told w d G wc Re)) :
    Calls P f args wc fun e w' => e = .returned (.int .i64 (Re.2 : Int)) ∧ LedF w w' l d pre Re.1 M F ∧ Same F w1 w' ∧ w'.heap[l]? = w1.heap[l]? := by
  obtain ⟨own, dv, ev, vs, hL, hS, hn, hl⟩ := h
  refine (hx _ hS).mono ?_
  rintro e w' ⟨rfl, hS', hs⟩
  refine ⟨rfl, ⟨own, dv, ev, vs, ?_, hS', hn, fun k hk => hS'.flt (.inr hk)⟩, fun k hk => (hs k (.inr hk)).trans (hb.block k (hl k hk)), (hs l (.inl hL.ol)).trans (hb.block l (hL.olt l hL.ol))⟩
  exact (hL.below hb).keep (fun k hk => hs k (.inl hk)) fun k hk => hS'.flt (.inl hk)

/-- The ledger itself has turned. -/
theorem LedF.turned {own own' : Nat → Prop} {M' : LedM} {dv' ev' : Value} {vs' : List Value} (hS : St w w1 d D (fun k => own k ∨ F k)) (hn : ∀ k, own k → w.heap.size ≤ k ∧ ¬ F k) (hl : ∀ k, F k → k < w1.heap.size)
    (hL' : LedIn w2 l d pre own' M' dv' ev' vs') (hc : Chg own w1 w2) (hx : ∀ k, own' k → own k ∨ w1.heap.size ≤ k) : LedF w w2 l d pre D M' F ∧ Same F w1 w2 := by
  refine ⟨⟨own', dv', ev', vs', hL', hS.move hc (fun k _ hk => ⟨.inl hk, (hn k hk).1⟩) (fun k hk => ?_), fun k hk => ?_, fun k hk => Nat.lt_of_lt_of_le (hl k hk) hc.size⟩, fun k hk => hc.block k (hl k hk) fun ho => (hn k ho).2 hk⟩
  · rcases hk with hk | hk
    · exact ⟨(hx k hk).imp .inl id, hL'.olt k hk⟩
    · exact ⟨.inl (.inr hk), Nat.lt_of_lt_of_le (hl k hk) hc.size⟩
  · rcases hx k hk with h | h
    · exact hn k h
    · exact ⟨Nat.le_trans hS.below.size h, fun hf => by have := hl k hf; omega⟩
end

theorem LedCells.same {l d : Nat} {pre : ByteArray} {w w' : World} (h : LedCells l d pre w) (hb : w'.heap[l]? = w.heap[l]?) : LedCells l d pre w' :=
  ⟨(World.cell?_of_block (a := ⟨l, 0, none⟩) hb).trans h.1, (World.cell?_of_block (a := ⟨l, 1, none⟩) hb).trans h.2.1, h.2.2⟩

section
variable {w w1 : World} {l d : Nat} {pre : ByteArray} {D : DiskM} {M : LedM} {F : Nat → Prop}

set_option maxRecDepth 100000 in
theorem last_calls (h : LedF w w1 l d pre D M F) :
    Calls Tryz.prog 50 #[.pointer (some ⟨l, 0, none⟩)] w1 fun e w' => e = .returned (.int .i64 (M.last : Int)) ∧ ∃ q, w' = w1.drewN q := by
  have hla := h.last
  obtain ⟨dv, ev, hc, -, vs, hrow, -⟩ := h.cells
  obtain ⟨p, c, rfl⟩ := hrow.shape
  have h2 : w1.cell? ⟨l, 2, none⟩ = some (.int .i64 (M.base : Int)) := cell_of hc rfl
  have h4 : w1.cell? ⟨l, 4, none⟩ = some (.slice p M.entries.length c) := cell_of hc rfl
  have HL := Lib.hid (show ((M.base : Int) + (M.entries.length : Int)) = (M.last : Int) from by unfold LedM.last; omega)
  have hb : M.base ≤ 1099511627776 := by unfold LedM.last at hla; omega
  have he : M.entries.length ≤ 1099511627776 := by unfold LedM.last at hla; omega
  clear h hc hrow hla
  generalize M.entries.length = n at *
  generalize M.base = b at *
  go_enter Tryz.func50, Tryz.ntmps50
  have hw : IntKind.i64.wrap ((b : Int) + (n : Int)) = (b : Int) + (n : Int) := IntWalk.i64_in _ (by omega)
  go_wp2_with fail
  go_quiet (fail)
  go_wp2_with fail
  go_ret
  exact ⟨by rw [HL.out]; rfl, _, rfl⟩
end
end Go.Proofs.YtogdfkilhpkloaaGreatDoor

namespace Go.Proofs.YtogdfkilhpkloaaGreatDoor
open Go.RowKit Go.Sat Go.Maps

theorem hasN_one (w : World) (s : ByteArray) (e : TypeId) (fr : Nat × Nat) : HasN (w.alloc (.cells #[.string s] e fr)) (.slice (some ⟨w.heap.size, 0, none⟩) 1 1) [nm s] := by
  refine ⟨by simp, some ⟨w.heap.size, 0, none⟩, 1, rfl, fun e => (by cases e), fun a ha i u hu => ?_⟩
  cases ha
  rw [add_zero]
  refine cell_of (new_block w _) ?_
  have : [encStr (nm s)] = [Value.string s] := by rw [enc_str, str_of]
  rw [List.map_cons, List.map_nil, this] at hu
  simpa using hu

/-- A name that was laid a moment ago is there behind what is done with the disk. -/
theorem told_rid1 {w w1 w2 : World} {d : Nat} {D : DiskM} {F : Nat → Prop} (h : St w w1 d D F) (hb2 : Below w1.heap.size w1 w2) (s : ByteArray) (hs : s.size ≤ 9223372036854775807) :
    Calls Tryz.prog 100 #[.pointer (some ⟨d, 0, none⟩), .slice (some ⟨w2.heap.size, 0, none⟩) 1 1] (w2.alloc (.cells #[.string s] 9)) (Told w d F w1 (D.rid [nm s])) := by
  have hs2 := hb2.size
  have hb : Below w1.heap.size w1 (w2.alloc (.cells #[.string s] 9)) := hb2.alloc hb2.size _
  have h1 : St w (w2.alloc (.cells #[.string s] 9)) d D (fun k => F k ∨ k = w2.heap.size) := h.move (Chg.of_below hb) (fun _ _ h => h.elim) fun k hk => by
    rcases hk with hk | rfl
    · exact ⟨.inl hk, Nat.lt_of_lt_of_le (h.flt hk) hb.size⟩
    · exact ⟨.inr hs2, by simp⟩
  refine (removes_calls h1 (ns := [nm s]) (fun W _ hs => HasN.same (hasN_one w2 s _ _) fun k hk => hs k (.inr (by cases hk; rfl))) (by simpa [nm_len] using hs) (by simp)).mono ?_
  rintro e w' ⟨rfl, hst, hsa⟩
  exact ⟨rfl, hst.less fun _ hk => .inl hk, fun k hk => (hsa k (.inl hk)).trans (hb.block k (h.flt hk))⟩

section
variable {w w1 : World} {l d : Nat} {pre : ByteArray} {D : DiskM} {M : LedM} {F : Nat → Prop}

set_option maxRecDepth 100000 in
set_option maxHeartbeats 4000000 in
theorem clears_calls (h : St w w1 d D F) (hc : LedCells l d pre w1) (hF : F l) :
    Calls Tryz.prog 91 #[.pointer (some ⟨l, 0, none⟩)] w1 (Told w d F w1 (D.rid [shadowN (imgN (nm pre))])) := by
  have Hlc := Lib.hid hc
  obtain ⟨hc0, hc1, hps⟩ := hc
  have hrm := told_rid1 h (Below.refl _ w1).drew (sShadow (sImg pre)) (by rw [size_sha, size_img]; omega)
  rw [nm_sha, nm_img] at hrm
  have Hrm := Lib.hid hrm
  have hsi : (sImg pre).size = pre.size + 4 := size_img pre
  clear hrm h
  go_enter Tryz.func91, Tryz.ntmps91
  go_wp2_with fail
  refine ord_start (fun w' : World => w'.cell? ⟨l, 0, none⟩ = some (.pointer (some ⟨d, 0, none⟩)) ∧ w'.cell? ⟨l, 1, none⟩ = some (.string pre)) (n := 10) (by kernel_rfl) rfl (⟨hc0, hc1⟩) (fun hHeld => ?_)
  generalize w1.drew = W1 at *
  refine Pl [0,1,2,3,4] ?_
  iterate 5 (refine Pc rfl ?_;simp only [Act.put, uA, uB, uC])
  refine Pn ?_
  refine ord_one 5 rfl (by kernel_rfl) (by rfl) (fun K hK => ?_)
  go_wp2_with fail
  refine (imgName_calls ⟨hHeld.1, hHeld.2, hps⟩).mono ?_
  rintro e w9 ⟨rfl, rfl⟩
  go_wp2_with fail
  refine hK.out _ _ (hHeld) (fun hHeld => ?_)
  clear hK
  try simp only [Act.put, List.setIfInBounds_toArray, List.set_cons_zero, List.set_cons_succ]
  refine ord_take 6 (v := ?v1x6) rfl (by kernel_rfl) (by kernel_rfl) (by kernel_rfl) (fun _ _ _ h => h) (by rfl) (by assumption) ?y1x6 ?_
  case y1x6 => (intro w hSw; (try dsimp only at hSw); go_simp; rw [if_neg (by omega)]; try with_reducible rfl)
  simp only [Act.put, List.setIfInBounds_toArray, List.set_cons_zero, List.set_cons_succ]
  refine ord_one 7 rfl (by kernel_rfl) (by rfl) (fun K hK => ?_)
  have Hh2 := Lib.hid (show (W1.alloc (.cells #[.string (sShadow (sImg pre))] 9)).cell? ⟨l, 0, none⟩ = some (.pointer (some ⟨d, 0, none⟩)) ∧ (W1.alloc (.cells #[.string (sShadow (sImg pre))] 9)).cell? ⟨l, 1, none⟩ = some (.string pre) from ⟨al_cell hHeld.1 _, al_cell hHeld.2 _⟩)
  go_wp2_with fail
  refine hK.out _ _ (Hh2.out) (fun hHeld => ?_)
  clear hK
  try simp only [Act.put, List.setIfInBounds_toArray, List.set_cons_zero, List.set_cons_succ]
  refine ord_one 8 rfl (by kernel_rfl) (by rfl) (fun K hK => ?_)
  go_wp2_with fail
  refine Hrm.out.mono ?_
  intro e w3 hT
  have HT := Lib.hid hT
  have Hh3 := Lib.hid (Hlc.out.same (hT.2.2 l hF))
  obtain ⟨rfl, -⟩ := hT
  go_wp2_with fail
  refine hK.out _ _ (⟨Hh3.out.1, Hh3.out.2.1⟩) (fun hHeld => ?_)
  clear hK
  try simp only [Act.put, List.setIfInBounds_toArray, List.set_cons_zero, List.set_cons_succ]
  refine ord_take 9 (v := ?v1x9) rfl (by kernel_rfl) (by kernel_rfl) (by kernel_rfl) (fun _ _ _ h => h) (by rfl) (by assumption) ?y1x9 ?_
  case y1x9 => (intro w hSw; (try dsimp only at hSw); go_simp; try with_reducible rfl)
  simp only [Act.put, List.setIfInBounds_toArray, List.set_cons_zero, List.set_cons_succ]
  refine wpAnyH_done (by kernel_rfl) ?_ _
  go_wp2_with fail
  go_ret
  exact HT.out

/-- What is handed back in memory of its own. -/
def Given (w1 : World) (b : Bs) (v : Value) (w' : World) : Prop := OwnB w' 5 v b ∧ (∀ k, v.ownBlock = some k → w1.heap.size ≤ k) ∧ Below w1.heap.size w1 w'

set_option maxRecDepth 100000 in
set_option maxHeartbeats 4000000 in
theorem base_calls (h : LedF w w1 l d pre D M F) :
    Calls Tryz.prog 67 #[.pointer (some ⟨l, 0, none⟩)] w1 fun e w' => ∃ v, e = .returned (.tuple #[.int .i64 (M.base : Int), v]) ∧ Given w1 M.data v w' := by
  obtain ⟨own, dv, ev, vs, hL, -⟩ := h
  have h2 := hL.c2
  have h3 := hL.c3
  have Hcl := Lib.hid (clone_calls (OwnB.has (OwnR.keep hL.data fun _ _ => rfl : OwnB w1.drew 5 dv M.data)) (Nat.le_trans hL.big.1 (by decide)))
  have Hlt := Lib.hid hL.olt
  have Hol := Lib.hid hL.ol
  obtain ⟨p, c, rfl, -⟩ := own_cap0 hL.data
  clear hL
  generalize M.data.length = n at *
  generalize M.base = b at *
  go_enter Tryz.func67, Tryz.ntmps67
  go_wp2_with fail
  refine ord_start (fun w' : World => w'.cell? ⟨l, 2, none⟩ = some (.int .i64 (b : Int)) ∧ w'.cell? ⟨l, 3, none⟩ = some (.slice p n c)) (n := 11) (by kernel_rfl) rfl (⟨h2, h3⟩) (fun hHeld => ?_)
  
  refine Pl [0,1,2,3,4,5,6,7] ?_
  iterate 8 (refine Pc rfl ?_;simp only [Act.put, uA, uB, uC])
  refine Pn ?_
  refine ord_one 8 rfl (by kernel_rfl) (by rfl) (fun K hK => ?_)
  go_wp2_with fail
  refine Hcl.out.mono ?_
  rintro e w3 ⟨v, rfl, hv, hvn, hb⟩
  have Hh3 := Lib.hid (show w3.cell? ⟨l, 2, none⟩ = some (.int .i64 (b : Int)) ∧ w3.cell? ⟨l, 3, none⟩ = some (.slice p n c) from ⟨(hb.cell (World.block_lt_of_cell? _ _ hHeld.1)).trans hHeld.1, (hb.cell (World.block_lt_of_cell? _ _ hHeld.2)).trans hHeld.2⟩)
  have HE := Lib.hid (show Given w1 M.data v w3 from ⟨hv, hvn, (below_drew w1).trans hb⟩)
  obtain ⟨pv, cv, rfl, -⟩ := own_cap0 hv
  clear hv hvn hb
  go_wp2_with fail
  refine hK.out _ _ (Hh3.out) (fun hHeld => ?_)
  clear hK
  try simp only [Act.put, List.setIfInBounds_toArray, List.set_cons_zero, List.set_cons_succ]
  refine Pl [9,10] ?_
  iterate 2 (refine Pc rfl ?_;simp only [Act.put, uA, uB, uC])
  refine Pn ?_
  refine wpAnyH_done (by kernel_rfl) ?_ _
  go_wp2_with fail
  go_ret2
  exact ⟨_, rfl, HE.out⟩

set_option maxRecDepth 100000 in
set_option maxHeartbeats 4000000 in
theorem at_yes (h : LedF w w1 l d pre D M F) (j : Nat) (hj : j < M.entries.length) :
    Calls Tryz.prog 69 #[.pointer (some ⟨l, 0, none⟩), .int .i64 (((M.base + 1 + j : Nat)) : Int)] w1 fun e w' => ∃ v, e = .returned (.tuple #[v, .int .i64 0]) ∧ Given w1 M.entries[j] v w' := by
  have Hla := Lib.hid (last_calls h)
  have hlast := h.last
  obtain ⟨own, dv, ev, vs, hL, -⟩ := h
  have h2 := hL.c2
  have h4 := hL.c4
  have hvl : j < vs.length := by rw [hL.len]; exact hj
  have hrow := hL.rows j _ _ (List.getElem?_eq_getElem hvl) (List.getElem?_eq_getElem hj)
  have hbig := hL.big.2 _ (List.getElem_mem hj)
  rcases hL.row.2 with ⟨-, h0⟩ | ⟨g, cap, cur, rfl, -⟩
  · omega
  have hcell := hL.row.cells (g := g) rfl j _ (List.getElem?_eq_getElem hvl)
  rw [add_zero] at hcell
  have Hcl := Lib.hid (fun W (hb : Below w1.heap.size w1 W) => clone_calls (OwnB.has (ownB_far hrow hb)) (Nat.le_trans hbig (by decide)))
  obtain ⟨p, c, hp, -⟩ := own_cap0 hrow
  rw [hp] at hcell Hcl
  unfold LedM.last at hlast
  have HL := Lib.hid (show M.last = M.base + M.entries.length from rfl)
  clear hL hrow hbig hp
  generalize M.entries[j] = x at *
  generalize x.length = m at *
  generalize M.entries.length = n at *
  generalize M.last = la at *
  generalize M.base = b at *
  have hla : la = b + n := HL.out
  have e1 : ((b + 1 + j : Nat) : Int) = (b : Int) + 1 + (j : Int) := by omega
  rw [e1]
  have hn1 : ¬ ((b : Int) + 1 + (j : Int) ≤ (b : Int)) := by omega
  have hn2 : ¬ ((la : Int) < (b : Int) + 1 + (j : Int)) := by omega
  have hd1 : decide ((b : Int) + 1 + (j : Int) ≤ (b : Int)) = false := by simp; omega
  have hd2 : decide ((la : Int) < (b : Int) + 1 + (j : Int)) = false := by simp; omega
  have hw1 : IntKind.i64.wrap ((b : Int) + 1 + (j : Int) - (b : Int)) = (j : Int) + 1 := by rw [IntWalk.i64_in _ (by omega)]; omega
  have hw2 : IntKind.i64.wrap (j : Int) = (j : Int) := IntWalk.i64_in _ (by omega)
  clear hla
  go_enter Tryz.func69, Tryz.ntmps69
  go_wp2_with fail
  refine Hla.out.mono ?_
  rintro e w2 ⟨rfl, q, rfl⟩
  have h2 : (w1.drewN q).cell? ⟨l, 2, none⟩ = some (.int .i64 (b : Int)) := h2
  have h4 : (w1.drewN q).cell? ⟨l, 4, none⟩ = some (.slice (some ⟨g, 0, none⟩) n cap) := h4
  have hcell : (w1.drewN q).cell? ⟨g, j, none⟩ = some (.slice p m c) := hcell
  go_wp2_with fail
  refine ord_start (fun w' : World => w'.cell? ⟨l, 2, none⟩ = some (.int .i64 (b : Int)) ∧ w'.cell? ⟨l, 4, none⟩ = some (.slice (some ⟨g, 0, none⟩) n cap) ∧ w'.cell? ⟨g, j, none⟩ = some (.slice p m c)) (n := 16) (by kernel_rfl) rfl (⟨h2, h4, hcell⟩) (fun hHeld => ?_)
  have HB1 := Lib.hid (show Below w1.heap.size w1 (w1.drewN q).drew from ⟨rfl, rfl, rfl, Nat.le_refl _, fun _ _ => rfl⟩)
  generalize (w1.drewN q).drew = W1 at *
  refine Pl [0,1,2,3,4,5,6,7,8,9,10,11,12] ?_
  iterate 13 (refine Pc rfl ?_;simp only [Act.put, uA, uB, uC])
  refine Pn ?_
  refine ord_one 13 rfl (by kernel_rfl) (by rfl) (fun K hK => ?_)
  go_wp2_with fail
  refine (Hcl.out W1 HB1.out).mono ?_
  rintro e w3 ⟨v, rfl, hv, hvn, hb⟩
  have Hh3 := Lib.hid (show w3.cell? ⟨l, 2, none⟩ = some (.int .i64 (b : Int)) ∧ w3.cell? ⟨l, 4, none⟩ = some (.slice (some ⟨g, 0, none⟩) n cap) ∧ w3.cell? ⟨g, j, none⟩ = some (.slice p m c) from ⟨(hb.cell (World.block_lt_of_cell? _ _ hHeld.1)).trans hHeld.1, (hb.cell (World.block_lt_of_cell? _ _ hHeld.2.1)).trans hHeld.2.1, (hb.cell (World.block_lt_of_cell? _ _ hHeld.2.2)).trans hHeld.2.2⟩)
  have HE := Lib.hid (show Given w1 x v w3 from ⟨hv, fun k hk => Nat.le_trans HB1.out.size (hvn k hk), HB1.out.trans (hb.mono HB1.out.size)⟩)
  obtain ⟨pv, cv, rfl, -⟩ := own_cap0 hv
  clear hv hvn hb
  go_wp2_with fail
  refine hK.out _ _ (Hh3.out) (fun hHeld => ?_)
  clear hK
  try simp only [Act.put, List.setIfInBounds_toArray, List.set_cons_zero, List.set_cons_succ]
  refine Pl [14,15] ?_
  iterate 2 (refine Pc rfl ?_;simp only [Act.put, uA, uB, uC])
  refine Pn ?_
  refine wpAnyH_done (by kernel_rfl) ?_ _
  go_wp2_with fail
  go_ret2
  exact ⟨_, rfl, HE.out⟩

theorem dies_set {own : Nat → Prop} {dv ev : Value} {vs : List Value} (hL : LedIn w1 l d pre own M dv ev vs) (x : Bool) : LedIn (w1.setCell ⟨l, 5, none⟩ (.bool x)) l d pre own { M with dead := x } dv ev vs where
  cells := by have := set_block hL.cells 5 (.bool x); simpa using this
  data := OwnR.keep hL.data fun k hk => set_other _ (hL.od k hk).2.1
  row := hL.row.keep fun k hk => set_other _ (hL.oe k hk).2
  rows := fun i u b hu hb => OwnR.keep (hL.rows i u b hu hb) fun k hk => set_other _ (hL.ov u (List.mem_of_getElem? hu) k hk).2.1
  ol := hL.ol
  od := hL.od
  oe := hL.oe
  ov := hL.ov
  olt := fun k hk => by have := hL.olt k hk; simpa [World.setCell] using this
  last := hL.last
  psz := hL.psz
  big := hL.big

/-- An error ends it. -/
theorem dies_calls (h : LedF w w1 l d pre D M F) (k : Nat) :
    Calls Tryz.prog 102 #[.pointer (some ⟨l, 0, none⟩), .int .i64 (k : Int)] w1 fun e w' => e = .returned (.int .i64 (k : Int)) ∧ LedF w w' l d pre D { M with dead := M.dead || decide (k ≠ 0) } F ∧ Same F w1 w' := by
  obtain ⟨own, dv, ev, vs, hL, hS, hn, hl⟩ := h
  have h5 := hL.c5
  have hf := hL.fr 5
  have HE := Lib.hid (fun x => LedF.turned (D := D) (F := F) hS hn hl (dies_set hL x) ((Chg.setCell w1 ⟨l, 5, none⟩ (.bool x)).mono fun j _ e => by rw [e]; exact hL.ol) fun _ h => .inl h)
  clear hL hS hn hl
  cases hd : M.dead with
  | true =>
    rw [hd] at h5
    go_enter Tryz.func102, Tryz.ntmps102
    go_wp2_with fail
    go_ret
    exact ⟨rfl, by simpa using HE.out true⟩
  | false =>
    rw [hd] at h5
    by_cases hk : k = 0
    · subst hk
      go_enter Tryz.func102, Tryz.ntmps102
      go_wp2_with fail
      go_ret
      exact ⟨rfl, by simpa using HE.out false⟩
    · have hne : ((k : Int) != 0) = true := by simp; omega
      have Hk := Lib.hid hk
      clear hk
      go_enter Tryz.func102, Tryz.ntmps102
      go_wp2_with fail
      go_ret
      exact ⟨rfl, by simpa [Hk.out] using HE.out true⟩
end
end Go.Proofs.YtogdfkilhpkloaaGreatDoor

namespace Go.Proofs.YtogdfkilhpkloaaGreatDoor
open Go.RowKit Go.Sat Go.Maps

/-- What reading the image leaves. -/
def ImgTold (w w1 : World) (l d : Nat) (pre : ByteArray) (D : DiskM) (F : Nat → Prop) (i : Nat × Nat × Bs) (e : Ending) (w' : World) : Prop :=
  e = .returned (.int .i64 (i.1 : Int)) ∧ (i.1 = 0 → LedF w w' l d pre D ⟨i.2.1, i.2.2, [], false⟩ F) ∧ St w w' d D F ∧ Same F w1 w'

section
variable {w w1 w2 : World} {l d : Nat} {pre : ByteArray} {D : DiskM} {M : LedM} {F : Nat → Prop}

theorem LedF.stF (h : LedF w w1 l d pre D M F) : St w w1 d D F := let ⟨_, _, _, _, _, hS, _, _⟩ := h; hS.less fun _ hk => .inr hk

theorem img_end (h : LedF w w1 l d pre D LedM.none0 F) (hb : Below w1.heap.size w1 w2) (k : Nat) (i : Nat × Nat × Bs) (hi : i = (k, 0, [])) : ImgTold w w1 l d pre D F i (.returned (.int .i64 (k : Int))) w2 := by
  subst hi
  exact ⟨rfl, fun _ => h.next hb, (h.next hb).stF, h.same hb⟩

theorem imageOf_7 {o : Option FileM} (h : loadE o = 7) : imageOf o = (0, 0, []) := by unfold imageOf; rw [if_pos h]
theorem imageOf_e {o : Option FileM} (h : loadE o ≠ 7) (h0 : loadE o ≠ 0) : imageOf o = (loadE o, 0, []) := by unfold imageOf; rw [if_neg h, if_pos h0]
theorem imageOf_0 {o : Option FileM} (h0 : loadE o = 0) : imageOf o = if (Rd.num ⟨loadB o, false⟩).2.bytes.2.whole = false ∨ 1099511627776 < (Rd.num ⟨loadB o, false⟩).1 then (3, 0, []) else (0, (Rd.num ⟨loadB o, false⟩).1, (Rd.num ⟨loadB o, false⟩).2.bytes.1) := by
  unfold imageOf
  rw [if_neg (by omega), if_neg (by omega)]

/-- The number and the data are laid into the ledger's cells. -/
theorem img_set {own : Nat → Prop} {dv ev : Value} {vs : List Value} (hL : LedIn w1 l d pre own LedM.none0 dv ev vs) {n : Nat} {v : Value} {b : Bs} (hv : OwnB w1 5 v b) (hvo : ∀ k, v.ownBlock = some k → ¬ own k) (hn : n ≤ 1099511627776) (hb : b.length ≤ 1073741824) :
    LedIn ((w1.setCell ⟨l, 2, none⟩ (.int .i64 (n : Int))).setCell ⟨l, 3, none⟩ v) l d pre (fun k => own k ∨ v.ownBlock = some k) ⟨n, b, [], false⟩ v ev vs := by
  have hne : ∀ k, v.ownBlock = some k → k ≠ l := fun k hk e => hvo k hk (e ▸ hL.ol)
  have hvs : vs = [] := List.eq_nil_of_length_eq_zero (by have := hL.len; exact this)
  have hk : ∀ k, k ≠ l → ((w1.setCell ⟨l, 2, none⟩ (.int .i64 (n : Int))).setCell ⟨l, 3, none⟩ v).heap[k]? = w1.heap[k]? := fun k e => (set_other _ e).trans (set_other _ e)
  subst hvs
  refine ⟨?_, OwnR.keep hv fun k h => hk k (hne k h), hL.row.keep fun k h => hk k (hL.oe k h).2, fun i u b hu => (by simp at hu), .inl hL.ol, fun k h => ⟨.inr h, hne k h, fun e => hvo k h (hL.oe k e).1⟩, fun k h => ⟨.inl (hL.oe k h).1, (hL.oe k h).2⟩, fun u hu => (by simp at hu), fun k h => ?_, ?_, hL.psz, hb, fun b hb => (by simp at hb)⟩
  · have h1 := set_block hL.cells 2 (.int .i64 (n : Int))
    have h2 := set_block h1 3 v
    simpa [LedM.none0] using h2
  · have : k < w1.heap.size := h.elim (hL.olt k) fun h => OwnR.lt hv h
    simpa [World.setCell] using this
  · show n + 0 ≤ _
    omega

set_option maxRecDepth 100000 in
set_option maxHeartbeats 8000000 in
theorem image_calls (h : LedF w w1 l d pre D LedM.none0 F) :
    Calls Tryz.prog 92 #[.pointer (some ⟨l, 0, none⟩)] w1 (ImgTold w w1 l d pre D F (imageOf (Sat.get (imgN (nm pre)) D.files))) := by
  obtain ⟨hc0, hc1, hps⟩ := h.lc
  have hln := data_len h.okD (imgN (nm pre))
  have HB1 := Lib.hid (below_drew w1)
  have hld := load_calls (h.st.next (below_drew w1)) (sImg pre) (by rw [size_img]; omega)
  rw [nm_img] at hld
  unfold GotL at hld
  generalize ho : Sat.get (imgN (nm pre)) D.files = o at *
  generalize hn : (loadB o).length = n at *
  have hnn : n ≤ 1073741824 := by
    rw [← hn]
    cases o with
    | none => rw [loadB_none]; exact Nat.zero_le _
    | some f =>
      rw [loadB_some]
      unfold oneB decB
      split
      · split
        · rw [List.length_take, List.length_drop]
          omega
        · exact Nat.zero_le _
      · exact Nat.zero_le _
  have Hld := Lib.hid hld
  have H := Lib.hid h
  clear hld h ho hln
  by_cases h7 : loadE o = 7
  · have HI := Lib.hid (imageOf_7 h7)
    rw [h7] at Hld
    clear h7
    go_enter Tryz.func92, Tryz.ntmps92
    go_wp2_with fail
    refine ord_start (fun w' : World => w'.cell? ⟨l, 0, none⟩ = some (.pointer (some ⟨d, 0, none⟩)) ∧ w'.cell? ⟨l, 1, none⟩ = some (.string pre)) (n := 12) (by kernel_rfl) rfl (⟨hc0, hc1⟩) (fun hHeld => ?_)
    generalize w1.drew = W1 at *
    refine Pl [0,1,2,3,4] ?_
    iterate 5 (refine Pc rfl ?_;simp only [Act.put, uA, uB, uC])
    refine Pn ?_
    refine ord_one 5 rfl (by kernel_rfl) (by rfl) (fun K hK => ?_)
    go_wp2_with fail
    refine (imgName_calls ⟨hHeld.1, hHeld.2, hps⟩).mono ?_
    rintro e w9 ⟨rfl, rfl⟩
    go_wp2_with fail
    refine hK.out _ _ (hHeld) (fun hHeld => ?_)
    clear hK
    try simp only [Act.put, List.setIfInBounds_toArray, List.set_cons_zero, List.set_cons_succ]
    refine ord_one 6 rfl (by kernel_rfl) (by rfl) (fun K hK => ?_)
    go_wp2_with fail
    refine Hld.out.mono ?_
    rintro e w2 ⟨v, rfl, hv, hvn, hb, hst⟩
    have Hh3 := Lib.hid (show w2.cell? ⟨l, 0, none⟩ = some (.pointer (some ⟨d, 0, none⟩)) ∧ w2.cell? ⟨l, 1, none⟩ = some (.string pre) from ⟨(hb.cell (World.block_lt_of_cell? _ _ hHeld.1)).trans hHeld.1, (hb.cell (World.block_lt_of_cell? _ _ hHeld.2)).trans hHeld.2⟩)
    have Hb := Lib.hid (show Below w1.heap.size w1 w2 from HB1.out.trans (hb.mono HB1.out.size))
    have Hv := Lib.hid hv
    have hlen : (loadB o).length = n := hn
    obtain ⟨pv, cv, rfl, -⟩ := own_cap0 hv
    rw [hlen]
    clear hv hvn hb hst Hld
    go_wp2_with fail
    refine hK.out _ _ (Hh3.out) (fun hHeld => ?_)
    clear hK
    try simp only [Act.put, List.setIfInBounds_toArray, List.set_cons_zero, List.set_cons_succ]
    refine Pl [7,8,9,10,11] ?_
    iterate 5 (refine Pc rfl ?_;simp only [Act.put, uA, uB, uC])
    refine Pn ?_
    refine wpAnyH_done (by kernel_rfl) ?_ _
    have HE := Lib.hid (img_end H.out Hb.out 0 _ HI.out)
    go_wp2_with fail
    go_ret
    exact HE.out
  · by_cases h0 : loadE o = 0
    · have HI := Lib.hid (imageOf_0 h0)
      rw [h0] at Hld
      clear h7 h0
      go_enter Tryz.func92, Tryz.ntmps92
      go_wp2_with fail
      refine ord_start (fun w' : World => w'.cell? ⟨l, 0, none⟩ = some (.pointer (some ⟨d, 0, none⟩)) ∧ w'.cell? ⟨l, 1, none⟩ = some (.string pre)) (n := 12) (by kernel_rfl) rfl (⟨hc0, hc1⟩) (fun hHeld => ?_)
      generalize w1.drew = W1 at *
      refine Pl [0,1,2,3,4] ?_
      iterate 5 (refine Pc rfl ?_;simp only [Act.put, uA, uB, uC])
      refine Pn ?_
      refine ord_one 5 rfl (by kernel_rfl) (by rfl) (fun K hK => ?_)
      go_wp2_with fail
      refine (imgName_calls ⟨hHeld.1, hHeld.2, hps⟩).mono ?_
      rintro e w9 ⟨rfl, rfl⟩
      go_wp2_with fail
      refine hK.out _ _ (hHeld) (fun hHeld => ?_)
      clear hK
      try simp only [Act.put, List.setIfInBounds_toArray, List.set_cons_zero, List.set_cons_succ]
      refine ord_one 6 rfl (by kernel_rfl) (by rfl) (fun K hK => ?_)
      go_wp2_with fail
      refine Hld.out.mono ?_
      rintro e w2 ⟨v, rfl, hv, hvn, hb, hst⟩
      have Hh3 := Lib.hid (show w2.cell? ⟨l, 0, none⟩ = some (.pointer (some ⟨d, 0, none⟩)) ∧ w2.cell? ⟨l, 1, none⟩ = some (.string pre) from ⟨(hb.cell (World.block_lt_of_cell? _ _ hHeld.1)).trans hHeld.1, (hb.cell (World.block_lt_of_cell? _ _ hHeld.2)).trans hHeld.2⟩)
      have Hb := Lib.hid (show Below w1.heap.size w1 w2 from HB1.out.trans (hb.mono HB1.out.size))
      have Hv := Lib.hid hv
      have hlen : (loadB o).length = n := hn
      obtain ⟨pv, cv, rfl, -⟩ := own_cap0 hv
      rw [hlen]
      clear hv hvn hb hst Hld
      go_wp2_with fail
      refine hK.out _ _ (Hh3.out) (fun hHeld => ?_)
      clear hK
      try simp only [Act.put, List.setIfInBounds_toArray, List.set_cons_zero, List.set_cons_succ]
      refine Pl [7,8,9,10,11] ?_
      iterate 5 (refine Pc rfl ?_;simp only [Act.put, uA, uB, uC])
      refine Pn ?_
      refine wpAnyH_done (by kernel_rfl) ?_ _
      have Hn0 := Lib.hid hn
      have HasV := Lib.hid (show HasB w2 (.slice pv n cv) (loadB o) from by have := Hv.out.has; rw [hlen] at this; exact this)
      clear hn hlen
      go_wp2_with fail
      refine (newrd_calls HasV.out (by rw [Hn0.out]; omega)).mono ?_
      rintro e w3 ⟨r, rfl, hr, hrn, hb3⟩
      have Hnum := Lib.hid (show Calls Tryz.prog 137 #[.pointer (some ⟨r, 0, none⟩)] w3 (NumDone w3 r ⟨loadB o, false⟩) from by obtain ⟨_, _, _, h⟩ := hr; exact num_calls h)
      have Hb3 := Lib.hid hb3
      have Hrn := Lib.hid hrn
      clear hr hrn hb3
      go_wp2_with fail
      refine Hnum.out.mono ?_
      rintro e w4 ⟨rfl, hr4, hc4⟩
      have Hby := Lib.hid (rbytes_calls hr4)
      have Hc4 := Lib.hid hc4
      have hm62 := Rd.num_le ⟨loadB o, false⟩
      have Hbl := Lib.hid (show (Rd.num ⟨loadB o, false⟩).2.bytes.1.length ≤ 1073741824 from Nat.le_trans (Rd.bytes_len _) (Nat.le_trans (Rd.num_rest _) (by show (loadB o).length ≤ _; rw [Hn0.out]; exact hnn)))
      clear hr4 hc4 Hnum
      generalize (Rd.num ⟨loadB o, false⟩).1 = m at *
      generalize (Rd.num ⟨loadB o, false⟩).2 = R1 at *
      go_wp2_with fail
      refine Hby.out.mono ?_
      rintro e w5 ⟨v5, rfl, hv5, hn5, hr5, hc5⟩
      have HB5 := Lib.hid (show Below w2.heap.size w2 w5 from Hb3.out.trans ((Hc4.out.trans hc5 fun _ _ e => e).below Hb3.out.size fun k hk e => by have := Hrn.out; omega))
      have HL5 := Lib.hid (H.out.next (Hb.out.trans (HB5.out.mono Hb.out.size)))
      have hrl : r ≠ l := fun e => by have h1 := H.out.llt; have h2 := Hb.out.size; have h3 := Hrn.out; omega
      have Hn5 := Lib.hid (show ∀ k, v5.ownBlock = some k → w1.heap.size ≤ k from fun k hk => by have h1 := hn5 k hk; have h2 := Hb.out.size; have h3 := Hb3.out.size; have h4 := Hc4.out.size; omega)
      have Hrd := Lib.hid (fun (W : World) (hs : W.heap[r]? = w5.heap[r]?) => whole_calls (hr5.hd.same hs))
      have HV5 := Lib.hid hv5
      obtain ⟨dv, ev, hcl, -⟩ := HL5.out.cells
      have k2 : w5.cell? ⟨l, 2, none⟩ = some (.int .i64 (LedM.none0.base : Int)) := cell_of hcl rfl
      have k3 : w5.cell? ⟨l, 3, none⟩ = some dv := cell_of hcl rfl
      have f2 := frozen_of hcl 2
      have f3 := frozen_of hcl 3
      clear hv5 hn5 hr5 hc5 Hby hcl
      generalize R1.bytes.2 = R2 at *
      generalize R1.bytes.1 = b5 at *
      obtain ⟨p5, c5, rfl, -⟩ := own_cap0 HV5.out
      have HW := Lib.hid (show ((w5.setCell ⟨l, 2, none⟩ (.int .i64 (m : Int))).setCell ⟨l, 3, none⟩ (.slice p5 b5.length c5)).heap[r]? = w5.heap[r]? from (set_other _ hrl).trans (set_other _ hrl))
      have Hch := Lib.hid (show Chg (fun k => k = l) w5 ((w5.setCell ⟨l, 2, none⟩ (.int .i64 (m : Int))).setCell ⟨l, 3, none⟩ (.slice p5 b5.length c5)) from (Chg.setCell w5 ⟨l, 2, none⟩ _).trans (Chg.setCell _ ⟨l, 3, none⟩ _) fun _ _ e => e)
      have hk2 : ((w5.setCell ⟨l, 2, none⟩ (.int .i64 (m : Int))).setCell ⟨l, 3, none⟩ (.slice p5 b5.length c5)).cell? ⟨l, 2, none⟩ = some (.int .i64 (m : Int)) := by
        obtain ⟨dv', ev', hcl, -⟩ := HL5.out.cells
        have h1 := set_block hcl 2 (.int .i64 (m : Int))
        have h2 := set_block h1 3 (.slice p5 b5.length c5)
        exact cell_of h2 (by simp)
      have Hk2 := Lib.hid hk2
      have HS := Lib.hid (show St w ((w5.setCell ⟨l, 2, none⟩ (.int .i64 (m : Int))).setCell ⟨l, 3, none⟩ (.slice p5 b5.length c5)) d D F ∧ Same F w1 ((w5.setCell ⟨l, 2, none⟩ (.int .i64 (m : Int))).setCell ⟨l, 3, none⟩ (.slice p5 b5.length c5)) from by
        obtain ⟨own, dv', ev', vs', hL, hS, hn, hl⟩ := HL5.out
        refine ⟨(hS.move Hch.out (fun k _ e => ⟨.inl (e ▸ hL.ol), (hn k (e ▸ hL.ol)).1⟩) fun k hk => ⟨.inl hk, Nat.lt_of_lt_of_le (hS.flt hk) Hch.out.size⟩).less fun _ h => .inr h, fun k hk => ?_⟩
        have h1 := H.out.same (Hb.out.trans (HB5.out.mono Hb.out.size)) k hk
        exact (Hch.out.block k (hl k hk) fun e => (hn l hL.ol).2 (e ▸ hk)).trans h1)
      clear hk2
      by_cases hw : R2.whole = false
      · have Hwh := Lib.hid (Hrd.out _ HW.out)
        rw [hw] at Hwh
        have HE := Lib.hid (show ImgTold w w1 l d pre D F (imageOf o) (.returned (.int .i64 3)) _ from by rw [HI.out, if_pos (.inl hw)]; exact ⟨rfl, (fun h => by cases h), HS.out⟩)
        clear hw Hrd HI
        go_wp2_with fail
        refine Hwh.out.mono ?_
        rintro e w6 ⟨rfl, rfl⟩
        go_wp2_with fail
        go_ret
        exact HE.out
      · have Hwh := Lib.hid (Hrd.out _ HW.out)
        rw [show R2.whole = true by cases h : R2.whole <;> simp_all] at Hwh
        by_cases hm : 1099511627776 < m
        · have HE := Lib.hid (show ImgTold w w1 l d pre D F (imageOf o) (.returned (.int .i64 3)) _ from by rw [HI.out, if_pos (.inr hm)]; exact ⟨rfl, (fun h => by cases h), HS.out⟩)
          have Hk3 := Hk2.out
          clear hw Hrd HI
          go_wp2_with fail
          refine Hwh.out.mono ?_
          rintro e w6 ⟨rfl, rfl⟩
          go_wp2_with fail
          go_ret
          exact HE.out
        · have HE := Lib.hid (show ImgTold w w1 l d pre D F (imageOf o) (.returned (.int .i64 0)) _ from by
            rw [HI.out, if_neg (fun h => h.elim hw hm)]
            refine ⟨rfl, fun _ => ?_, HS.out⟩
            obtain ⟨own, dv', ev', vs', hL, hS, hn, hl⟩ := H.out
            have hb15 := Hb.out.trans (HB5.out.mono Hb.out.size)
            exact (LedF.turned hS hn hl (img_set (hL.below hb15) HV5.out (fun k hk ho => by have h1 := Hn5.out k hk; have h2 := hL.olt k ho; omega) (by omega) Hbl.out) (((Chg.of_below hb15).mono fun _ _ h => h.elim).trans Hch.out fun k _ e => e ▸ hL.ol) fun k hk => hk.imp id (Hn5.out k)).1)
          have Hk3 := Hk2.out
          clear hw Hrd HI
          go_wp2_with fail
          refine Hwh.out.mono ?_
          rintro e w6 ⟨rfl, rfl⟩
          go_wp2_with fail
          go_ret
          exact HE.out
    · have HI := Lib.hid (imageOf_e h7 h0)
      have h7' : ((loadE o : Int) == 7) = false := by simp; omega
      have h0' : ((loadE o : Int) != 0) = true := by simp; omega
      clear h7 h0
      generalize loadE o = k at *
      go_enter Tryz.func92, Tryz.ntmps92
      go_wp2_with fail
      refine ord_start (fun w' : World => w'.cell? ⟨l, 0, none⟩ = some (.pointer (some ⟨d, 0, none⟩)) ∧ w'.cell? ⟨l, 1, none⟩ = some (.string pre)) (n := 12) (by kernel_rfl) rfl (⟨hc0, hc1⟩) (fun hHeld => ?_)
      generalize w1.drew = W1 at *
      refine Pl [0,1,2,3,4] ?_
      iterate 5 (refine Pc rfl ?_;simp only [Act.put, uA, uB, uC])
      refine Pn ?_
      refine ord_one 5 rfl (by kernel_rfl) (by rfl) (fun K hK => ?_)
      go_wp2_with fail
      refine (imgName_calls ⟨hHeld.1, hHeld.2, hps⟩).mono ?_
      rintro e w9 ⟨rfl, rfl⟩
      go_wp2_with fail
      refine hK.out _ _ (hHeld) (fun hHeld => ?_)
      clear hK
      try simp only [Act.put, List.setIfInBounds_toArray, List.set_cons_zero, List.set_cons_succ]
      refine ord_one 6 rfl (by kernel_rfl) (by rfl) (fun K hK => ?_)
      go_wp2_with fail
      refine Hld.out.mono ?_
      rintro e w2 ⟨v, rfl, hv, hvn, hb, hst⟩
      have Hh3 := Lib.hid (show w2.cell? ⟨l, 0, none⟩ = some (.pointer (some ⟨d, 0, none⟩)) ∧ w2.cell? ⟨l, 1, none⟩ = some (.string pre) from ⟨(hb.cell (World.block_lt_of_cell? _ _ hHeld.1)).trans hHeld.1, (hb.cell (World.block_lt_of_cell? _ _ hHeld.2)).trans hHeld.2⟩)
      have Hb := Lib.hid (show Below w1.heap.size w1 w2 from HB1.out.trans (hb.mono HB1.out.size))
      have Hv := Lib.hid hv
      have hlen : (loadB o).length = n := hn
      obtain ⟨pv, cv, rfl, -⟩ := own_cap0 hv
      rw [hlen]
      clear hv hvn hb hst Hld
      go_wp2_with fail
      refine hK.out _ _ (Hh3.out) (fun hHeld => ?_)
      clear hK
      try simp only [Act.put, List.setIfInBounds_toArray, List.set_cons_zero, List.set_cons_succ]
      refine Pl [7,8,9,10,11] ?_
      iterate 5 (refine Pc rfl ?_;simp only [Act.put, uA, uB, uC])
      refine Pn ?_
      refine wpAnyH_done (by kernel_rfl) ?_ _
      have HE := Lib.hid (img_end H.out Hb.out k _ HI.out)
      go_wp2_with fail
      go_ret
      exact HE.out
end
end Go.Proofs.YtogdfkilhpkloaaGreatDoor
