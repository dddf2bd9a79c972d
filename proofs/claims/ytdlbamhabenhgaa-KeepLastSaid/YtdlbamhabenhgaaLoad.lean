/- The contract of keep.Load. -/
import Derived.Test.YtdlbamhabenhgaaSaveW
namespace Go.Proofs.Ytdlbamhabenhgaa
open Go.RowKit Go.Sat Go.Maps

theorem data_len {D : DiskM} (h : D.OK) (n : Bs) : (dataOf (Sat.get n D.files)).length ≤ 1073741824 := by
  cases hg : Sat.get n D.files with
  | none => simp [dataOf]
  | some f =>
    have h1 : DiskM.size f ≤ D.used := le_sum h.srt hg
    have h2 := h.used
    have h3 := h.room
    show f.data.length ≤ _
    unfold DiskM.size at h1
    omega

def loadE (o : Option FileM) : Nat := if o.isSome then (if oneE (dataOf o) = 0 then 0 else 3) else 7
def loadB (o : Option FileM) : Bs := if o.isSome then oneB (dataOf o) else []

theorem loadE_none : loadE none = 7 := by unfold loadE; exact if_neg (by decide)
theorem loadB_none : loadB none = [] := by unfold loadB; exact if_neg (by decide)
theorem loadE_some (f : FileM) : loadE (some f) = if oneE (dataOf (some f)) = 0 then 0 else 3 := by unfold loadE; exact if_pos (by rfl)
theorem loadB_some (f : FileM) : loadB (some f) = oneB (dataOf (some f)) := by unfold loadB; exact if_pos (by rfl)

def GotL (w : World) (d : Nat) (D : DiskM) (F : Nat → Prop) (w1 : World) (o : Option FileM) (e : Ending) (w' : World) : Prop :=
  ∃ v, e = .returned (.tuple #[v, .int .i64 (loadE o : Int)]) ∧ OwnB w' 5 v (loadB o) ∧ (∀ k, v.ownBlock = some k → w1.heap.size ≤ k) ∧ Below w1.heap.size w1 w' ∧ St w w' d D F

theorem own_slice {w : World} {e : TypeId} {v : Value} {l : Bs} (h : OwnB w e v l) : ∃ p c, v = .slice p l.length c ∧ l.length ≤ c := by
  rcases h.2 with ⟨rfl, hn⟩ | ⟨g, cap, cur, rfl, _, hnc, _⟩
  · exact ⟨none, 0, by rw [hn], by omega⟩
  · exact ⟨_, cap, rfl, hnc⟩

theorem load_calls {w w1 : World} {d : Nat} {D : DiskM} {F : Nat → Prop} (h : St w w1 d D F) (s : ByteArray) (hs : s.size ≤ 9223372036854775807) :
    Calls Try.prog 26 #[.pointer (some ⟨d, 0, none⟩), .string s] w1 (GotL w d D F w1 (Sat.get (nm s) D.files)) := by
  have hln := data_len h.ok (nm s)
  have H := Lib.hid (st_read h s hs)
  clear h
  cases hg : Sat.get (nm s) D.files with
  | none =>
    rw [hg] at H
    clear hln
    go_enter Try.func26, Try.ntmps26
    go_wp2_with fail
    refine H.out.mono ?_
    rintro e w2 ⟨v, rfl, -, -, hb, hst⟩
    have Hf := Lib.hid (show GotL w d D F w1 none (.returned (.tuple #[.slice none 0 0, .int .i64 7])) w2 from ⟨.slice none 0 0, by rw [loadE_none]; rfl, by rw [loadB_none]; exact OwnR.nil _ _ _, fun k hk => (by cases hk), hb, hst⟩)
    clear hb hst
    go_wp2_with fail
    go_ret2
    exact Hf.out
  | some f =>
    rw [hg] at H hln
    go_enter Try.func26, Try.ntmps26
    go_wp2_with fail
    refine H.out.mono ?_
    rintro e w2 ⟨v, rfl, hv, -, hb, hst⟩
    obtain ⟨p, c, rfl, hnc⟩ := own_slice hv
    have H1 := Lib.hid (one_calls hv.has hnc (by omega))
    have Hst := Lib.hid hst
    have Hb := Lib.hid hb
    have hE := loadE_some f
    have hB := loadB_some f
    generalize dataOf (some f) = b at *
    generalize hN : b.length = N at *
    clear hv hst hb hnc hln
    go_wp2_with fail
    refine H1.out.mono ?_
    rintro e w3 ⟨v, rfl, hv, hn, hb3⟩
    have hb4 := Hb.out.trans (hb3.mono Hb.out.size)
    have hst3 := Hst.out.next hb3
    by_cases he : oneE b = 0
    · have Hf := Lib.hid (show GotL w d D F w1 (some f) (.returned (.tuple #[v, .int .i64 0])) w3 from ⟨v, by rw [hE, if_pos he]; rfl, by rw [hB]; exact hv, fun k hk => Nat.le_trans Hb.out.size (hn k hk), hb4, hst3⟩)
      rw [he]
      clear hv hn hb3 hb4 hst3
      go_wp2_with fail
      go_ret2
      exact Hf.out
    · have Hf := Lib.hid (show GotL w d D F w1 (some f) (.returned (.tuple #[.slice none 0 0, .int .i64 3])) w3 from ⟨.slice none 0 0, by rw [hE, if_neg he]; rfl, by rw [hB]; unfold oneB; rw [if_neg he]; exact OwnR.nil _ _ _, fun k hk => (by cases hk), hb4, hst3⟩)
      have hne : ((oneE b : Int) != 0) = true := by simp; omega
      generalize oneE b = E at *
      clear hv hn hb3 hb4 hst3
      go_wp2_with fail
      go_ret2
      exact Hf.out
end Go.Proofs.Ytdlbamhabenhgaa
