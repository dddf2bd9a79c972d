/- KeepApart: what the disk keeps (a plain law). -/
import Derived.Test.YtdlbamhabenhgaaKnown4
namespace Go.Proofs.Ytdlbamhabenhgaa
open Go.RowKit Go.Sat Go.Maps

def p1N : Bs := [112, 45, 49]
def p2N : Bs := [112, 45, 50]
def qN : Bs := [113]
def pN : Bs := [112, 45]
/-- A file that was saved. -/
def fl (x : Bs) : FileM := ⟨frameN x, (frameN x).length⟩

theorem each_one (g : Bs → FileM → List (Bs × FileM) → List (Bs × FileM)) (D : DiskM) (n : Bs) : D.each g [n] = D.each1 g n := by
  cases h : D.each1 g n with
  | mk D1 e1 =>
    unfold DiskM.each
    rw [h]
    by_cases he : e1 = 0
    · subst he
      rw [if_pos rfl]
      rfl
    · rw [if_neg he]

theorem fl_size (x : Bs) : DiskM.size (fl x) = x.length + 12 := frame_len x

def aD1 (a : Bs) : DiskM := ⟨1048576, [(p1N, fl a)], none⟩
def aD2 (a b : Bs) : DiskM := ⟨1048576, [(p1N, fl a), (p2N, fl b)], none⟩
def aD3 (a b c : Bs) : DiskM := ⟨1048576, [(p1N, fl a), (p2N, fl b), (qN, fl c)], none⟩
def aD5 (b c : Bs) : DiskM := ⟨1048576, [(p2N, fl b), (qN, fl c)], none⟩

theorem ap_save {L : List (Bs × FileM)} (h : DiskM.OK ⟨1048576, L, none⟩) {n l : Bs} (hn1 : 1 ≤ n.length) (hn : n.length ≤ 60) (hsh : Sat.get (shadowN n) L = none) (hroom : sumBy DiskM.size L + l.length + 12 ≤ 1048576) (hc : L.length < 4096) :
    DiskM.save ⟨1048576, L, none⟩ n l = (⟨1048576, put n (fl l) L, none⟩, 0) :=
  save_all h (fun j e => by cases e) hn1 hn hsh hroom hc

section
variable {a b c : Bs}
theorem ap1 (h : a.length ≤ 5000) : (DiskM.fresh 1048576).save p1N a = (aD1 a, 0) :=
  ap_save (L := []) (ok_fresh 1048576 (by decide)) (by decide) (by decide) rfl (by simp [sumBy]; omega) (by decide)

theorem ap2 (h : a.length + b.length ≤ 5000) (ok : (aD1 a).OK) : (aD1 a).save p2N b = (aD2 a b, 0) :=
  ap_save (L := [(p1N, fl a)]) ok (by decide) (by decide) rfl (by simp [sumBy, fl_size]; omega) (by simp)

theorem ap3 (h : a.length + b.length + c.length ≤ 5000) (ok : (aD2 a b).OK) : (aD2 a b).save qN c = (aD3 a b c, 0) :=
  ap_save (L := [(p1N, fl a), (p2N, fl b)]) ok (by decide) (by decide) rfl (by simp [sumBy, fl_size]; omega) (by simp)

theorem ap4 (h : a.length + b.length + c.length ≤ 5000) (ok : (aD3 a b c).OK) : (aD3 a b c).save p2N (b ++ a) = (aD3 a (b ++ a) c, 0) :=
  ap_save (L := [(p1N, fl a), (p2N, fl b), (qN, fl c)]) ok (by decide) (by decide) rfl (by simp [sumBy, fl_size]; omega) (by simp)

theorem ap_crash (k : Int) : (aD3 a b c).crash k = aD3 a b c := by
  unfold DiskM.crash aD3 mp
  simp only [List.map_cons, List.map_nil, fl, crash_whole]

theorem ap_rem : (aD3 a b c).remove [p1N] = (aD5 b c, 0) := by
  exact (each_one _ _ _).trans rfl

theorem ap_clear : (aD3 a b c).clear pN [p2N, qN] = (aD5 b c, 0) := by
  unfold DiskM.clear
  rw [show namesOf (aD3 a b c) = [p1N, p2N, qN] from rfl, DiskM.clearL_go (by rfl) ap_rem, DiskM.clearL_skip (by rfl), DiskM.clearL_skip (by rfl)]
  rfl
theorem ap_names : namesOf (aD5 b c) = [p2N, qN] := rfl
end
end Go.Proofs.Ytdlbamhabenhgaa
