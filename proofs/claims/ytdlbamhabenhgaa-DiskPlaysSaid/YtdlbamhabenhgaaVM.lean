/- The contract of satrapylaw4.heavy, where what the script holds is small. KeepPlays: what the walk takes. The contract of Copy. Two disks of a law's own, side by side: what is done with one leaves the other one alone. A copy of both disks, and what is done with the elder one then. DiskPlays: both disks, step by step. satrapylaw3's roomy, stands and spoil. What a script of satrapylaw3 is, as the form reads it. -/
import Derived.Test.YtdlbamhabenhgaaVC
import Derived.Test.YtdlbamhabenhgaaVD
import Derived.Test.YtdlbamhabenhgaaVE
import Derived.Test.YtdlbamhabenhgaaVG
import Derived.Test.YtdlbamhabenhgaaVK
import Derived.Test.YtdlbamhabenhgaaVL
namespace Go.Proofs.Ytdlbamhabenhgaa
open Go.RowKit Go.Sat Go.Maps

def Light4 (l : List Step4) (hv : Bool) : Prop := hv = false → ∀ i s, i < 80 → l[i]? = some s → s.a.length + s.b.length ≤ 5000

def HeavyTold4 (w : World) (l : List Step4) (e : Ending) (w' : World) : Prop := ∃ hv, e = .returned (.bool hv) ∧ Light4 l hv ∧ ∃ q, w' = w.drewN q

set_option maxRecDepth 100000 in
set_option maxHeartbeats 2000000 in
theorem heavy4_calls {w : World} {K : Nat} {p : Option Addr} {n c : Nat} {l : List Step4} (hx : Steps4 K w p n l) (hK : K ≤ 1048576) (hn : n ≤ 1048576) :
    Calls Try.prog 40 #[.slice p n c] w (HeavyTold4 w l) := by
  have Hx := Lib.hid hx
  clear hx
  go_enter Try.func40, Try.ntmps40
  go_wp2_with fail
  go_loopw [3, 4, 5] (fun a i _ wr => ∃ k x q : Nat, k ≤ n ∧ k ≤ 80 ∧ i = .int .i64 k ∧ a = .int .i64 x ∧ x ≤ 5000 ∧ (∀ i s, i < k → l[i]? = some s → s.a.length + s.b.length ≤ x) ∧ wr = w.drewN q) (fun _ i _ _ => n - (intOf i).toNat)
  case atStart => exact ⟨0, 0, 0, Nat.zero_le _, by omega, rfl, rfl, by omega, fun i s h => by omega, rfl⟩
  case round =>
    obtain ⟨k, x, q, hk, hk8, rfl, rfl, hx5, hall, rfl⟩ := hrel
    have Hall := Lib.hid hall
    clear hall
    by_cases hlt : k < n
    · by_cases h80 : k < 80
      · have hlen := Hx.out.1
        have hkl : k < l.length := by omega
        obtain ⟨s, hs⟩ : ∃ s, l[k]? = some s := ⟨_, List.getElem?_eq_getElem hkl⟩
        rcases Hx.out.2 with h0 | ⟨g, o, rfl, hat⟩
        · rw [h0] at hkl
          simp at hkl
        have hst := hat k s hs
        obtain ⟨-, -, ok1, ok2, ok3, ok4, ok5⟩ := hst.ok
        have c2 := hst.cm
        have c3 := hst.c3
        have c4 := hst.c4
        have c5 := hst.c5
        have hna : s.na = s.a.length := by obtain ⟨_, _, e⟩ := hst.ha.slice; simp only [Value.slice.injEq] at e; exact e.2.1
        have hnb : s.nb = s.b.length := by obtain ⟨_, _, e⟩ := hst.hb.slice; simp only [Value.slice.injEq] at e; exact e.2.1
        have hns : s.ns = s.stay.length := by obtain ⟨_, _, e⟩ := hst.hs.slice; simp only [Value.slice.injEq] at e; exact e.2.1
        have Hstay := Lib.hid hst.hs
        have Hs := Lib.hid hs
        have Hok5 := Lib.hid ok5
        have Hna := Lib.hid hna
        have Hnb := Lib.hid hnb
        have Hns := Lib.hid hns
        rw [← hna] at ok2
        rw [← hnb] at ok3
        rw [← hns] at ok4
        have hna1 : s.na ≤ 1048576 := by omega
        have hnb1 : s.nb ≤ 1048576 := by omega
        have hnm1 : s.name.size ≤ 1048576 := by omega
        have hns1 : s.ns ≤ 1048576 := by omega
        clear hst hat hs hkl hna hnb hns ok5 hlen ok1 ok2 ok3 ok4
        generalize hNa : s.na = na at *
        generalize hNb : s.nb = nb at *
        generalize hNs : s.ns = ns at *
        generalize hNm : s.name.size = nm at *
        have HNa := Lib.hid hNa
        have HNb := Lib.hid hNb
        have HNs := Lib.hid hNs
        clear hNa hNb hNs
        go_wp2_with fail
        go_quiet (fail)
        go_wp2_with fail
        rw [World.drewN_drewN]
        go_loopw [3, 5] (fun a i wr => ∃ j y q : Nat, j ≤ ns ∧ i = .int .i64 j ∧ a = .int .i64 y ∧ x + 5 + na + nb + nm ≤ y ∧ y ≤ x + 5 + na + nb + nm + j * 1048578 ∧ wr = w.drewN q) (fun _ i _ => ns - (intOf i).toNat)
        case atStart => exact ⟨0, x + 5 + na + nb + nm, _, Nat.zero_le _, rfl, by go_num, Nat.le_refl _, by omega, rfl⟩
        case round =>
          obtain ⟨j, y, q', hj, rfl, rfl, hy1, hy2, rfl⟩ := hrel
          by_cases hjn : j < ns
          · have hjl : j < s.stay.length := by rw [← Hns.out]; exact hjn
            have hz := List.getElem?_eq_getElem hjl
            have hzl := Hok5.out _ (List.getElem_mem hjl)
            rcases Hstay.out.at with h0 | ⟨b2, o2, cc2, e2, hc2⟩
            · rw [h0] at hjl
              simp at hjl
            have hcz := hc2 j _ hz
            rw [enc_str] at hcz
            simp only [Value.slice.injEq] at e2
            have c5' := c5
            rw [e2.1] at c5'
            generalize s.stay[j] = z at *
            have hzs : (⟨z.toArray⟩ : ByteArray).size ≤ 1048576 := by
              have : (⟨z.toArray⟩ : ByteArray).size = z.length := by rw [← nm_len, nm_str]
              omega
            generalize hzz : (⟨z.toArray⟩ : ByteArray).size = zs at *
            clear hc2 hz hzl hjl e2 c5
            go_wp2_with fail
            go_roundw
            case rel => exact ⟨j + 1, y + 2 + zs, q', by omega, by go_num, by go_num, by omega, by omega, rfl⟩
            case measure => simp [intOf]; omega
          · by_cases hy5 : y ≤ 5000
            · have Hnext := Lib.hid (show ∀ i t, i < k + 1 → l[i]? = some t → t.a.length + t.b.length ≤ y from fun i t hi ht => by
                by_cases hik : i < k
                · have := Hall.out i t hik ht
                  omega
                · obtain rfl : i = k := by omega
                  rw [Hs.out] at ht
                  cases ht
                  rw [← Hna.out, ← Hnb.out]
                  omega)
              go_wp2_with fail
              go_roundw
              case rel => exact ⟨k + 1, y, q', by omega, by omega, by go_num, rfl, hy5, Hnext.out, rfl⟩
              case measure => simp [intOf]; omega
            · go_wp2_with fail
              go_ret
              exact ⟨true, rfl, (fun h => by cases h), q', rfl⟩
      · obtain rfl : k = 80 := by omega
        have Hf := Lib.hid (show Light4 l false from fun _ i s hi hs => Nat.le_trans (Hall.out i s hi hs) hx5)
        go_wp2_with fail
        go_ret
        exact ⟨false, rfl, Hf.out, q, rfl⟩
    · have Hf := Lib.hid (show Light4 l false from fun _ i s hi hs => by
        have h1 := (List.getElem?_eq_some_iff.1 hs).1
        have h2 := Hx.out.1
        exact Nat.le_trans (Hall.out i s (by omega) hs) hx5)
      go_wp2_with fail
      go_ret
      exact ⟨false, rfl, Hf.out, q, rfl⟩
end Go.Proofs.Ytdlbamhabenhgaa

namespace Go.Proofs.Ytdlbamhabenhgaa
open Go.RowKit Go.Sat Go.Maps

/-- A block, and what a value lies in. -/
def BxV (bx : Nat) (v : Value) (k : Nat) : Prop := k = bx ∨ v.ownBlock = some k

section
variable {w w1 w2 : World} {d : Nat} {D : DiskM} {r : Nat} {R : DiskM} {F : Nat → Prop} {bx : Nat}

theorem PairF.app {v v' : Value} {e : TypeId} {size n : Nat} {xs : List Value} (h : PairF w w1 d D r R (BxV bx v)) (hv : ∀ k, v.ownBlock = some k → w.heap.size ≤ k ∧ k ≠ bx) (hg : w1.grownBy w2 v.ownBlock) (hloc : v'.ownBlock = v.ownBlock ∨ ∃ g, v'.ownBlock = some g ∧ w1.heap.size ≤ g) (hown : OwnR w2 e size v' n xs) :
    PairF w w2 d D r R (BxV bx v') ∧ (∀ k, v'.ownBlock = some k → w.heap.size ≤ k ∧ k ≠ bx) ∧ w2.heap[bx]? = w1.heap[bx]? := by
  have hbx := h.flt (k := bx) (.inl rfl)
  have hnew : ∀ k, v'.ownBlock = some k → v.ownBlock = some k ∨ w1.heap.size ≤ k := fun k hk => by
    rcases hloc with e | ⟨g, e, hge⟩
    · exact .inl (e ▸ hk)
    · rw [hk] at e
      cases e
      exact .inr hge
  refine ⟨h.move (Chg.of_grown hg) (fun k _ hs => ⟨.inr hs.symm, (hv k hs.symm).1⟩) (fun k hk => ?_), fun k hk => ?_, hg.block bx hbx fun e => (hv bx e.symm).2 rfl⟩
  · rcases hk with rfl | hk
    · exact ⟨.inl (.inl rfl), Nat.lt_of_lt_of_le hbx hg.size⟩
    · exact ⟨(hnew k hk).imp .inr id, OwnR.lt hown hk⟩
  · rcases hnew k hk with h1 | h1
    · exact hv k h1
    · exact ⟨Nat.le_trans h.bel.size h1, by omega⟩

theorem pairf_load (h : PairF w w1 d D r R F) (s : ByteArray) (hs : s.size ≤ 9223372036854775807) :
    Calls Try.prog 26 #[.pointer (some ⟨d, 0, none⟩), .string s] w1 (RGotL w1 (Sat.get (nm s) D.files)) := by
  obtain ⟨own, v, L, hS, -⟩ := h
  refine (load_calls hS s hs).mono ?_
  rintro e w' ⟨v, rfl, hv, hn, hb, -⟩
  exact ⟨v, rfl, hv, hn, hb⟩

theorem pairf_rload (h : PairF w w1 d D r R F) (s : ByteArray) :
    Calls Try.prog 42 #[.pointer (some ⟨r, 0, none⟩), .string s] w1 (RGotL w1 (Sat.get (nm s) R.files)) := by
  obtain ⟨own, v, L, -, hR, -⟩ := h
  exact rload_calls hR s

theorem loadB_len (h : D.OK) (n : Bs) : (loadB (Sat.get n D.files)).length ≤ 140737488355328 := by
  have h1 := data_len h n
  unfold loadB oneB decB
  split
  · split
    · split
      · simp only [List.length_take, List.length_drop]
        omega
      · simp
    · simp
  · simp

/-- The blocks of a box are as they were. -/
theorem box_same {w1 w2 : World} {o : Obj} (hs : Same F w1 w2) (hF : F bx) (hb : w1.heap[bx]? = some o) : w2.heap[bx]? = some o := (hs bx hF).trans hb

theorem HasB.far {w w1 : World} {v : Value} {l : Bs} (h : HasB w v l) (hb : Below w.heap.size w w1) : HasB w1 v l := h.below hb
theorem HasN.far {w w1 : World} {v : Value} {l : List Bs} (h : HasN w v l) (hb : Below w.heap.size w w1) : HasN w1 v l := Holds.chg h (Chg.of_below hb) fun _ _ => id

theorem chg_bel {w w1 w2 : World} {own : Nat → Prop} (hb : Below w.heap.size w w1) (hc : Chg own w1 w2) (ho : ∀ k, own k → w.heap.size ≤ k) : Below w.heap.size w w2 :=
  hb.trans (hc.below hb.size fun k hk h => by have := ho k h; omega)

/-- Save, Clear, Append of the program's. -/
theorem pairf_save (h : PairF w w1 d D r R F) (s : ByteArray) (hs : s.size ≤ 9223372036854775807) {p : Option Addr} {n c : Nat} {ls : List Bs} (hx : RowsAt w1 (.slice p n c) ls) (hn : n ≤ 140737488355328) (hl : ls.flatten.length ≤ 1048576) :
    Calls Try.prog 25 #[.pointer (some ⟨d, 0, none⟩), .string s, .slice p n c] w1 fun e w' => e = .returned (.int .i64 ((D.save (nm s) ls.flatten).2 : Int)) ∧ PairF w w' d (D.save (nm s) ls.flatten).1 r R F ∧ Same F w1 w' :=
  pairf_disk h (Below.refl _ _) fun _ hS => save_calls hS s hs hx hn hl
theorem pairf_rsave (h : PairF w w1 d D r R F) (s : ByteArray) (hs : s.size ≤ 9223372036854775000) {p : Option Addr} {m c : Nat} {l : Bs} (hx : HasB w1 (.slice p m c) l) (hl : l.length ≤ 1048576) :
    Calls Try.prog 41 #[.pointer (some ⟨r, 0, none⟩), .string s, .slice p m c] w1 fun e w' => e = .returned (.int .i64 ((R.save (nm s) l).2 : Int)) ∧ PairF w w' d D r (R.save (nm s) l).1 F ∧ Same F w1 w' :=
  pairf_ref h fun _ _ _ hR _ => rsave_calls hR s hs hx hl
theorem pairf_clear (h : PairF w w1 d D r R F) (s : ByteArray) {p : Option Addr} {n c : Nat} {stay : List Bs} (hx : HasN w (.slice p n c) stay) (hn : stay.length ≤ 140737488355328) :
    Calls Try.prog 38 #[.pointer (some ⟨d, 0, none⟩), .string s, .slice p n c] w1 fun e w' => e = .returned (.int .i64 ((D.clear (nm s) stay).2 : Int)) ∧ PairF w w' d (D.clear (nm s) stay).1 r R F ∧ Same F w1 w' :=
  pairf_disk h (Below.refl _ _) fun _ hS => clear_calls hS s (fun _ hb _ => hx.far hb) hn
theorem pairf_rclear (h : PairF w w1 d D r R F) (s : ByteArray) (hs : s.size ≤ 9223372036854775807) {p : Option Addr} {n c : Nat} {stay : List Bs} (hx : HasN w (.slice p n c) stay) (hn : stay.length ≤ 140737488355328) :
    Calls Try.prog 43 #[.pointer (some ⟨r, 0, none⟩), .string s, .slice p n c] w1 fun e w' => e = .returned (.int .i64 ((R.clear (nm s) stay).2 : Int)) ∧ PairF w w' d D r (R.clear (nm s) stay).1 F ∧ Same F w1 w' := by
  have hb := h.bel
  exact pairf_ref h fun _ _ _ hR ho => rclear_calls hR s hs (fun W hc => hx.far (chg_bel hb hc fun k hk => (ho k hk).1)) hn
theorem pairf_append (h : PairF w w1 d D r R F) (s : ByteArray) (x : Value) (ls : List Bs) (hx : RowsAt w1 x ls) (hn : ls.length ≤ 140737488355328) (hl : ls.flatten.length ≤ 140737488355328) (hsz : s.size ≤ 9223372036854775807) :
    Calls Try.prog 16 #[.pointer (some ⟨d, 0, none⟩), .string s, x] w1 fun e w' => e = .returned (.int .i64 ((D.append (nm s) ls.flatten).2 : Int)) ∧ PairF w w' d (D.append (nm s) ls.flatten).1 r R F ∧ Same F w1 w' :=
  pairf_disk h (Below.refl _ _) fun _ hS => st_append hS s x ls hx hn hl hsz
theorem pairf_rappend (h : PairF w w1 d D r R F) (s : ByteArray) (hs : s.size ≤ 9223372036854775807) {p : Option Addr} {m c : Nat} {l : Bs} (hx : HasB w (.slice p m c) l) (hl : l.length ≤ 140737488355328) :
    Calls Try.prog 46 #[.pointer (some ⟨r, 0, none⟩), .string s, .slice p m c] w1 fun e w' => e = .returned (.int .i64 ((R.append (nm s) l).2 : Int)) ∧ PairF w w' d D r (R.append (nm s) l).1 F ∧ Same F w1 w' := by
  have hb := h.bel
  exact pairf_ref h fun _ _ _ hR ho => rappend_calls hR s hs (HasB.below hx hb) hl fun hne k hk hok => by
    have h1 := HasB.lt hx hne hk
    have h2 := (ho k hok).1
    omega
end
end Go.Proofs.Ytdlbamhabenhgaa

namespace Go.Sat
open Go.RowKit
open Go.Maps (Keyed)
/-- 'm[k] = v', at an operation. -/
theorem wp_mapUpd {H : Type} {P : Program} {w : World} {o : Oper} {a : Act} {K : Act → World → Prop} {Q : Exit → Act → World → Prop}
    (m x v : Operand) (t : TypeId) (hop : o.op = Op.mapUpdate t m x v)
    (k e : TypeId) (KL : Keyed P k) (ht : P.underlying t = some (.map k e)) (R : Value → Option (DataW H × List MemPlace)) (b n : Nat) (D : DataW H)
    (hm : a.eval m = .map (some b)) (hown : w.ownsMap P k R b n D) (hn : n < maxLen) (key val : Value) (kl : Lit) (hx : a.eval x = key) (hv : a.eval v = val) (hkey : keyOf P k key = some kl)
    (d : DataW H) (ps : List MemPlace) (hval : R val = some (d, ps))
    (hK : ∀ w', w'.ownsMap P k R b (n + 1) (D.put kl d) → w.grownBy w' (some b) → K (a.put o.dst undef) w') : Oper.wp P o a w K Q := by
  obtain ⟨w', hrun, r1, r2⟩ := hown.update KL ht hn hkey hval
  unfold Oper.wp
  simp only [execOp, hop, hm, hx, hv, Sem.run_bind, hrun, Result.andThen_ok, Sem.run_pure]
  exact hK w' r1 r2
end Go.Sat

namespace Go.Proofs.Ytdlbamhabenhgaa
open Go.RowKit Go.Sat Go.Maps

/-- The files that have come up. -/
def seen (rest : Lit → Bool) (fs : List (Bs × FileM)) : List (Bs × FileM) := fs.filter fun p => !rest (.string p.1)

theorem seen_srt {rest : Lit → Bool} {fs : List (Bs × FileM)} (h : Srt fs) : Srt (seen rest fs) := h.filter _

theorem seen_get {rest : Lit → Bool} {fs : List (Bs × FileM)} (h : Srt fs) (n : Bs) : Sat.get n (seen rest fs) = if rest (.string n) then none else Sat.get n fs := by
  cases hr : rest (.string n) with
  | true =>
    rw [if_pos rfl, get_none]
    intro p hp e
    have := (List.mem_filter.1 hp).2
    rw [e, hr] at this
    cases this
  | false =>
    rw [if_neg (by simp)]
    cases hg : Sat.get n fs with
    | none => exact get_none.2 fun p hp => get_none.1 hg p (List.mem_filter.1 hp).1
    | some f => exact get_of_mem (seen_srt h) (List.mem_filter.2 ⟨get_mem hg, by rw [hr]; rfl⟩)

theorem seen_step {rest : Lit → Bool} {fs : List (Bs × FileM)} (h : Srt fs) {n : Bs} {f : FileM} (hg : Sat.get n fs = some f) :
    put n f (seen rest fs) = seen (fun z => rest z && !z.sameKey (.string n)) fs := by
  refine srt_ext (srt_put (seen_srt h)) (seen_srt h) fun j => ?_
  by_cases hj : j = n
  · subst hj
    rw [get_put_same (seen_srt h), seen_get h, hg, sk]
    simp
  · rw [get_put_other (seen_srt h) _ hj, seen_get h, seen_get h]
    have : (Lit.string j).sameKey (.string n) = false := by rw [sk]; simpa using hj
    rw [this]
    simp

theorem seen_start {rest : Lit → Bool} {fs : List (Bs × FileM)} (h : ∀ p ∈ fs, rest (.string p.1) = true) : seen rest fs = [] := by
  unfold seen
  rw [List.filter_eq_nil_iff]
  intro p hp
  rw [h p hp]
  simp
theorem seen_end {rest : Lit → Bool} {fs : List (Bs × FileM)} (h : ∀ z, rest z = false) : seen rest fs = fs := by
  unfold seen
  rw [List.filter_eq_self]
  intro p _
  rw [h]
  rfl

theorem sum_sub {α : Type} (f : α → Nat) {p : Bs × α → Bool} : ∀ L : List (Bs × α), sumBy f (L.filter p) ≤ sumBy f L
  | [] => Nat.le_refl _
  | x :: r => by
    have ih := sum_sub f (p := p) r
    rw [List.filter_cons, sum_cons]
    split
    · rw [sum_cons]
      omega
    · omega

theorem ok_seen {D : DiskM} (h : D.OK) (rest : Lit → Bool) : DiskM.OK { D.copy with files := seen rest D.files } where
  srt := seen_srt h.srt
  room := h.room
  used := Nat.le_trans (sum_sub DiskM.size D.files) h.used
  count := Nat.le_trans (List.length_filter_le _ _) h.count
  names p hp := h.names p (List.mem_filter.1 hp).1
  lasts p hp := h.lasts p (List.mem_filter.1 hp).1
  fuse _ hk := by cases hk

section
variable {w : World} {d m : Nat} {left : Int} {L : List (Bs × FRep)} {own : Own} {D : DiskM}

structure CopyRel (w : World) (m : Nat) (L : List (Bs × FRep)) (D : DiskM) (d2 it : Nat) (wr : World) : Prop where
  ex : ∃ rest cnt m2 L2 own2, wr.ranges Try.prog 9 ptrR m it L.length (dm fbD L) rest cnt ∧ DiskIn wr d2 m2 0 L2 own2 { D.copy with files := seen rest D.files } ∧ Below w.heap.size w wr ∧ (∀ k, k < w.heap.size → own2 k = none) ∧ own2 it = none

theorem copy_round {d2 it m2 cnt : Nat} {rest : Lit → Bool} {L2 : List (Bs × FRep)} {own2 : Own} {W1 W2 W4 : World} {s : Bs} {f : FileM} {v2 : Value} (hok : D.OK) (hm : m < w.heap.size)
    (hd : DiskIn W1 d2 m2 0 L2 own2 { D.copy with files := seen rest D.files }) (hrg : W1.ranges Try.prog 9 ptrR m it L.length (dm fbD L) (fun z => rest z && !z.sameKey (.string s)) cnt)
    (hb : Below w.heap.size w W1) (hn : ∀ k, k < w.heap.size → own2 k = none) (hit : own2 it = none) (hv2 : OwnB W2 5 v2 f.data) (hn2 : ∀ k, v2.ownBlock = some k → W1.heap.size ≤ k) (hb2 : Below W1.heap.size W1 W2)
    (hgD : Sat.get s D.files = some f) (hg2 : Sat.get s L2 = none)
    (hown : W4.ownsMap Try.prog 9 ptrR m2 (L2.length + 1) ((dm fbD L2).put (.string s) (.held W2.heap.size)))
    (hg : (W2.alloc (.cells #[v2, .int .i64 (f.lasts : Int)] 80)).grownBy W4 (some m2)) : (CopyRel w m L D d2 it W4 ∧ W4.rangeLeft m it = cnt) ∧ (∀ a : Addr, a.block ≠ m2 → a.block < W1.heap.size → W4.cell? a = W1.cell? a) ∧ w.heap.size ≤ m2 := by
  have hA : Below W1.heap.size W1 (W2.alloc (.cells #[v2, .int .i64 (f.lasts : Int)] 80)) := hb2.alloc hb2.size _
  have hm2 := hd.om
  have hm2lt := hd.mlt
  have hgr : W1.grownBy W4 (some m2) := ⟨hg.os.trans hA.os, hg.tape.trans hA.tape, hg.output.trans hA.output, Nat.le_trans hA.size hg.size, fun k hk hne => (hg.block k (Nat.lt_of_lt_of_le hk hA.size) hne).trans (hA.block k hk)⟩
  have hfb : W4.heap[W2.heap.size]? = some (.cells #[v2, .int .i64 (f.lasts : Int)] 80 (0, 0)) := grown_block hg (new_block W2 _) (by intro e; cases e; have := hb2.size; omega)
  have hrow : OwnB W4 5 v2 f.data := OwnR.keep hv2 fun k hk => (hg.block k (by have := OwnR.lt hv2 hk; simp; omega) (by intro e; cases e; have := hn2 _ hk; omega)).trans (heap_alloc_old W2 _ (OwnR.lt hv2 hk))
  have hmm : m2 ≠ m := fun e => by have := hn m hm; rw [← e, hm2] at this; cases this
  have hmi : m2 ≠ it := fun e => by rw [← e, hm2] at hit; cases hit
  have hrg4 := hrg.kept hgr (by intro e; cases e; exact hmm rfl) (by intro e; cases e; exact hmi rfl)
  have hst : put s f (seen rest D.files) = seen (fun z => rest z && !z.sameKey (.string s)) D.files := seen_step hok.srt hgD
  obtain ⟨own3, hd3, hx3⟩ := hd.add hg2 (w' := W4) (r := ⟨W2.heap.size, v2, f⟩) hgr.size (fun k hk hne => hgr.block k hk (by intro e; cases e; exact hne rfl)) ⟨_, hown⟩ hfb hb2.size hrow (fun k hk => ⟨hn2 k hk, by have := OwnR.lt hv2 hk; show k ≠ W2.heap.size; omega⟩) (by
    show DiskM.OK { D.copy with files := put s f (seen rest D.files) }
    rw [hst]
    exact ok_seen hok _)
  have hd4 : DiskIn W4 d2 m2 0 (put s ⟨W2.heap.size, v2, f⟩ L2) own3 { D.copy with files := seen (fun z => rest z && !z.sameKey (.string s)) D.files } := by
    rw [← hst]
    exact hd3
  have hs1 := hb.size
  have hm2w : w.heap.size ≤ m2 := by
    rcases Nat.lt_or_ge m2 w.heap.size with h | h
    · have := hn m2 h
      rw [hm2] at this
      cases this
    · exact h
  refine ⟨⟨⟨_, _, m2, _, own3, hrg4, hd4, ?_, fun k hk => hx3 k (Nat.lt_of_lt_of_le hk hs1) (hn k hk), hx3 it hrg.lt hit⟩, hrg4.left_eq⟩, fun a ha hl => World.cell?_of_block (hgr.block a.block hl fun e => by cases e; exact ha rfl), hm2w⟩
  exact (((Chg.of_below hb).mono (T := fun k => w.heap.size ≤ k) fun _ _ h => h.elim).trans (Chg.of_grown hgr) fun i _ e => by cases e; exact hm2w).below (Nat.le_refl _) fun k hk h => by omega

set_option maxRecDepth 100000 in
set_option maxHeartbeats 4000000 in
theorem copy_walk (h : DiskIn w d m left L own D) :
    Calls Try.prog 33 #[.pointer (some ⟨d, 0, none⟩)] w fun e w' => ∃ d2 own2, e = .returned (.pointer (some ⟨d2, 0, none⟩)) ∧ DiskAt w' d2 D.copy own2 ∧ Below w.heap.size w w' ∧ (∀ k, k < w.heap.size → own2 k = none) := by
  have hmm := @run_makeMap Try.prog
  have h0 := h.c0
  have h1 := h.c1
  have hown := h.map
  have hL := Lib.hid h
  have hmlt := h.mlt
  clear h
  have hdlt := hL.out.dlt
  have hm0 : ((w.alloc (.map #[] 0)).alloc (.cells #[.int .i64 (D.room : Int), .map (some w.heap.size), .bool false, .int .i64 0] 76)).ownsMap Try.prog 9 ptrR m L.length (dm fbD L) := (hown.alloc _).alloc _
  have hnew : DiskIn ((w.alloc (.map #[] 0)).alloc (.cells #[.int .i64 (D.room : Int), .map (some w.heap.size), .bool false, .int .i64 0] 76)) (w.heap.size + 1) w.heap.size 0 [] (fun k => if k = w.heap.size + 1 then some (0, []) else if k = w.heap.size then some (1, []) else none) { D.copy with files := [] } := by
    have hs : (w.alloc (.map #[] 0)).heap.size = w.heap.size + 1 := by simp
    refine ⟨?_, fun k hk => (by cases hk), ?_, rfl, srt_nil, fun p hp => by simp at hp, by simp, by simp, fun k t hk => ?_, ?_⟩
    · have := new_block (w.alloc (.map #[] 0)) (.cells #[.int .i64 (D.room : Int), .map (some w.heap.size), .bool false, .int .i64 0] 76)
      rw [hs] at this
      exact this
    · exact (World.ownsMap_made w Try.prog 9 ptrR).alloc _
    · split at hk
      · simp; omega
      · split at hk
        · simp; omega
        · cases hk
    · have := ok_seen hL.out.ok fun _ => true
      rw [seen_start fun _ _ => rfl] at this
      exact this
  have hsz2 : ((w.alloc (.map #[] 0)).alloc (.cells #[.int .i64 (D.room : Int), .map (some w.heap.size), .bool false, .int .i64 0] 76)).heap.size = w.heap.size + 2 := by simp
  have hb2 : Below w.heap.size w ((w.alloc (.map #[] 0)).alloc (.cells #[.int .i64 (D.room : Int), .map (some w.heap.size), .bool false, .int .i64 0] 76)) := ((Below.refl _ _).alloc (Nat.le_refl _) _).alloc (by simp) _
  have HN := Lib.hid (And.intro hnew (And.intro hsz2 (And.intro hb2 hm0)))
  clear hnew hsz2 hb2 hm0
  go_enter Try.func33, Try.ntmps33
  go_wp2_with (first | (at_range; refine wpList_range_own _ rfl _ 74 rfl 9 78 keyLaw Try.underlying74 ptrR m L.length (dm fbD L) rfl HN.out.2.2.2 ?_; intro w0 hrg0 hg0 hs0))
  simp only [World.size_alloc] at hrg0 hs0
  go_loopw [4, 5] (fun _ _ wr => CopyRel w m L D (w.heap.size + 1) (w.heap.size + 1 + 1) wr) (fun _ _ wr => wr.rangeLeft m (w.heap.size + 1 + 1))
  case atStart =>
    refine ⟨_, _, w.heap.size, [], fun k => if k = w.heap.size + 1 then some (0, []) else if k = w.heap.size then some (1, []) else none, hrg0, ?_, ((Chg.of_below HN.out.2.2.1).trans (Chg.of_grown hg0) fun _ _ e => by cases e).below (Nat.le_refl _) fun _ _ => id, fun k hk => ?_, ?_⟩
    rotate_left
    · show (if k = w.heap.size + 1 then some ((0 : Nat), ([] : Bs)) else if k = w.heap.size then some (1, []) else none) = none
      rw [if_neg (by omega), if_neg (by omega)]
    · show (if w.heap.size + 1 + 1 = w.heap.size + 1 then some ((0 : Nat), ([] : Bs)) else if w.heap.size + 1 + 1 = w.heap.size then some (1, []) else none) = none
      rw [if_neg (by omega), if_neg (by omega)]
    · have hd := HN.out.1.chg (Chg.of_grown hg0) (fun _ e => by cases e)
      have e1 : seen (Maps.has (dm fbD L)) D.files = [] := seen_start fun p hp => by
        rw [hL.out.files] at hp
        obtain ⟨q, hq, rfl⟩ := List.mem_map.1 hp
        show Maps.has (dm fbD L) (.string q.1) = true
        rw [dm_has, get_of_mem hL.out.srt hq]
        rfl
      rw [e1]
      exact hd
  case round =>
    obtain ⟨rest, cnt, m2, L2, own2, hrg, hd, hb, hn, hit⟩ := hrel.ex
    clear hrg0 hg0 hs0 hown hrel
    go_wp2_with (first | (at_next; refine wpList_next_ptr _ rfl _ rfl 9 Try.underlying9 keyLaw FRep.fb L m (w.heap.size + 1 + 1) L.length _ _ rfl hrg ?_ ?_))
    · intro hl
      rw [seen_end hl] at hd
      have hfin := Lib.hid (And.intro (show DiskAt wr (w.heap.size + 1) D.copy own2 from ⟨m2, 0, L2, hd⟩) (And.intro hb hn))
      clear hd hb hn hl hrg hit
      go_wp2
      go_ret
      exact ⟨_, own2, rfl, hfin.out⟩
    · intro s x w1 cnt1 hgt hl hs hrg1 hlt hg1 hs1 hen
      have hd1 := hd.chg (Chg.of_grown hg1) (fun k e => by cases e; exact hit)
      have hit1 : w.heap.size + 1 + 1 < wr.heap.size := hrg.lt
      have hb1 : Below w.heap.size w w1 := ((Chg.of_below hb).trans (Chg.of_grown hg1) fun k hk e => by cases e; omega).below (Nat.le_refl _) fun _ _ => id
      have hx := (hL.out.chg (Chg.of_below hb1) fun _ e => e.elim).fileAt (n := nm s) hgt
      have hxl := data_le hL.out (n := nm s) hgt
      have hc0 := cell_of (i := 0) hx.cells rfl
      have hc1 := cell_of (i := 1) hx.cells rfl
      have hd2c := hd1.c1
      obtain ⟨pv, cv, ev⟩ := hx.row.slice
      rw [ev] at hc0
      have hS : (fun w' : World => w'.cell? ⟨w.heap.size + 1, 1, none⟩ = some (.map (some m2)) ∧ w'.cell? ⟨x.fb, 0, none⟩ = some (.slice pv x.f.data.length cv) ∧ w'.cell? ⟨x.fb, 1, none⟩ = some (.int .i64 (x.f.lasts : Int))) w1.drew := ⟨hd2c, hc0, hc1⟩
      have hrow : HasB w1.drew (.slice pv x.f.data.length cv) x.f.data := by
        rw [← ev]
        exact (hx.row.keep (w' := w1.drew) fun _ _ => rfl).has
      have hkeep : ∀ W, Below w1.drew.heap.size w1.drew W → W.cell? ⟨w.heap.size + 1, 1, none⟩ = some (.map (some m2)) ∧ W.cell? ⟨x.fb, 0, none⟩ = some (.slice pv x.f.data.length cv) ∧ W.cell? ⟨x.fb, 1, none⟩ = some (.int .i64 (x.f.lasts : Int)) := fun W hB =>
        ⟨(hB.cell (World.block_lt_of_cell? w1.drew ⟨w.heap.size + 1, 1, none⟩ hS.1)).trans hS.1, (hB.cell (World.block_lt_of_cell? w1.drew ⟨x.fb, 0, none⟩ hS.2.1)).trans hS.2.1, (hB.cell (World.block_lt_of_cell? w1.drew ⟨x.fb, 1, none⟩ hS.2.2)).trans hS.2.2⟩
      have hdW : DiskIn w1.drew (w.heap.size + 1) m2 0 L2 own2 { D.copy with files := seen rest D.files } := hd1.keep (Nat.le_refl _) fun _ _ => rfl
      have hrgW : w1.drew.ranges Try.prog 9 ptrR m (w.heap.size + 1 + 1) L.length (dm fbD L) (fun z => rest z && !z.sameKey (.string (nm s))) cnt1 := hrg1
      have hbW : Below w.heap.size w w1.drew := hb1.trans (Below.refl _ _).drew
      have hclone := clone_calls hrow (by omega)
      have hgD : Sat.get (nm s) D.files = some x.f := by rw [hL.out.files, mp_get, show Sat.get (nm s) L = some x from hgt]; rfl
      have hg2 : Sat.get (nm s) L2 = none := by
        have e1 : Sat.get (nm s) (mp FRep.f L2) = none := by
          rw [← hd1.files]
          show Sat.get (nm s) (seen rest D.files) = none
          exact (seen_get hL.out.ok.srt _).trans (if_pos hl)
        rw [mp_get] at e1
        cases h9 : Sat.get (nm s) L2 with
        | none => rfl
        | some y => rw [h9] at e1; cases e1
      have HS := Lib.hid hS
      have Hkeep := Lib.hid hkeep
      have HdW := Lib.hid hdW
      have HrgW := Lib.hid hrgW
      have HbW := Lib.hid hbW
      have Hcl := Lib.hid hclone
      have HgD := Lib.hid hgD
      have Hg2 := Lib.hid hg2
      have Hlt := Lib.hid (And.intro hlt hit1)
      have Hfb := Lib.hid (hL.out.olt x.fb _ (hL.out.fileAt (n := nm s) hgt).ob)
      have Hdm := Lib.hid hdW.dm_ne
      have Hit := Lib.hid hit
      have Hn := Lib.hid hn
      have Hrg := Lib.hid hrg
      have HsS := Lib.hid hs1
      clear hc0 hc1 hd2c hd1 hb1 hx hS hkeep hrow hdW hrgW hbW hclone hgD hg2 hrg1 hlt hg1 hgt hl ev hd hb hn hit hit1 hrg hs1
      go_wp2_with fail
      refine ord_start (fun w' : World => w'.cell? ⟨w.heap.size + 1, 1, none⟩ = some (.map (some m2)) ∧ w'.cell? ⟨x.fb, 0, none⟩ = some (.slice pv x.f.data.length cv) ∧ w'.cell? ⟨x.fb, 1, none⟩ = some (.int .i64 (x.f.lasts : Int))) (n := 17) (by kernel_rfl) rfl HS.out (fun hHeld => ?_)
      generalize w1.drew = W1 at *
      refine ord_take 0 (v := ?v7x0) rfl (by kernel_rfl) (by kernel_rfl) (by kernel_rfl) (fun _ _ _ h => h) (by rfl) (by assumption) ?y7x0 ?_
      case y7x0 => (intro w hSw; (try dsimp only at hSw); go_simp; try with_reducible rfl)
      simp only [Act.put, List.setIfInBounds_toArray, List.set_cons_zero, List.set_cons_succ]
      refine ord_take 1 (v := ?v7x1) rfl (by kernel_rfl) (by kernel_rfl) (by kernel_rfl) (fun _ _ _ h => h) (by rfl) (by assumption) ?y7x1 ?_
      case y7x1 => (intro w hSw; (try dsimp only at hSw); go_simp; try with_reducible rfl)
      simp only [Act.put, List.setIfInBounds_toArray, List.set_cons_zero, List.set_cons_succ]
      refine ord_take 2 (v := ?v7x2) rfl (by kernel_rfl) (by kernel_rfl) (by kernel_rfl) (fun _ _ _ h => h) (by rfl) (by assumption) ?y7x2 ?_
      case y7x2 => (intro w hSw; (try dsimp only at hSw); go_simp; try with_reducible rfl)
      simp only [Act.put, List.setIfInBounds_toArray, List.set_cons_zero, List.set_cons_succ]
      refine ord_take 3 (v := ?v7x3) rfl (by kernel_rfl) (by kernel_rfl) (by kernel_rfl) (fun _ _ _ h => h) (by rfl) (by assumption) ?y7x3 ?_
      case y7x3 => (intro w hSw; (try dsimp only at hSw); go_simp; try with_reducible rfl)
      simp only [Act.put, List.setIfInBounds_toArray, List.set_cons_zero, List.set_cons_succ]
      refine ord_take 4 (v := ?v7x4) rfl (by kernel_rfl) (by kernel_rfl) (by kernel_rfl) (fun _ _ _ h => h) (by rfl) (by assumption) ?y7x4 ?_
      case y7x4 => (intro w hSw; (try dsimp only at hSw); go_simp; try with_reducible rfl)
      simp only [Act.put, List.setIfInBounds_toArray, List.set_cons_zero, List.set_cons_succ]
      refine ord_take 5 (v := ?v7x5) rfl (by kernel_rfl) (by kernel_rfl) (by kernel_rfl) (fun _ _ _ h => h) (by rfl) (by assumption) ?y7x5 ?_
      case y7x5 => (intro w hSw; (try dsimp only at hSw); go_simp; try with_reducible rfl)
      simp only [Act.put, List.setIfInBounds_toArray, List.set_cons_zero, List.set_cons_succ]
      refine ord_take 6 (v := ?v7x6) rfl (by kernel_rfl) (by kernel_rfl) (by kernel_rfl) (fun _ _ _ h => h) (by rfl) (by assumption) ?y7x6 ?_
      case y7x6 => (intro w hSw; (try dsimp only at hSw); go_simp; try with_reducible rfl)
      simp only [Act.put, List.setIfInBounds_toArray, List.set_cons_zero, List.set_cons_succ]
      refine ord_take 7 (v := ?v7x7) rfl (by kernel_rfl) (by kernel_rfl) (by kernel_rfl) (fun _ _ _ h => h) (by rfl) (by assumption) ?y7x7 ?_
      case y7x7 => (intro w hSw; (try dsimp only at hSw); go_simp; try with_reducible rfl)
      simp only [Act.put, List.setIfInBounds_toArray, List.set_cons_zero, List.set_cons_succ]
      refine ord_take 8 (v := ?v7x8) rfl (by kernel_rfl) (by kernel_rfl) (by kernel_rfl) (fun _ _ _ h => h) (by rfl) (by assumption) ?y7x8 ?_
      case y7x8 => (intro w hSw; (try dsimp only at hSw); go_simp; try with_reducible rfl)
      simp only [Act.put, List.setIfInBounds_toArray, List.set_cons_zero, List.set_cons_succ]
      refine ord_take 10 (v := ?v7x10) rfl (by kernel_rfl) (by kernel_rfl) (by kernel_rfl) (fun _ _ _ h => h) (by rfl) (by assumption) ?y7x10 ?_
      case y7x10 => (intro w hSw; (try dsimp only at hSw); go_simp; try with_reducible rfl)
      simp only [Act.put, List.setIfInBounds_toArray, List.set_cons_zero, List.set_cons_succ]
      refine ord_take 11 (v := ?v7x11) rfl (by kernel_rfl) (by kernel_rfl) (by kernel_rfl) (fun _ _ _ h => h) (by rfl) (by assumption) ?y7x11 ?_
      case y7x11 => (intro w hSw; (try dsimp only at hSw); go_simp; try with_reducible rfl)
      simp only [Act.put, List.setIfInBounds_toArray, List.set_cons_zero, List.set_cons_succ]
      refine ord_take 12 (v := ?v7x12) rfl (by kernel_rfl) (by kernel_rfl) (by kernel_rfl) (fun _ _ _ h => h) (by rfl) (by assumption) ?y7x12 ?_
      case y7x12 => (intro w hSw; (try dsimp only at hSw); go_simp; try with_reducible rfl)
      simp only [Act.put, List.setIfInBounds_toArray, List.set_cons_zero, List.set_cons_succ]
      refine ord_take 13 (v := ?v7x13) rfl (by kernel_rfl) (by kernel_rfl) (by kernel_rfl) (fun _ _ _ h => h) (by rfl) (by assumption) ?y7x13 ?_
      case y7x13 => (intro w hSw; (try dsimp only at hSw); go_simp; try with_reducible rfl)
      simp only [Act.put, List.setIfInBounds_toArray, List.set_cons_zero, List.set_cons_succ]
      refine ord_one 9 rfl (by kernel_rfl) (by rfl) (fun K hK => ?_)
      go_wp2_with fail
      refine Hcl.out.mono ?_
      rintro e W2 ⟨v2, rfl, hv2, hn2, hb2⟩
      obtain ⟨p2, c2, rfl⟩ := OwnB.slice hv2
      have H2 := Lib.hid (And.intro hv2 (And.intro hn2 hb2))
      clear hv2 hn2 hb2 Hcl
      go_wp2_with fail
      refine hK.out _ _ (Hkeep.out _ H2.out.2.2) (fun hHeld => ?_)
      clear hK
      try simp only [Act.put, List.setIfInBounds_toArray, List.set_cons_zero, List.set_cons_succ]
      refine ord_take 14 (v := ?v7x14) rfl (by kernel_rfl) (by kernel_rfl) (by kernel_rfl) (fun _ _ _ h => h) (by rfl) (by assumption) ?y7x14 ?_
      case y7x14 => (intro w hSw; (try dsimp only at hSw); go_simp; try with_reducible rfl)
      simp only [Act.put, List.setIfInBounds_toArray, List.set_cons_zero, List.set_cons_succ]
      refine ord_one 15 rfl (by kernel_rfl) (by rfl) (fun K hK => ?_)
      go_wp2_with fail
      have hsz2 := H2.out.2.2.size
      have hmap2 : (W2.alloc (.cells #[.slice p2 x.f.data.length c2, .int .i64 (x.f.lasts : Int)] 80)).ownsMap Try.prog 9 ptrR m2 L2.length (dm fbD L2) := (HdW.out.chg (Chg.of_below H2.out.2.2) fun _ e => e.elim).map.alloc _
      have hL2 : L2.length < maxLen := by
        have e1 : (seen rest D.files).length = L2.length := HdW.out.len
        have e2 : (seen rest D.files).length ≤ D.files.length := List.length_filter_le _ _
        have e3 := hL.out.ok.count
        unfold maxLen
        omega
      have hm2lt : m2 < W1.heap.size := HdW.out.mlt
      have hbA := ((Below.refl W2.heap.size W2).alloc (Nat.le_refl _) (.cells #[.slice p2 x.f.data.length c2, .int .i64 (x.f.lasts : Int)] 80))
      have HA := Lib.hid (And.intro hmap2 (And.intro hL2 (And.intro hsz2 hm2lt)))
      have HB12 := Lib.hid (H2.out.2.2.trans (hbA.mono hsz2))
      have Hnew2 := Lib.hid (new_block W2 (.cells #[.slice p2 x.f.data.length c2, .int .i64 (x.f.lasts : Int)] 80))
      clear hmap2 hL2 hsz2 hm2lt hbA
      refine hK.out _ _ (Hkeep.out _ HB12.out) (fun hHeld => ?_)
      clear hK
      try simp only [Act.put, List.setIfInBounds_toArray, List.set_cons_zero, List.set_cons_succ]
      refine ord_one 16 rfl (by kernel_rfl) (by rfl) (fun K hK => ?_)
      refine wp_mapUpd (.tmp 28) (.tmp 29) (.tmp 40) 74 rfl 9 78 keyLaw Try.underlying74 ptrR m2 L2.length (dm fbD L2) rfl HA.out.1 HA.out.2.1 _ _ _ rfl rfl (WideMaps.keyOf_string_mk Try.underlying9 hs) (.held W2.heap.size) [] rfl ?_
      intro W4 hown4 hg4
      have HE := copy_round hL.out.ok hmlt HdW.out HrgW.out HbW.out Hn.out Hit.out H2.out.1 H2.out.2.1 H2.out.2.2 HgD.out Hg2.out hown4 hg4
      have hcl : ∀ a : Addr, a.block ≠ m2 → a.block < W1.heap.size → W4.cell? a = W1.cell? a := HE.2.1
      have hfm : x.fb ≠ m2 := by
        have h1 := Hfb.out
        have h2 := HE.2.2
        omega
      have hsw := HbW.out.size
      have hfb := Hfb.out
      refine hK.out _ _ ⟨(hcl ⟨w.heap.size + 1, 1, none⟩ Hdm.out HdW.out.dlt).trans HS.out.1, (hcl ⟨x.fb, 0, none⟩ hfm (Nat.lt_of_lt_of_le hfb hsw)).trans HS.out.2.1, (hcl ⟨x.fb, 1, none⟩ hfm (Nat.lt_of_lt_of_le hfb hsw)).trans HS.out.2.2⟩ (fun hHeld => ?_)
      clear hK
      try simp only [Act.put, List.setIfInBounds_toArray, List.set_cons_zero, List.set_cons_succ]
      refine wpAnyH_done (by kernel_rfl) ?_ _
      go_wp2_with fail
      go_roundw
      case rel => exact HE.1.1
      case measure => rw [HE.1.2, Hrg.out.left_eq]; exact Hlt.out.1
end
end Go.Proofs.Ytdlbamhabenhgaa

namespace Go.Proofs.Ytdlbamhabenhgaa
open Go.RowKit Go.Sat Go.Maps

def Two (w w1 : World) (da : Nat) (DA : DiskM) (db : Nat) (DB : DiskM) : Prop :=
  ∃ ownA ownB, DiskAt w1 da DA ownA ∧ DiskAt w1 db DB ownB ∧ Below w.heap.size w w1 ∧ (∀ k, ownA k = none ∨ ownB k = none) ∧ ∀ k, k < w.heap.size → ownA k = none ∧ ownB k = none

section
variable {w w1 w2 : World} {da db : Nat} {DA DB : DiskM}

theorem Two.swap (h : Two w w1 da DA db DB) : Two w w1 db DB da DA := by
  obtain ⟨ownA, ownB, hA, hB, hb, hd, hn⟩ := h
  exact ⟨ownB, ownA, hB, hA, hb, fun k => (hd k).symm, fun k hk => ⟨(hn k hk).2, (hn k hk).1⟩⟩

theorem Two.below (h : Two w w1 da DA db DB) : Below w.heap.size w w1 := let ⟨_, _, _, _, hb, _⟩ := h; hb

theorem at_lt {own : Own} {D : DiskM} {d : Nat} (h : DiskAt w1 d D own) {k : Nat} (hk : Has own k) : k < w1.heap.size := by
  by_cases e : k < w1.heap.size
  · exact e
  · exact (hk (own_new h (by omega))).elim

/-- One of the two, the other one's blocks set apart. -/
theorem Two.open (h : Two w w1 da DA db DB) : ∃ ownB, DiskAt w1 db DB ownB ∧ (∀ k, k < w.heap.size → ownB k = none) ∧ St w w1 da DA (Has ownB) := by
  obtain ⟨ownA, ownB, hA, hB, hb, hd, hn⟩ := h
  refine ⟨ownB, hB, fun k hk => (hn k hk).2, ownA, hA, hb, fun k hk => ?_, fun k hk => at_lt hB hk⟩
  rcases hk with hk | hk
  · exact (hn k hk).1
  · rcases hd k with h1 | h1
    · exact h1
    · exact (hk h1).elim

theorem Two.close {ownB : Own} (hB : DiskAt w1 db DB ownB) (hn : ∀ k, k < w.heap.size → ownB k = none) (h : St w w1 da DA (Has ownB)) : Two w w1 da DA db DB := by
  obtain ⟨ownA, hA, hb, hnn, _⟩ := h
  refine ⟨ownA, ownB, hA, hB, hb, fun k => ?_, fun k hk => ⟨hnn k (.inl hk), hn k hk⟩⟩
  by_cases e : ownB k = none
  · exact .inr e
  · exact .inl (hnn k (.inr e))

theorem DiskIn.keepAt {w w' : World} {d m : Nat} {left : Int} {L : List (Bs × FRep)} {own : Own} {D : DiskM} (h : DiskIn w d m left L own D) (hb : ∀ k, Has own k → w'.heap[k]? = w.heap[k]?) (hlt : ∀ k, Has own k → k < w'.heap.size) : DiskIn w' d m left L own D where
  cells := (hb d (by unfold Has; rw [h.od]; simp)).trans h.cells
  left := h.left
  map := by
    obtain ⟨es, clock, hm, r⟩ := h.map
    exact ⟨es, clock, (hb m (by unfold Has; rw [h.om]; simp)).trans hm, r⟩
  files := h.files
  srt := h.srt
  file p hp := (h.file p hp).keep hb
  od := h.od
  om := h.om
  olt k t hk := hlt k (by unfold Has; rw [hk]; simp)
  ok := h.ok

theorem at_same {own : Own} {D : DiskM} {d : Nat} (h : DiskAt w1 d D own) (hs : Same (Has own) w1 w2) (hsz : w1.heap.size ≤ w2.heap.size) : DiskAt w2 d D own := by
  obtain ⟨m, left, L, h⟩ := h
  exact ⟨m, left, L, h.keep hsz fun k hk => hs k hk⟩

theorem Two.next (h : Two w w1 da DA db DB) (hb : Below w1.heap.size w1 w2) : Two w w2 da DA db DB := by
  obtain ⟨ownB, hB, hn, hS⟩ := h.open
  exact Two.close (hB.chg (Chg.of_below hb) fun _ h => h.elim) hn (hS.next hb)

theorem Two.alloc (h : Two w w1 da DA db DB) (o : Obj) : Two w (w1.alloc o) da DA db DB := h.next ((Below.refl _ _).alloc (Nat.le_refl _) o)

/-- The two, behind a call of one of the five on the first of them. -/
def Told2 (w : World) (da : Nat) (db : Nat) (DB : DiskM) (r : DiskM × Nat) (e : Ending) (w' : World) : Prop := e = .returned (.int .i64 (r.2 : Int)) ∧ Two w w' da r.1 db DB

theorem two_told (h : Two w w1 da DA db DB) {f : FuncId} {args : Array Value} {wc : World} {r : DiskM × Nat} (hbc : Below w1.heap.size w1 wc)
    (hc : ∀ F, St w w1 da DA F → Calls Try.prog f args wc (Told w da F wc r)) : Calls Try.prog f args wc (Told2 w da db DB r) := by
  obtain ⟨ownB, hB, hn, hS⟩ := h.open
  have hBc : DiskAt wc db DB ownB := hB.chg (Chg.of_below hbc) fun _ h => h.elim
  refine (hc _ hS).mono ?_
  rintro e w' ⟨rfl, hS', hsame⟩
  refine ⟨rfl, Two.close ?_ hn hS'⟩
  obtain ⟨m, left, L, hi⟩ := hBc
  exact ⟨m, left, L, hi.keepAt (fun k hk => hsame k hk) (fun k hk => by
    obtain ⟨ownA, hA, _, hnn, hl⟩ := hS'
    exact hl k hk)⟩

theorem two_told0 (h : Two w w1 da DA db DB) {f : FuncId} {args : Array Value} {D' : DiskM}
    (hc : ∀ F, St w w1 da DA F → Calls Try.prog f args w1 (Told0 w da F w1 D')) : Calls Try.prog f args w1 (fun e w' => e = .returned (.tuple #[]) ∧ Two w w' da D' db DB) := by
  obtain ⟨ownB, hB, hn, hS⟩ := h.open
  refine (hc _ hS).mono ?_
  rintro e w' ⟨rfl, hS', hsame⟩
  refine ⟨rfl, Two.close ?_ hn hS'⟩
  obtain ⟨m, left, L, hi⟩ := hB
  exact ⟨m, left, L, hi.keepAt (fun k hk => hsame k hk) (fun k hk => by
    obtain ⟨ownA, hA, _, hnn, hl⟩ := hS'
    exact hl k hk)⟩
end
end Go.Proofs.Ytdlbamhabenhgaa

namespace Go.Proofs.Ytdlbamhabenhgaa
open Go.RowKit Go.Sat Go.Maps

/-- The pair, and a disk of the program's apart from both. -/
def Three (w w1 : World) (d : Nat) (D : DiskM) (r : Nat) (R : DiskM) (d2 : Nat) (D2 : DiskM) : Prop :=
  ∃ own2, DiskAt w1 d2 D2 own2 ∧ (∀ k, k < w.heap.size → own2 k = none) ∧ PairF w w1 d D r R (Has own2)

/-- A pair, and the elder disk of the program's apart from both. -/
def Four (w w1 : World) (d : Nat) (D : DiskM) (d2 : Nat) (D2 : DiskM) (r2 : Nat) (R2 : DiskM) : Prop :=
  ∃ own2 own3 v L, DiskAt w1 d2 D2 own2 ∧ (∀ k, k < w.heap.size → own2 k = none) ∧ RefIn w1 r2 v L own3 R2 ∧ (∀ k, own3 k → w.heap.size ≤ k ∧ own2 k = none) ∧ St w w1 d D (fun k => Has own2 k ∨ own3 k)

section
variable {w w1 w2 : World} {d d2 r r2 : Nat} {D D2 R R2 : DiskM}

theorem has_ge {own : Own} {k B : Nat} (h : ∀ k, k < B → own k = none) (hk : Has own k) : B ≤ k := by
  by_cases e : k < B
  · exact (hk (h k e)).elim
  · omega

theorem pair_copy (h : Pair w w1 d D r R) :
    Calls Try.prog 33 #[.pointer (some ⟨d, 0, none⟩)] w1 fun e w' => ∃ d2, e = .returned (.pointer (some ⟨d2, 0, none⟩)) ∧ Three w w' d D r R d2 D.copy := by
  obtain ⟨own, v, L, hS, hR, hn⟩ := h
  have hS0 := hS
  obtain ⟨ownD, ⟨m, left, LD, hd⟩, hb, hnn, hl⟩ := hS
  refine (copy_walk hd).mono ?_
  rintro e w' ⟨d2, own2, rfl, hd2, hb2, hn2⟩
  have hs1 := hb.size
  refine ⟨d2, rfl, own2, hd2, fun k hk => hn2 k (Nat.lt_of_lt_of_le hk hs1), own, v, L, hS0.move (Chg.of_below hb2) (fun _ _ h => h.elim) (fun k hk => ?_), hR.below hb2, fun k hk => ⟨hn k hk, fun h => h (hn2 k (hR.olt k hk))⟩, fun k hk => at_lt hd2 hk⟩
  rcases hk with hk | hk
  · exact ⟨.inl hk, Nat.lt_of_lt_of_le (hR.olt k hk) hb2.size⟩
  · exact ⟨.inr (has_ge hn2 hk), at_lt hd2 hk⟩

theorem three_rcopy (h : Three w w1 d D r R d2 D2) :
    Calls Try.prog 34 #[.pointer (some ⟨r, 0, none⟩)] w1 fun e w' => ∃ r2, e = .returned (.pointer (some ⟨r2, 0, none⟩)) ∧ Four w w' d D d2 D2 r2 R.copy := by
  obtain ⟨own2, hd2, hn2, own, v, L, hS, hR, hno, hl⟩ := h
  refine (rcopy_calls hR).mono ?_
  rintro e w' ⟨r2, v2, L2, own3, rfl, hR2, hn3, hb⟩
  have hs1 := hS.below.size
  refine ⟨r2, rfl, own2, own3, v2, L2, hd2.chg (Chg.of_below hb) (fun _ h => h.elim), hn2, hR2, fun k hk => ⟨Nat.le_trans hs1 (hn3 k hk), own_new hd2 (hn3 k hk)⟩, hS.move (Chg.of_below hb) (fun _ _ h => h.elim) (fun k hk => ?_)⟩
  rcases hk with hk | hk
  · exact ⟨.inl (.inr hk), Nat.lt_of_lt_of_le (hl k hk) hb.size⟩
  · exact ⟨.inr (hn3 k hk), hR2.olt k hk⟩

theorem Four.pair (h : Four w w1 d D d2 D2 r2 R2) : Pair w w1 d2 D2 r2 R2 := by
  obtain ⟨own2, own3, v, L, hd2, hn2, hR, h3, hS⟩ := h
  exact ⟨own3, v, L, ⟨own2, hd2, hS.below, fun k hk => hk.elim (hn2 k) fun h => (h3 k h).2, fun k hk => hR.olt k hk⟩, hR, fun k hk => (h3 k hk).1⟩

theorem Four.back {w' : World} {D' : DiskM} {own2 : Own} {own3 : Nat → Prop} {v : Value} {L : List RFile} (hd2 : DiskAt w1 d2 D2 own2) (hn2 : ∀ k, k < w.heap.size → own2 k = none) (hR : RefIn w1 r2 v L own3 R2) (h3 : ∀ k, own3 k → w.heap.size ≤ k ∧ own2 k = none)
    (hS : St w w' d D' (fun k => Has own2 k ∨ own3 k)) (hs : Same (fun k => Has own2 k ∨ own3 k) w1 w') : Four w w' d D' d2 D2 r2 R2 := by
  have hS0 := hS
  refine ⟨own2, own3, v, L, ?_, hn2, RefIn.same hR (hS.less fun _ hk => .inr hk) (fun k hk => hs k (.inr hk)), h3, hS0⟩
  obtain ⟨m, left, LD, hi⟩ := hd2
  obtain ⟨ownD, hd, hb, hnn, hl⟩ := hS
  exact ⟨m, left, LD, hi.keepAt (fun k hk => hs k (.inl hk)) fun k hk => hl k (.inl hk)⟩

theorem four_told {P : Program} {f : FuncId} {args : Array Value} {Re : DiskM × Nat} {wc : World} (h : Four w w1 d D d2 D2 r2 R2) (hb : Below w1.heap.size w1 wc) (hx : ∀ G, St w w1 d D G → Calls P f args wc (Told w d G wc Re)) :
    Calls P f args wc fun e w' => e = .returned (.int .i64 (Re.2 : Int)) ∧ Four w w' d Re.1 d2 D2 r2 R2 := by
  obtain ⟨own2, own3, v, L, hd2, hn2, hR, h3, hS⟩ := h
  refine (hx _ hS).mono ?_
  rintro e w' ⟨rfl, hS', hs⟩
  exact ⟨rfl, Four.back (hd2.chg (Chg.of_below hb) fun _ h => h.elim) hn2 (hR.below hb) h3 hS' hs⟩

theorem four_told0 {P : Program} {f : FuncId} {args : Array Value} {D' : DiskM} (h : Four w w1 d D d2 D2 r2 R2) (hx : ∀ G, St w w1 d D G → Calls P f args w1 (Told0 w d G w1 D')) :
    Calls P f args w1 fun e w' => e = .returned (.tuple #[]) ∧ Four w w' d D' d2 D2 r2 R2 := by
  obtain ⟨own2, own3, v, L, hd2, hn2, hR, h3, hS⟩ := h
  refine (hx _ hS).mono ?_
  rintro e w' ⟨rfl, hS', hs⟩
  exact ⟨rfl, Four.back hd2 hn2 hR h3 hS' hs⟩

theorem Four.next (h : Four w w1 d D d2 D2 r2 R2) (hb : Below w1.heap.size w1 w2) : Four w w2 d D d2 D2 r2 R2 := by
  obtain ⟨own2, own3, v, L, hd2, hn2, hR, h3, hS⟩ := h
  exact ⟨own2, own3, v, L, hd2.chg (Chg.of_below hb) (fun _ h => h.elim), hn2, hR.below hb, h3, hS.next hb⟩

theorem Four.ok (h : Four w w1 d D d2 D2 r2 R2) : D.OK := by
  obtain ⟨_, _, _, _, _, _, _, _, hS⟩ := h
  exact hS.ok
end
end Go.Proofs.Ytdlbamhabenhgaa

namespace Go.Proofs.Ytdlbamhabenhgaa
open Go.RowKit Go.Sat Go.Maps

section
variable {w w1 w2 : World} {d : Nat} {D : DiskM} {r : Nat} {R : DiskM} {F : Nat → Prop} {bx : Nat}

theorem pairf_sync (h : PairF w w1 d D r R F) (s : ByteArray) (hs : s.size ≤ 9223372036854775807) :
    Calls Try.prog 17 #[.pointer (some ⟨d, 0, none⟩), .slice (some ⟨w1.heap.size, 0, none⟩) 1 1] (w1.alloc (.cells #[.string s] 9)) fun e w' => e = .returned (.int .i64 ((D.sync [nm s]).2 : Int)) ∧ PairF w w' d (D.sync [nm s]).1 r R F ∧ Same F w1 w' :=
  pairf_disk h ((Below.refl _ _).alloc (Nat.le_refl _) _) fun _ hS => st_sync hS [s] w1.heap.size 1 rfl (0, 0) (by simp) (by simpa using hs)
theorem pairf_remove (h : PairF w w1 d D r R F) (s : ByteArray) (hs : s.size ≤ 9223372036854775807) :
    Calls Try.prog 23 #[.pointer (some ⟨d, 0, none⟩), .slice (some ⟨w1.heap.size, 0, none⟩) 1 1] (w1.alloc (.cells #[.string s] 9)) fun e w' => e = .returned (.int .i64 ((D.remove [nm s]).2 : Int)) ∧ PairF w w' d (D.remove [nm s]).1 r R F ∧ Same F w1 w' :=
  pairf_disk h ((Below.refl _ _).alloc (Nat.le_refl _) _) fun _ hS => st_remove hS [s] w1.heap.size 1 rfl (0, 0) (by simp) (by simpa using hs)
theorem pairf_trunc (h : PairF w w1 d D r R F) (s : ByteArray) (hs : s.size ≤ 9223372036854775807) (z : Int) (hz : -9223372036854775808 ≤ z) (hz' : z ≤ 9223372036854775807) :
    Calls Try.prog 37 #[.pointer (some ⟨d, 0, none⟩), .string s, .int .i64 z] w1 fun e w' => e = .returned (.int .i64 ((D.truncate (nm s) z).2 : Int)) ∧ PairF w w' d (D.truncate (nm s) z).1 r R F ∧ Same F w1 w' :=
  pairf_disk h (Below.refl _ _) fun _ hS => st_trunc hS s hs z hz hz'
theorem pairf_rename (h : PairF w w1 d D r R F) (o s : ByteArray) (ho : o.size ≤ 9223372036854775807) (hs : s.size ≤ 9223372036854775807) :
    Calls Try.prog 29 #[.pointer (some ⟨d, 0, none⟩), .string o, .string s] w1 fun e w' => e = .returned (.int .i64 ((D.rename (nm o) (nm s)).2 : Int)) ∧ PairF w w' d (D.rename (nm o) (nm s)).1 r R F ∧ Same F w1 w' :=
  pairf_disk h (Below.refl _ _) fun _ hS => st_rename hS o s ho hs
theorem pairf_rsync (h : PairF w w1 d D r R F) (s : ByteArray) (hs : s.size ≤ 9223372036854775807) :
    Calls Try.prog 64 #[.pointer (some ⟨r, 0, none⟩), .string s] w1 fun e w' => e = .returned (.int .i64 ((R.sync [nm s]).2 : Int)) ∧ PairF w w' d D r (R.sync [nm s]).1 F ∧ Same F w1 w' :=
  pairf_ref h fun _ _ _ hR _ => rsync_calls hR s hs
theorem pairf_rremove (h : PairF w w1 d D r R F) (s : ByteArray) (hs : s.size ≤ 9223372036854775807) :
    Calls Try.prog 67 #[.pointer (some ⟨r, 0, none⟩), .string s] w1 fun e w' => e = .returned (.int .i64 ((R.remove [nm s]).2 : Int)) ∧ PairF w w' d D r (R.remove [nm s]).1 F ∧ Same F w1 w' :=
  pairf_ref h fun _ _ _ hR _ => rrem_calls hR s hs
theorem pairf_rtrunc (h : PairF w w1 d D r R F) (s : ByteArray) (hs : s.size ≤ 9223372036854775807) (z : Int) (hz : -9223372036854775808 ≤ z) (hz' : z ≤ 9223372036854775807) :
    Calls Try.prog 65 #[.pointer (some ⟨r, 0, none⟩), .string s, .int .i64 z] w1 fun e w' => e = .returned (.int .i64 ((R.truncate (nm s) z).2 : Int)) ∧ PairF w w' d D r (R.truncate (nm s) z).1 F ∧ Same F w1 w' :=
  pairf_ref h fun _ _ _ hR _ => rtrunc_calls hR s hs z hz hz'
theorem pairf_rrename (h : PairF w w1 d D r R F) (o s : ByteArray) (ho : o.size ≤ 9223372036854775807) (hs : s.size ≤ 9223372036854775807) :
    Calls Try.prog 66 #[.pointer (some ⟨r, 0, none⟩), .string o, .string s] w1 fun e w' => e = .returned (.int .i64 ((R.rename (nm o) (nm s)).2 : Int)) ∧ PairF w w' d D r (R.rename (nm o) (nm s)).1 F ∧ Same F w1 w' :=
  pairf_ref h fun _ _ _ hR _ => rren_calls hR o s ho hs
theorem pairf_fuse (h : PairF w w1 d D r R F) (n : Int) (hn0 : -9223372036854775808 ≤ n) (hn : n ≤ 9223372036854775807) :
    Calls Try.prog 22 #[.pointer (some ⟨d, 0, none⟩), .int .i64 n] w1 fun e w' => e = .returned (.tuple #[]) ∧ PairF w w' d (D.setFuse n) r R F ∧ Same F w1 w' :=
  pairf_disk0 h (Below.refl _ _) fun _ hS => st_fuse hS n hn0 hn
theorem pairf_crash (h : PairF w w1 d D r R F) (n : Int) (hn0 : -9223372036854775808 ≤ n) (hn : n ≤ 9223372036854775807) :
    Calls Try.prog 18 #[.pointer (some ⟨d, 0, none⟩), .int .i64 n] w1 fun e w' => e = .returned (.tuple #[]) ∧ PairF w w' d (D.crash n) r R F ∧ Same F w1 w' :=
  pairf_disk0 h (Below.refl _ _) fun _ hS => st_crash hS n hn0 hn

theorem pairf_read (h : PairF w w1 d D r R F) (s : ByteArray) (hs : s.size ≤ 9223372036854775807) :
    Calls Try.prog 19 #[.pointer (some ⟨d, 0, none⟩), .string s] w1 fun e w' => ∃ v, e = .returned (.tuple #[v, .int .i64 (readE (Sat.get (nm s) D.files))]) ∧ OwnB w' 5 v (dataOf (Sat.get (nm s) D.files)) ∧ (∀ k, v.ownBlock = some k → w1.heap.size ≤ k) ∧ Below w1.heap.size w1 w' ∧ PairF w w' d D r R F := by
  have h0 := h
  obtain ⟨own, v, L, hS, hR, hb, hl⟩ := h
  refine (st_read hS s hs).mono ?_
  rintro e w' ⟨v', rfl, hv, hn, hbl, -⟩
  exact ⟨v', rfl, hv, hn, hbl, h0.next hbl⟩

theorem pairf_rread (h : PairF w w1 d D r R F) (s : ByteArray) :
    Calls Try.prog 48 #[.pointer (some ⟨r, 0, none⟩), .string s] w1 fun e w' => ∃ v, e = .returned (.tuple #[v, .int .i64 (readE (Sat.get (nm s) R.files))]) ∧ OwnB w' 5 v (dataOf (Sat.get (nm s) R.files)) ∧ (∀ k, v.ownBlock = some k → w1.heap.size ≤ k) ∧ Below w1.heap.size w1 w' ∧ PairF w w' d D r R F := by
  have h0 := h
  obtain ⟨own, v, L, hS, hR, hb, hl⟩ := h
  refine (rread_calls hR s).mono ?_
  rintro e w' ⟨v', rfl, hv, hn, hbl⟩
  exact ⟨v', rfl, hv, hn, hbl, h0.next hbl⟩

theorem pair_used (h : Pair w w1 d D r R) :
    Calls Try.prog 21 #[.pointer (some ⟨d, 0, none⟩)] w1 fun e w' => e = .returned (.int .i64 (D.used : Int)) ∧ Below w1.heap.size w1 w' ∧ Pair w w' d D r R := by
  have h0 := h
  obtain ⟨own, v, L, hS, hR, hb⟩ := h
  refine (st_used hS).mono ?_
  rintro e w' ⟨rfl, hbl, -⟩
  exact ⟨rfl, hbl, h0.next hbl⟩

theorem pair_rused (h : Pair w w1 d D r R) :
    Calls Try.prog 68 #[.pointer (some ⟨r, 0, none⟩)] w1 fun e w' => e = .returned (.int .i64 (R.used : Int)) ∧ w' = w1 := by
  obtain ⟨own, v, L, hS, hR, hb⟩ := h
  exact rused_calls hR

/-- What is new may be set apart. -/
theorem PairF.more (h : PairF w w1 d D r R F) (hb : Below w1.heap.size w1 w2) {F' : Nat → Prop} (hF : ∀ k, F' k → F k ∨ w1.heap.size ≤ k ∧ k < w2.heap.size) : PairF w w2 d D r R F' :=
  h.move (Chg.of_below hb) (fun _ _ h => h.elim) fun k hk => by
    rcases hF k hk with h1 | h1
    · exact ⟨.inl h1, Nat.lt_of_lt_of_le (h.flt h1) hb.size⟩
    · exact ⟨.inr h1.1, h1.2⟩

/-- Blocks that are set apart, new since w, are written. -/
theorem PairF.wrote {S : Nat → Prop} (h : PairF w w1 d D r R F) (hc : Chg S w1 w2) (hS : ∀ k, S k → F k ∧ w.heap.size ≤ k) : PairF w w2 d D r R F :=
  h.move hc (fun k _ hs => hS k hs) fun _ hk => ⟨.inl hk, Nat.lt_of_lt_of_le (h.flt hk) hc.size⟩
end
end Go.Proofs.Ytdlbamhabenhgaa

namespace Go.Proofs.Ytdlbamhabenhgaa
open Go.RowKit Go.Sat Go.Maps

/-- Bytes in a list of their own, a mark behind them, and room. -/
def Roomy (w : World) (l : Bs) (n : Nat) (e : Ending) (w' : World) : Prop :=
  ∃ p c, e = .returned (.slice p (n + 1) c) ∧ OwnB w' 5 (.slice p (n + 1) c) (l ++ [171]) ∧ (∀ k, (Value.slice p (n + 1) c).ownBlock = some k → w.heap.size ≤ k) ∧ Below w.heap.size w w' ∧ n + 2 ≤ c

theorem own_less {w : World} {e : TypeId} {p : Option Addr} {n c : Nat} {l : Bs} (h : OwnB w e (.slice p n c) l) {y : Nat} (hy : y ≤ l.length) : OwnB w e (.slice p y c) (l.take y) := by
  have hl : (l.take y).length = y := by rw [List.length_take]; omega
  unfold OwnB
  rw [hl]
  refine ⟨by rw [bytesV_len, hl]; omega, ?_⟩
  rcases h.2 with ⟨e1, hn⟩ | ⟨g, cap, cur, e1, hg, hnc, hcm, hcs, ht⟩
  · cases e1
    have hy0 : y = 0 := by omega
    subst hy0
    exact .inl ⟨rfl, rfl⟩
  · cases e1
    refine .inr ⟨g, _, cur, rfl, hg, by omega, hcm, hcs, ?_⟩
    rw [bytesV_take, ← ht, List.take_take]
    congr 1
    omega

theorem own_cap {w : World} {e : TypeId} {p : Option Addr} {n c : Nat} {l : Bs} (h : OwnB w e (.slice p n c) l) : n ≤ c := by
  rcases h.2 with ⟨e1, hn⟩ | ⟨g, cap, cur, e1, hg, hnc, hcm, hcs, ht⟩
  · cases e1
    exact Nat.le_refl _
  · cases e1
    exact hnc

/-- A mark in a block of its own. -/
def markO (z : Nat) : Obj := .cells #[.int .u8 (z : Int)] 5 (0, 0)
theorem mark_own {w : World} {e : TypeId} {v : Value} {n : Nat} {xs : List Value} (h : OwnR w e 1 v n xs) (o : Obj) : OwnR (w.alloc o) e 1 v n xs := h.keep fun _ hk => heap_alloc_old w _ (OwnR.lt h hk)
theorem mark_has (w : World) (z : UInt8) : Holds (w.alloc (.cells #[.int .u8 (z.toNat : Int)] 5)) 1 (.slice (some ⟨w.heap.size, 0, none⟩) 1 1) 1 (bytesV [z]) := (own_lit #[.int .u8 (z.toNat : Int)] [z] 5 rfl 1 rfl (by decide)).has

theorem own_cap3 {w : World} {e : TypeId} {size : Nat} {p : Option Addr} {n c : Nat} {xs : List Value} (h : OwnR w e size (.slice p n c) n xs) : n ≤ c := by
  rcases h.2 with ⟨e1, hn⟩ | ⟨g, cap, cur, e1, hg, hnc, hcm, hcs, ht⟩
  · cases e1
    exact Nat.le_refl _
  · cases e1
    exact hnc

set_option maxRecDepth 100000 in
set_option maxHeartbeats 4000000 in
theorem roomy3_calls {w : World} {p : Option Addr} {n c : Nat} {l : Bs} (hx : HasB w (.slice p n c) l) (hl : l.length ≤ 140737488355000) :
    Calls Try.prog 61 #[.slice p n c] w (Roomy w l n) := by
  obtain ⟨i0, hi, hz0, hz1, hz2⟩ := info_parts (show (Try.prog.info? 5).map (fun i => (i.zero, i.size, i.bytes)) = some (some (.int .u8 0), 1, 1) by kernel_rfl)
  have hn : n = l.length := by obtain ⟨_, _, e⟩ := hx.slice; simp only [Value.slice.injEq] at e; exact e.2.1
  subst hn
  have hx1 : Holds (w.alloc (.cells #[] 5)) 1 (.slice p l.length c) l.length (bytesV l) := has_alloc hx _
  have ho : OwnR (w.alloc (.cells #[] 5)) 5 1 (.slice (some ⟨w.heap.size, 0, none⟩) 0 0) 0 [] := own_lit #[] [] 5 rfl 0 rfl (by decide)
  have hb : Below w.heap.size w (w.alloc (.cells #[] 5)) := (Below.refl _ _).alloc (Nat.le_refl _) _
  have HA := Lib.hid (And.intro hx1 (And.intro ho hb))
  clear hx hx1 ho hb
  generalize hL : l.length = n at *
  have HL := Lib.hid hL
  clear hL
  go_enter Try.func61, Try.ntmps61
  go_wp2_with (first | (at_builtin; (have hs := HA.out.2.1; have hxx := HA.out.1; refine wpList_app _ rfl (.tmp 3) (.tmp 4) 23 rfl 5 i0 (.int .u8 0) 1 1 Try.underlying23 hi hz0 hz1 hz2 rfl (by decide) (.slice (some ⟨w.heap.size, 0, none⟩) 0 0) 0 _ rfl hs (.slice p n c) n _ rfl hxx (bytesV_one _) (by unfold maxLen; omega) (by omega) ?_; clear hs hxx; intro v1 w1 hown1 hgrow1 hloc1; rw [Nat.zero_add, List.nil_append] at hown1; have hB := HA.out.2.2; have hX := hB.grown hgrow1 hB.size (fun j e => (fun k hk => by cases hk; exact Nat.le_refl _) j e); have hnew := own_ge (B := w.heap.size) hloc1 (fun k hk => by cases hk; exact Nat.le_refl _) hB.size; obtain ⟨p1, c1, rfl⟩ := OwnR.shape hown1; have X1 := Lib.hid (And.intro hX (And.intro hown1 hnew)); clear hB hown1 hgrow1 hloc1 hX hnew)) | (at_builtin; have hs := mark_own X1.out.2.1 (.cells #[.int .u8 171] 5); have hxx := mark_has w1 171; refine wpList_app _ rfl (.tmp 5) (.tmp 6) 23 rfl 5 i0 (.int .u8 0) 1 1 Try.underlying23 hi hz0 hz1 hz2 rfl (by decide) (.slice p1 n c1) n _ rfl hs (.slice (some ⟨w1.heap.size, 0, none⟩) 1 1) 1 _ rfl hxx (bytesV_one _) (by unfold maxLen; omega) (by omega) ?_; clear hs hxx; intro v2 w2 hown2 hgrow2 hloc2; have hB := X1.out.1.alloc X1.out.1.size (.cells #[.int .u8 171] 5); have hX := hB.grown hgrow2 hB.size (fun j e => X1.out.2.2 j e); have hnew := own_ge (B := w.heap.size) hloc2 X1.out.2.2 hB.size; obtain ⟨p2, c2, rfl⟩ := OwnR.shape hown2; have X2 := Lib.hid (And.intro hX (And.intro hown2 hnew)); clear hB hown2 hgrow2 hloc2 hX hnew) | (at_builtin; have hs := mark_own X2.out.2.1 (.cells #[.int .u8 171] 5); have hxx := mark_has w2 171; refine wpList_app _ rfl (.tmp 7) (.tmp 8) 23 rfl 5 i0 (.int .u8 0) 1 1 Try.underlying23 hi hz0 hz1 hz2 rfl (by decide) (.slice p2 (n + 1) c2) (n + 1) _ rfl hs (.slice (some ⟨w2.heap.size, 0, none⟩) 1 1) 1 _ rfl hxx (bytesV_one _) (by unfold maxLen; omega) (by omega) ?_; clear hs hxx; intro v3 w3 hown3 hgrow3 hloc3; have hB := X2.out.1.alloc X2.out.1.size (.cells #[.int .u8 171] 5); have hX := hB.grown hgrow3 hB.size (fun j e => X2.out.2.2 j e); have hnew := own_ge (B := w.heap.size) hloc3 X2.out.2.2 hB.size; obtain ⟨p3, c3, rfl⟩ := OwnR.shape hown3; have hsl : ∀ W, (Instr.slice 23 (.slice p3 (n + 1 + 1) c3) none (some (.int .i64 ((n : Int) + 1))) none).run Try.prog W = .ok (.slice p3 (n + 1) c3) W := (fun W => run_upto W Try.underlying23 hi p3 _ c3 (n + 1) (by have h9 := own_cap3 hown3; omega)); have X3 := Lib.hid (And.intro hX (And.intro hown3 hnew)); clear hB hown3 hgrow3 hloc3 hX hnew))
  have ho3 : OwnB w3 5 (.slice p3 (n + 1 + 1) c3) (l ++ [171] ++ [171]) := by
    unfold OwnB
    rw [bytesV_app, bytesV_app, List.length_append, List.length_append, HL.out, List.length_singleton]
    have := X3.out.2.1
    simpa only [List.nil_append, Nat.zero_add] using this
  have ho4 := own_less ho3 (y := n + 1) (by rw [List.length_append, List.length_append, HL.out]; simp)
  have e4 : (l ++ [171] ++ [171]).take (n + 1) = l ++ [171] := List.take_left' (by rw [List.length_append, HL.out]; rfl)
  rw [e4] at ho4
  have HE := Lib.hid (And.intro ho4 (And.intro X3.out.2.2 (And.intro X3.out.1 (own_cap3 X3.out.2.1))))
  clear ho3 ho4
  go_ret
  exact ⟨p3, c3, rfl, HE.out.1, fun k hk => HE.out.2.1 k ((ownBlock_slice _ _ _ _ _).trans hk), HE.out.2.2.1, by have := HE.out.2.2.2; omega⟩

theorem has_less {w : World} {p : Option Addr} {n c : Nat} {l m : Bs} (h : HasB w (.slice p n c) (l ++ m)) : HasB w (.slice p l.length c) l := by
  obtain ⟨hl, p', c', e, h0, hc⟩ := h
  simp only [Value.slice.injEq] at e
  obtain ⟨rfl, e2, rfl⟩ := e
  refine ⟨by rw [bytesV_len, Nat.mul_one], p, c, rfl, fun hp => ?_, fun a ha i u hu => hc a ha i u ?_⟩
  · have := h0 hp
    rw [List.length_append] at this
    omega
  · have hi := (List.getElem?_eq_some_iff.1 hu).1
    rw [bytesV_app, List.getElem?_append_left hi]
    exact hu

set_option maxRecDepth 100000 in
set_option maxHeartbeats 4000000 in
theorem stands3_calls {w : World} {pw pb : Option Addr} {n cw cb : Nat} {l : Bs} (hx : HasB w (.slice pw (n + 1) cw) (l ++ [171])) (hc : n + 1 ≤ cw) (hy : HasB w (.slice pb n cb) l) (hl : l.length ≤ 140737488355000) :
    Calls Try.prog 62 #[.slice pw (n + 1) cw, .slice pb n cb] w (SamePost w true) := by
  have hn : l.length = n := by obtain ⟨_, _, e⟩ := hy.slice; simp only [Value.slice.injEq] at e; exact e.2.1.symm
  obtain ⟨i0, hi, -, -, -⟩ := info_parts (show (Try.prog.info? 5).map (fun i => (i.zero, i.size, i.bytes)) = some (some (.int .u8 0), 1, 1) by kernel_rfl)
  have hle := has_less hx
  rw [hn] at hle
  rcases hx.at with h0 | ⟨g, o, c2, e2, hcell⟩
  · simp at h0
  simp only [Value.slice.injEq] at e2
  obtain ⟨rfl, -, rfl⟩ := e2
  have hcn : w.cell? ⟨g, o + n, none⟩ = some (.int .u8 171) := hcell n 171 (by rw [List.getElem?_append_right (by omega), hn]; simp)
  have hsm := same_calls hle hy (by omega) (by omega)
  rw [beq_self_eq_true] at hsm
  have hsl : ∀ W, (Instr.slice 23 (.slice (some ⟨g, o, none⟩) (n + 1) cw) none (some (.int .i64 (n : Int))) none).run Try.prog W = .ok (.slice (some ⟨g, o, none⟩) n cw) W := fun W => run_upto W Try.underlying23 hi _ _ cw n (by omega)
  have Hsm := Lib.hid hsm
  have hn1 : n ≤ 140737488355000 := by omega
  clear hx hy hle hcell hsm hl hn hi
  go_enter Try.func62, Try.ntmps62
  go_wp2_with fail
  refine Hsm.out.mono ?_
  rintro e w1 ⟨rfl, q, rfl⟩
  go_wp2_with fail
  go_ret
  exact ⟨rfl, q, rfl⟩

set_option maxRecDepth 100000 in
set_option maxHeartbeats 4000000 in
theorem spoil3_calls {w : World} {v : Value} {l : Bs} (hx : OwnB w 5 v l) (hl : l.length ≤ 140737488355000) :
    Calls Try.prog 63 #[v] w (fun e w' => e = .returned (.tuple #[]) ∧ Chg (fun k => v.ownBlock = some k) w w') := by
  obtain ⟨i0, hi, hz0, hz1, hz2⟩ := info_parts (show (Try.prog.info? 5).map (fun i => (i.zero, i.size, i.bytes)) = some (some (.int .u8 0), 1, 1) by kernel_rfl)
  obtain ⟨p, c, rfl⟩ := hx.slice
  have HA := Lib.hid (mark_own hx (.cells #[.int .u8 99] 5))
  have hb0 : Below w.heap.size w (w.alloc (.cells #[.int .u8 99] 5)) := (Below.refl _ _).alloc (Nat.le_refl _) _
  have Hb0 := Lib.hid hb0
  clear hx hb0
  generalize hL : l.length = n at *
  have HL := Lib.hid hL
  clear hL
  go_enter Try.func63, Try.ntmps63
  go_wp2_with (at_builtin; have hxx := mark_has w 99; refine wpList_app _ rfl (.tmp 4) (.tmp 5) 23 rfl 5 i0 (.int .u8 0) 1 1 Try.underlying23 hi hz0 hz1 hz2 rfl (by decide) (.slice p n c) n _ rfl HA.out (.slice (some ⟨w.heap.size, 0, none⟩) 1 1) 1 _ rfl hxx (bytesV_one _) (by unfold maxLen; omega) (by omega) ?_; clear hxx; intro v1 w1 hown1 hgrow1 hloc1)
  have hS : Chg (fun k => (Value.slice p n c).ownBlock = some k) w w1 := ((Chg.of_below Hb0.out).mono fun _ _ h => h.elim).trans (Chg.of_grown hgrow1) fun k _ e => e.symm
  have hnew : ∀ k, v1.ownBlock = some k → (Value.slice p n c).ownBlock = some k ∨ w.heap.size ≤ k := fun k hk => by
    rcases hloc1 with e | ⟨g, e, hge⟩
    · exact .inl (e ▸ hk)
    · rw [hk] at e
      cases e
      exact .inr (Nat.le_trans Hb0.out.size hge)
  rcases hown1.2 with ⟨-, h0⟩ | ⟨g, c1, cur, rfl, -⟩
  · omega
  have HS := Lib.hid (And.intro hS (And.intro (hnew g rfl) hown1))
  clear hS hnew hown1 hgrow1 hloc1
  generalize hxs : bytesV l ++ bytesV [99] = xs0 at *
  clear hxs
  go_wp2_with fail
  go_loopw [3] (fun i wr => ∃ (k : Nat) (xs : List Value), k ≤ n + 1 ∧ i = .int .i64 k ∧ OwnR wr 5 1 (.slice (some ⟨g, 0, none⟩) (n + 1) c1) (n + 1) xs ∧ Chg (fun k => (Value.slice p n c).ownBlock = some k) w wr) (fun i _ => n + 1 - (intOf i).toNat)
  case atStart => exact ⟨0, _, Nat.zero_le _, rfl, HS.out.2.2, HS.out.1⟩
  case round =>
    obtain ⟨k, xs, hk, rfl, ho, hc⟩ := hrel
    by_cases hlt : k < n + 1
    · have hkx : k < xs.length := by have := ho.1; omega
      have hcell := ho.cells (g := g) rfl k _ (List.getElem?_eq_getElem hkx)
      rw [add_zero] at hcell
      generalize xs[k] = u at *
      have hfr : wr.frozen? ⟨g, k, none⟩ = false := by
        rcases ho.2 with ⟨e, -⟩ | ⟨g', c', cur', e, hg, -⟩
        · cases e
        · cases e
          exact frozen_of hg k
      have hc2 : Chg (fun j => (Value.slice p n c).ownBlock = some j) w (wr.setCell ⟨g, k, none⟩ (.int .u8 98)) := hc.trans (Chg.setCell wr ⟨g, k, none⟩ (.int .u8 98)) fun i hi e => by
        subst e
        rcases HS.out.2.1 with h | h
        · exact h
        · exact absurd hi (by simpa using h)
      have HE := Lib.hid (And.intro (ho.set (g := g) rfl k (.int .u8 98)) hc2)
      clear ho hc hc2 hkx
      go_wp2_with fail
      go_roundw
      case rel => exact ⟨k + 1, _, by omega, by go_num, HE.out.1, HE.out.2⟩
      case measure => simp [intOf]; omega
    · have HE := Lib.hid hc
      clear ho hc
      go_wp2_with fail
      go_end0
      exact ⟨rfl, HE.out⟩
end Go.Proofs.Ytdlbamhabenhgaa

namespace Go.Proofs.Ytdlbamhabenhgaa
open Go.RowKit Go.Sat Go.ChangeShapes Go.WideShapes Go.ChangeAt Go.Deep

structure Step3 where
  kind : Int
  n : Int
  a : ByteArray
  to : ByteArray
  pb : Option Addr
  nb : Nat
  cb : Nat
  b : Bs

structure Step3At (w : World) (g j : Nat) (s : Step3) : Prop where
  ck : w.cell? ⟨g, j, none⟩ = some (.int .i64 s.kind)
  cn : w.cell? ⟨g, j + 1, none⟩ = some (.int .i64 s.n)
  ca : w.cell? ⟨g, j + 2, none⟩ = some (.string s.a)
  ct : w.cell? ⟨g, j + 3, none⟩ = some (.string s.to)
  c4 : w.cell? ⟨g, j + 4, none⟩ = some (.slice s.pb s.nb s.cb)
  hb : HasB w (.slice s.pb s.nb s.cb) s.b
  ok : (-9223372036854775808 ≤ s.kind ∧ s.kind ≤ 9223372036854775807) ∧ (-9223372036854775808 ≤ s.n ∧ s.n ≤ 9223372036854775807) ∧ s.a.size ≤ 140737488355328 ∧ s.to.size ≤ 140737488355328 ∧ s.b.length ≤ 140737488355328

def Steps3 (w : World) (p : Option Addr) (n : Nat) (l : List Step3) : Prop := l.length = n ∧ (l = [] ∨ ∃ g o, p = some ⟨g, o, none⟩ ∧ ∀ i s, l[i]? = some s → Step3At w g (o + i * 5) s)

section
variable {H : Type} {enc : TypeId × Value → H} {W : World}

theorem step3_field {g o i j K : Nat} {t : TypeId} (h : FieldAt enc Try.prog W reachBytes K ((⟨g, o, none⟩ : Addr).add (i * 5 + j)) t) : FieldAt enc Try.prog W reachBytes K ⟨g, o + i * 5 + j, none⟩ t := by
  have e : (⟨g, o, none⟩ : Addr).add (i * 5 + j) = ⟨g, o + i * 5 + j, none⟩ := by unfold Addr.add; split <;> simp_all <;> omega
  rwa [e] at h

theorem steps3_arg {fuel : Nat} {d : DataW H} {ps : List MemPlace} {a : Option Addr} {len cap : Nat} (hf : DataW.trod enc Try.prog W 0 (fun _ => true) true fuel 46 [.slice a len cap] = some (d, ps)) (hw : ∀ n ∈ d.weights Try.prog 46, n ≤ reachBytes) :
    ∃ l, Steps3 W a len l ∧ len ≤ 140737488355328 := by
  rcases open_recs Try.underlying46 Try.underlying52 (by kernel_rfl) (by kernel_rfl) hf hw with ⟨rfl, rfl⟩ | ⟨x, rfl, hlen, hel⟩
  · exact ⟨[], ⟨rfl, .inl rfl⟩, by decide⟩
  · rw [show Try.prog.bytesOf 52 = 72 by kernel_rfl] at hlen
    have hlen' : len ≤ 140737488355328 := by unfold reachBytes at hlen; omega
    by_cases h0 : len = 0
    · subst h0
      exact ⟨[], ⟨rfl, .inl rfl⟩, hlen'⟩
    obtain ⟨g, o, sp⟩ := x
    have hsp : sp = none := by
      obtain ⟨v, _, _, _, hc, -⟩ := hel 0 (by omega) 0 _ rfl
      have := World.cell?_spot hc
      simpa [Addr.add] using this
    subst hsp
    have hall : ∀ i, i < len → ∃ s : Step3, Step3At W g (o + i * 5) s := fun i hi => by
      obtain ⟨k, ck, wk⟩ := field_int Try.underlying3 (step3_field (hel i hi 0 _ rfl))
      obtain ⟨n, cn, wn⟩ := field_int Try.underlying3 (step3_field (hel i hi 1 _ rfl))
      obtain ⟨m, cm, wm⟩ := field_string Try.underlying9 (step3_field (hel i hi 2 _ rfl))
      obtain ⟨t, ct, wt⟩ := field_string Try.underlying9 (step3_field (hel i hi 3 _ rfl))
      obtain ⟨pb, nb, cb, lb, c4, hb, wb⟩ := field_bytes (step3_field (hel i hi 4 _ rfl))
      have b1 := bounds_i64 wk
      have b2 := bounds_i64 wn
      exact ⟨⟨k, n, m, t, pb, nb, cb, lb⟩, ⟨ck, cn, cm, ct, c4, hb, ⟨⟨b1.1, b1.2⟩, ⟨b2.1, b2.2⟩, Nat.le_trans wm.1 (by decide), Nat.le_trans wt.1 (by decide), wb.1⟩⟩⟩
    have inh : Inhabited Step3 := ⟨⟨0, 0, ⟨#[]⟩, ⟨#[]⟩, none, 0, 0, []⟩⟩
    obtain ⟨f, hfn⟩ := choose_lt hall
    refine ⟨(List.range len).map f, ⟨by simp, .inr ⟨g, o, rfl, fun i s hs => ?_⟩⟩, hlen'⟩
    rw [List.getElem?_map, Option.map_eq_some_iff] at hs
    obtain ⟨j, hj, rfl⟩ := hs
    obtain ⟨hj1, hj2⟩ := List.getElem?_eq_some_iff.1 hj
    have hji : j = i := by simpa using hj2.symm
    subst hji
    exact hfn j (by simpa using hj1)
end
end Go.Proofs.Ytdlbamhabenhgaa
