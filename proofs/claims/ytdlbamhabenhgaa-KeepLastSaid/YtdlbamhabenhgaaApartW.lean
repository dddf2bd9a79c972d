/- KeepApart: the walk. -/
import Derived.Test.YtdlbamhabenhgaaApart
import Derived.Test.YtdlbamhabenhgaaNamesW
namespace Go.Sat
open Go.RowKit
/-- append of bytes under a guard that says yes. -/
theorem wpList_app_want {P : Program} (w : World) {ops : Array Oper} {rest : List Oper} {o : Oper} {a : Act} {Q : Exit → Act → World → Prop} (hw : Region.wanted o (yielded ops a.tmps) = true) (s x : Operand) (t : TypeId)
    (ho : o.op = .call { callee := .builtin .append, args := #[s, x], argTypes := #[t, t] })
    (e : TypeId) (i : TypeInfo) (z : Value) (size bytes : Nat) (ht : P.underlying t = some (.slice e)) (hi : P.info? e = some i) (hz : i.zero = some z)
    (hsize : i.size = size) (hby : i.bytes = bytes) (hzs : z.cells.size = size) (hsz : 0 < size)
    (v : Value) (n : Nat) (xs : List Value) (hs : a.eval s = v) (hown : OwnR w e size v n xs)
    (xv : Value) (m : Nat) (news : List Value) (hxv : a.eval x = xv) (hx : Holds w size xv m news) (h1 : ∀ u ∈ news, u.oneCell' = true)
    (h63 : n + m ≤ maxLen) (hbytes : (n + m) * bytes ≤ 140737488355328)
    (h : ∀ v' w', OwnR w' e size v' (n + m) (xs ++ news) → w.grownBy w' v.ownBlock → (v'.ownBlock = v.ownBlock ∨ ∃ g, v'.ownBlock = some g ∧ w.heap.size ≤ g) → wpList P ops Q rest (a.put o.dst v') w') : wpList P ops Q (o :: rest) a w :=
  BigFrame.wpList_want hw fun K hK => by
    obtain ⟨v', w', hr, h2, h3, h4⟩ := run_app (P := P) w t o.type e i z size bytes ht hi hz hsize hby hzs hsz v n xs hown xv m news hx h1 h63 hbytes
    unfold Oper.wp execOp
    simp only [ho, resolve, invoke, builtin, Sem.run_bind, Sem.run_pure, Result.andThen_ok, List.map_toArray, List.map_cons, List.map_nil, hs, hxv, hr]
    exact hK _ _ (h v' w' h2 h3 h4)
end Go.Sat

namespace Go.Proofs.Ytdlbamhabenhgaa
open Go.RowKit Go.Sat Go.Maps

def sP1 : ByteArray := ⟨#[112, 45, 49]⟩
def sP2 : ByteArray := ⟨#[112, 45, 50]⟩
def sQ : ByteArray := ⟨#[113]⟩
def sP : ByteArray := ⟨#[112, 45]⟩

/-- A Save of one row. -/
theorem save_one {w w1 : World} {d : Nat} {D : DiskM} {F : Nat → Prop} (h : St w w1 d D F) (s : ByteArray) (hs : s.size ≤ 9223372036854775807) {v : Value} {l : Bs} (hx : HasB w1 v l) (hl : l.length ≤ 1048576) {r : DiskM × Nat} (hr : D.save (nm s) l = r) (fr : Nat × Nat) (g : Nat) (hg : g = w1.heap.size) :
    Calls Try.prog 25 #[.pointer (some ⟨d, 0, none⟩), .string s, .slice (some ⟨g, 0, none⟩) 1 1] (w1.alloc (.cells #[v] 23 fr)) fun e w' => e = .returned (.int .i64 (r.2 : Int)) ∧ St w w' d r.1 F := by
  have h1 := save_calls (h.alloc (.cells #[v] 23 fr)) s hs (ls := [l]) (rows_one hx 23 fr g 1 hg (Nat.le_refl _)) (by decide) (by rw [List.flatten_cons, List.flatten_nil, List.append_nil]; exact hl)
  rw [List.flatten_cons, List.flatten_nil, List.append_nil, hr] at h1
  refine h1.mono ?_
  rintro e w' ⟨rfl, hst, -⟩
  exact ⟨rfl, hst⟩

/-- A Load of what was saved. -/
theorem load_whole {w w1 : World} {d : Nat} {D : DiskM} {F : Nat → Prop} (h : St w w1 d D F) (s : ByteArray) (hs : s.size ≤ 9223372036854775807) {l : Bs} {k : Nat} (hl : l.length ≤ 1048576) (hg : Sat.get (nm s) D.files = some ⟨frameN l, k⟩) :
    Calls Try.prog 26 #[.pointer (some ⟨d, 0, none⟩), .string s] w1 fun e w' => ∃ v, e = .returned (.tuple #[v, .int .i64 0]) ∧ OwnB w' 5 v l ∧ (∀ k, v.ownBlock = some k → w1.heap.size ≤ k) ∧ Below w1.heap.size w1 w' ∧ St w w' d D F := by
  have h1 := load_calls h s hs
  rw [hg] at h1
  unfold GotL at h1
  rw [(load_frame l hl k).1, (load_frame l hl k).2] at h1
  exact h1

theorem load_none {w w1 : World} {d : Nat} {D : DiskM} {F : Nat → Prop} (h : St w w1 d D F) (s : ByteArray) (hs : s.size ≤ 9223372036854775807) (hg : Sat.get (nm s) D.files = none) :
    Calls Try.prog 26 #[.pointer (some ⟨d, 0, none⟩), .string s] w1 fun e w' => ∃ v, e = .returned (.tuple #[v, .int .i64 7]) ∧ OwnB w' 5 v [] ∧ Below w1.heap.size w1 w' ∧ St w w' d D F := by
  have h1 := load_calls h s hs
  rw [hg] at h1
  unfold GotL at h1
  rw [loadE_none, loadB_none] at h1
  refine h1.mono ?_
  rintro e w' ⟨v, rfl, hv, -, hb, hst⟩
  exact ⟨v, rfl, hv, hb, hst⟩

set_option maxRecDepth 100000 in
set_option maxHeartbeats 8000000 in
theorem apart_walk {w : World} {pa pb pc : Option Addr} {na nb nc ca cb cc : Nat} {a b c : Bs} (ha : HasB w (.slice pa na ca) a) (hb : HasB w (.slice pb nb cb) b) (hc : HasB w (.slice pc nc cc) c)
    (hla : a.length ≤ 140737488355328) (hlb : b.length ≤ 140737488355328) (hlc : c.length ≤ 140737488355328) (dr : Int) (hdr : -9223372036854775808 ≤ dr) (hdr' : dr ≤ 9223372036854775807) :
    Calls Try.prog 12 #[.slice pa na ca, .slice pb nb cb, .slice pc nc cc, .int .i64 dr] w (True3 w) := by
  have hna : na = a.length := (bytes_in ha).1
  have hnb : nb = b.length := (bytes_in hb).1
  have hnc : nc = c.length := (bytes_in hc).1
  have Ha := Lib.hid ha
  have Hb := Lib.hid hb
  have Hc := Lib.hid hc
  have Hna := Lib.hid hna
  have Hnb := Lib.hid hnb
  have Hnc := Lib.hid hnc
  have hma : na ≤ 140737488355328 := by omega
  have hmb : nb ≤ 140737488355328 := by omega
  have hmc : nc ≤ 140737488355328 := by omega
  by_cases hbig : 5000 < na + nb + nc
  · have hf : True3 w (.returned (.bool true)) w := ⟨rfl, Below.refl _ _⟩
    have Hf := Lib.hid hf
    have hd1 : decide ((5000 : Int) < (na : Int) + (nb : Int) + (nc : Int)) = true := by simp; omega
    clear ha hb hc hna hnb hnc hf
    go_enter Try.func12, Try.ntmps12
    go_wp2_with fail
    go_ret
    exact Hf.out
  · have Hlen := Lib.hid (show a.length + b.length + c.length ≤ 5000 by omega)
    have hn5 : na + nb + nc ≤ 5000 := by omega
    have hd1 : decide ((5000 : Int) < (na : Int) + (nb : Int) + (nc : Int)) = false := by simp; omega
    have Hnew := Lib.hid (st_new (w := w) (w1 := w) 1048576 (by decide) (by decide) (Below.refl _ _))
    clear ha hb hc hna hnb hnc hbig hla hlb hlc
    go_enter Try.func12, Try.ntmps12
    go_wp2_with fail
    refine Hnew.out.mono ?_
    rintro e w1 ⟨d, rfl, hd⟩
    have Hd := Lib.hid (show St w w1 d (DiskM.fresh 1048576) NoF from hd)
    have H1 := Lib.hid (save_one hd sP1 (by decide) (HasB.below Ha.out hd.below) (by have := Hlen.out; omega) (ap1 (by have := Hlen.out; omega)) (0, 0) w1.heap.size rfl)
    clear hd Hnew
    go_wp2_with fail
    refine H1.out.mono ?_
    rintro e w2 ⟨rfl, hd⟩
    have H2 := Lib.hid (save_one hd sP2 (by decide) (HasB.below Hb.out hd.below) (by have := Hlen.out; omega) (ap2 (by have := Hlen.out; omega) hd.ok) (0, 0) w2.heap.size rfl)
    clear hd H1 Hd
    go_wp2_with fail
    refine H2.out.mono ?_
    rintro e w3 ⟨rfl, hd⟩
    have H3 := Lib.hid (save_one hd sQ (by decide) (HasB.below Hc.out hd.below) (by have := Hlen.out; omega) (ap3 (by have := Hlen.out; omega) hd.ok) (0, 0) w3.heap.size rfl)
    clear hd H2
    go_wp2_with fail
    refine H3.out.mono ?_
    rintro e w4 ⟨rfl, hd⟩
    have h4 := save_calls (hd.alloc (.cells #[.slice pb nb cb, .slice pa na ca] 23)) sP2 (by decide) (ls := [b, a]) (rows_two' (HasB.below Hb.out hd.below) (HasB.below Ha.out hd.below) 23 (0, 0) w4.heap.size 2 rfl (Nat.le_refl _)) (by decide) (by rw [List.flatten_cons, List.flatten_cons, List.flatten_nil, List.append_nil, List.length_append]; have := Hlen.out; omega)
    rw [List.flatten_cons, List.flatten_cons, List.flatten_nil, List.append_nil, show nm sP2 = p2N from rfl, ap4 Hlen.out hd.ok] at h4
    have H4 := Lib.hid h4
    clear hd H3 h4
    go_wp2_with fail
    refine H4.out.mono ?_
    rintro e w5 ⟨rfl, hd, -⟩
    have h5 := st_crash hd dr hdr hdr'
    rw [ap_crash] at h5
    have H5 := Lib.hid h5
    clear hd H4 h5
    go_wp2_with fail
    refine H5.out.mono ?_
    rintro e w6 ⟨rfl, hd, -⟩
    have H6 := Lib.hid (load_whole hd sP1 (by decide) (l := a) (by have := Hlen.out; omega) rfl)
    clear hd H5
    go_wp2_with fail
    refine H6.out.mono ?_
    rintro e w7 ⟨vx, rfl, hvx, -, hbx, hd⟩
    have Hvx := Lib.hid hvx
    have H7 := Lib.hid (load_whole hd sP2 (by decide) (l := b ++ a) (by rw [List.length_append]; have := Hlen.out; omega) rfl)
    clear hd H6 hvx hbx
    go_wp2_with fail
    refine H7.out.mono ?_
    rintro e w8 ⟨vy, rfl, hvy, -, hby, hd⟩
    have H8 := Lib.hid (same4_calls (HasB.below Hvx.out.has hby) (HasB.below Ha.out hd.below) (by have := Hlen.out; omega) (by have := Hlen.out; omega))
    have Hd := Lib.hid hd
    have Hvy := Lib.hid hvy
    clear hd H7 hvy hby
    rw [beq_self_eq_true] at H8
    go_wp2_with fail
    refine H8.out.mono ?_
    rintro e w9 ⟨rfl, q9, rfl⟩
    obtain ⟨i0, hi, hz0, hz1, hz2⟩ := info_parts (show (Try.prog.info? 5).map (fun i => (i.zero, i.size, i.bytes)) = some (some (.int .u8 0), 1, 1) by kernel_rfl)
    have hX8 : Below w8.heap.size w8 (w8.drewN q9) := ⟨rfl, rfl, rfl, Nat.le_refl _, fun _ _ => rfl⟩
    have X11 := Lib.hid (hX8.alloc (Nat.le_refl _) (.cells #[] 5))
    have Hbw := Lib.hid (show Holds ((w8.drewN q9).alloc (.cells #[] 5)) 1 (.slice pb nb cb) nb (bytesV b) from by
      have h := (Hb.out.below Hd.out.below).below X11.out
      unfold HasB at h
      rw [← Hnb.out] at h
      exact h)
    have Haw := Lib.hid (show ∀ W, Below w8.heap.size w8 W → Holds W 1 (.slice pa na ca) na (bytesV a) from fun W hW => by
      have h := (Ha.out.below Hd.out.below).below hW
      unfold HasB at h
      rw [← Hna.out] at h
      exact h)
    clear hX8
    go_wp2_with (first | (at_builtin; refine wpList_app_want ((w8.drewN q9).alloc (.cells #[] 5)) rfl (.tmp 92) (.tmp 93) 23 rfl 5 i0 (.int .u8 0) 1 1 Try.underlying23 hi hz0 hz1 hz2 rfl (by decide) (.slice (some ⟨w8.heap.size, 0, none⟩) 0 0) 0 [] rfl (own_empty (w8.drewN q9) _) (.slice pb nb cb) nb (bytesV b) rfl Hbw.out (bytesV_one _) (by unfold maxLen; omega) (by omega) ?_; intro v12 w12 hown12 hgrow12 hloc12; rw [Nat.zero_add, List.nil_append] at hown12; have hX := X11.out.grown hgrow12 X11.out.size (fun j e => by simp [Value.ownBlock] at e; omega); have hnew := own_ge (B := w8.heap.size) hloc12 (fun k hk => by simp [Value.ownBlock] at hk; omega) X11.out.size; have X12 := Lib.hid (And.intro hX (And.intro hown12 hnew)); clear hown12 hgrow12 hloc12 hX hnew) | (at_builtin; refine wpList_app_want w12 rfl (.tmp 94) (.tmp 95) 23 rfl 5 i0 (.int .u8 0) 1 1 Try.underlying23 hi hz0 hz1 hz2 rfl (by decide) v12 nb (bytesV b) rfl X12.out.2.1 (.slice pa na ca) na (bytesV a) rfl (Haw.out _ X12.out.1) (bytesV_one _) (by unfold maxLen; omega) (by omega) ?_; intro v13 w13 hown13 hgrow13 hloc13; have hX := X12.out.1.grown hgrow13 X12.out.1.size X12.out.2.2; have X13 := Lib.hid (And.intro hX hown13); clear hown13 hgrow13 hloc13 hX))
    have hsm := same4_calls (l := b ++ a) (m := b ++ a) (Hvy.out.has.below X13.out.1) (OwnB.has (show OwnB w13 5 v13 (b ++ a) from by unfold OwnB; rw [List.length_append, ← Hna.out, ← Hnb.out, bytesV_app]; exact X13.out.2)) (by rw [List.length_append, ← Hna.out, ← Hnb.out]; omega) (by rw [List.length_append, ← Hna.out, ← Hnb.out]; omega)
    rw [beq_self_eq_true] at hsm
    have Hsm := Lib.hid hsm
    clear hsm
    refine Hsm.out.mono ?_
    rintro e w14 ⟨rfl, q14, rfl⟩
    have Hd2 := Lib.hid ((Hd.out.next X13.out.1).drewN q14)
    have hd15 : St w ((w13.drewN q14).alloc (.cells #[.string sP2, .string sQ] 9)) d (aD3 a (b ++ a) c) (fun k => k = (w13.drewN q14).heap.size) :=
      Hd2.out.move (Chg.alloc _ (.cells #[.string sP2, .string sQ] 9)) (fun _ _ h => h.elim) fun k hk => ⟨.inr (by omega), by simp [hk]⟩
    have h15 := clear_calls hd15 sP (has_names (w := w13.drewN q14) #[.string sP2, .string sQ] [p2N, qN] _ 2 2 rfl rfl rfl 9 (0, 0)) (by decide) (fun k hk => .inl (by cases hk; rfl))
    rw [show nm sP = pN from rfl, ap_clear] at h15
    have H15 := Lib.hid h15
    clear h15 hd15 Hsm H8 Hvx Hvy Hd Hbw Haw
    go_wp2_with fail
    refine H15.out.mono ?_
    rintro e w16 ⟨rfl, hd, -⟩
    have H16 := Lib.hid (load_none hd sP1 (by decide) rfl)
    clear hd H15
    go_wp2_with fail
    refine H16.out.mono ?_
    rintro e w17 ⟨v17, rfl, -, -, hd⟩
    have H17 := Lib.hid (load_whole hd sQ (by decide) (l := c) (by have := Hlen.out; omega) rfl)
    clear hd H16
    go_wp2_with fail
    refine H17.out.mono ?_
    rintro e w18 ⟨vz, rfl, hvz, -, -, hd⟩
    have h18 := same4_calls (hvz.has) (HasB.below Hc.out hd.below) (by have := Hlen.out; omega) (by have := Hlen.out; omega)
    rw [beq_self_eq_true] at h18
    have H18 := Lib.hid h18
    have Hd18 := Lib.hid hd
    clear hd h18 hvz H17
    go_wp2_with fail
    refine H18.out.mono ?_
    rintro e w19 ⟨rfl, q19, rfl⟩
    have H19 := Lib.hid (st_list (Hd18.out.drewN q19))
    clear H18
    go_wp2_with fail
    refine H19.out.mono ?_
    rintro e w20 ⟨vl, rfl, hvl, -, -, hd⟩
    rw [ap_names] at hvl
    have h20 := texts4_calls (HasN.below (OwnN.has hvl) ((Below.refl _ _).alloc (Nat.le_refl _) (.cells #[.string sP2, .string sQ] 9))) (has_names (w := w20) #[.string sP2, .string sQ] [p2N, qN] _ 2 2 rfl rfl rfl 9 (0, 0)) (by decide) (by decide)
    rw [beq_self_eq_true] at h20
    have H20 := Lib.hid h20
    have Hd20 := Lib.hid (hd.alloc (.cells #[.string sP2, .string sQ] 9))
    clear hd h20 hvl H19
    go_wp2_with fail
    refine H20.out.mono ?_
    rintro e w21 ⟨rfl, q21, rfl⟩
    have Hb21 := Lib.hid (Hd20.out.drewN q21).below
    have Hkn := Lib.hid (known4_calls ((w20.alloc (.cells #[.string sP2, .string sQ] 9)).drewN q21))
    clear H20
    go_wp2_with fail
    refine Hkn.out.mono ?_
    rintro e w22 ⟨rfl, hb22⟩
    have Hb22 := Lib.hid (Hb21.out.trans (hb22.mono Hb21.out.size))
    clear hb22
    go_wp2_with fail
    go_ret
    exact ⟨rfl, Hb22.out⟩
end Go.Proofs.Ytdlbamhabenhgaa
