/- The contract of keep.Save. -/
import Derived.Test.YtdlbamhabenhgaaKeepM
namespace Go.Sat
open Go.RowKit
theorem HasB.same {w w' : World} {v : Value} {l : Bs} (h : HasB w v l) (hs : ∀ k, v.ownBlock = some k → w'.heap[k]? = w.heap[k]?) : HasB w' v l := by
  obtain ⟨hl, p, cap, rfl, h0, hc⟩ := h
  refine ⟨hl, p, cap, rfl, h0, fun a ha i u hu => ?_⟩
  have hb : (a.add i).block = a.block := add_block _ _
  exact (World.cell?_of_block (by rw [hb]; exact hs _ (by rw [ha]; rfl))).trans (hc a ha i u hu)

theorem HasB.lt {w : World} {v : Value} {l : Bs} (h : HasB w v l) (hne : l ≠ []) {k : Nat} (hk : v.ownBlock = some k) : k < w.heap.size := by
  obtain ⟨hl, p, cap, rfl, h0, hc⟩ := h
  cases p with
  | none => cases hk
  | some a =>
    cases l with
    | nil => exact absurd rfl hne
    | cons x r =>
      have h1 := hc a rfl 0 (.int .u8 (x.toNat : Int)) (by simp [bytesV])
      have h2 := World.block_lt_of_cell? w _ h1
      rw [add_block] at h2
      cases hk
      exact h2
end Go.Sat

namespace Go.Proofs.Ytdlbamhabenhgaa
open Go.RowKit Go.Sat Go.Maps

/-- With what a value lies in set apart besides. -/
def Fv (F : Nat → Prop) (v : Value) (k : Nat) : Prop := F k ∨ v.ownBlock = some k

theorem St.less {w w1 : World} {d : Nat} {D : DiskM} {F F' : Nat → Prop} (h : St w w1 d D F') (hF : ∀ k, F k → F' k) : St w w1 d D F :=
  h.move (S := fun _ => False) (Chg.refl _ _) (fun _ _ h => h.elim) fun k hk => ⟨.inl (hF k hk), by obtain ⟨_, _, _, _, hl⟩ := h; exact hl k (hF k hk)⟩

theorem St.flt {w w1 : World} {d : Nat} {D : DiskM} {F : Nat → Prop} (h : St w w1 d D F) {k : Nat} (hk : F k) : k < w1.heap.size := by
  obtain ⟨_, _, _, _, hl⟩ := h
  exact hl k hk

theorem same_below {w w1 w2 : World} {d : Nat} {D : DiskM} {F : Nat → Prop} (h : St w w1 d D F) (hb : Below w1.heap.size w1 w2) : Same F w1 w2 := fun k hk => hb.block k (h.flt hk)
theorem Same.trans {F : Nat → Prop} {w1 w2 w3 : World} (h : Same F w1 w2) (k : Same F w2 w3) : Same F w1 w3 := fun i hi => (k i hi).trans (h i hi)

theorem save_end {w w1 w2 : World} {d : Nat} {F : Nat → Prop} {v : Value} {r : DiskM × Nat} {e : Ending} (hs : Same F w1 w2) {w' : World} (h : Told w d (Fv F v) w2 r e w') : Told w d F w1 r e w' :=
  ⟨h.1, h.2.1.less fun _ hk => .inl hk, fun k hk => (h.2.2 k (.inl hk)).trans (hs k hk)⟩

theorem save1_rem {D D0 : DiskM} {n b : Bs} {e0 : Nat} (h0 : D.save0 n = (D0, e0)) (he : e0 ≠ 0) : D.save1 n b = (D0, e0) := by
  unfold DiskM.save1
  simp only [h0]
  rw [if_pos he]

theorem save1_app {D D0 D1 : DiskM} {n b : Bs} {e1 : Nat} (h0 : D.save0 n = (D0, 0)) (h1 : D0.append (shadowN n) b = (D1, e1)) (he : e1 ≠ 0) : D.save1 n b = (D1, e1) := by
  unfold DiskM.save1
  simp only [h0, h1]
  rw [if_neg (by simp), if_pos he]

theorem save1_syn {D D0 D1 D2 : DiskM} {n b : Bs} {e2 : Nat} (h0 : D.save0 n = (D0, 0)) (h1 : D0.append (shadowN n) b = (D1, 0)) (h2 : D1.sync [shadowN n] = (D2, e2)) (he : e2 ≠ 0) : D.save1 n b = (D2, e2) := by
  unfold DiskM.save1
  simp only [h0, h1, h2]
  rw [if_neg (by simp), if_neg (by simp), if_pos he]

theorem save1_ren {D D0 D1 D2 : DiskM} {n b : Bs} (h0 : D.save0 n = (D0, 0)) (h1 : D0.append (shadowN n) b = (D1, 0)) (h2 : D1.sync [shadowN n] = (D2, 0)) : D.save1 n b = D2.rename (shadowN n) n := by
  unfold DiskM.save1
  simp only [h0, h1, h2]
  rw [if_neg (by simp), if_neg (by simp), if_neg (by simp)]
end Go.Proofs.Ytdlbamhabenhgaa
