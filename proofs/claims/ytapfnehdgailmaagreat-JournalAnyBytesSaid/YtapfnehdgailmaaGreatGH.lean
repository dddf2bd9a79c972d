/- journal: Cut. (Printed by mkj10.py.) journal: rows that are gathered, entries handed in. (Printed by mkj11.py.) journal: Append. (Printed by mkj12.py.) -/
import Derived.Test.YtapfnehdgailmaaGreatGG
set_option maxRecDepth 100000
set_option maxHeartbeats 64000000
namespace Go.Proofs.YtapfnehdgailmaaGreat
open Go.RowKit Go.Sat Go.Maps
theorem ownR_cut {w:World} {e:TypeId} {s n y c':Nat} {p:Option Addr} {c:Nat} {xs:List Value} (h:OwnR w e s (.slice p n c) n xs) (hy:y≤n) (hc:c'=y∨c'=c):OwnR w e s (.slice p y c') y (xs.take (y * s)):=by
 have hm:y * s≤n * s:=Nat.mul_le_mul_right _ hy
 refine ⟨by rw [List.length_take,h.1];omega,?_⟩
 rcases h.2 with ⟨e1,hn⟩ | ⟨g,cap,cur,e1,hg,hnc,hcm,hcs,ht⟩
 ·cases e1
  have hy0:y=0:=by omega
  subst hy0
  have hc0:c'=0:=by omega
  subst hc0
  exact .inl ⟨rfl,rfl⟩
 ·cases e1
  refine .inr ⟨g,c',cur,rfl,hg,by omega,by omega,?_,?_⟩
  ·have:c' * s≤c * s:=Nat.mul_le_mul_right _ (by omega)
   omega
  ·rw [← ht,List.take_take,Nat.min_eq_left hm]
section
variable {w w1:World} {j d:Nat} {pre:ByteArray} {D:zAB} {M:JouM} {F:Nat→Prop}
theorem jouIn_cut {own:Nat→Prop} {gv dv:Value} {p:Option Addr} {n c c' k:Nat} {vs:List EV} (hJ:zBQ w1 j d pre own M gv dv (.slice p n c) vs) (hn:M.entries.length=n) (hk:k≤n) (hc:c'=k∨c'=c) :
  zBQ (w1.setCell ⟨j,8,none⟩ (.slice p k c')) j d pre own { M with entries:=M.entries.take k } gv dv (.slice p k c') (vs.take k):=by
 have hs:∀ x,x≠j→(w1.setCell ⟨j,8,none⟩ (.slice p k c')).heap[x]?=w1.heap[x]?:=fun x hx=>set_other _ hx
 have hb:(Value.slice p k c').ownBlock=(Value.slice p n c).ownBlock:=zC4 _ _ _ _ _
 have hlen:(M.entries.take k).length=k:=by rw [List.length_take];omega
 refine ⟨?_,OwnR.keep hJ.group fun x hx=>hs x (hJ.og x hx).2.1,OwnR.keep hJ.data fun x hx=>hs x (hJ.od x hx).2.1,?_,⟨by rw [List.length_take,hJ.rows.1,hlen];omega,fun i e v he hv=>?_⟩,hJ.ol,fun x hx=>by rw [hb];exact hJ.og x hx,fun x hx=>by rw [hb];exact hJ.od x hx,fun x hx=>hJ.oe x (by rw [← hb];exact hx),fun u hu x hx=>by rw [hb];exact hJ.ov u (List.mem_of_mem_take hu) x hx,fun x hx=>by have:=hJ.olt x hx;simpa [World.setCell] using this,hJ.psz,⟨?_,hJ.ok.term,hJ.ok.group,hJ.ok.now,hJ.ok.vote,hJ.ok.data,fun e he=>hJ.ok.ents e (List.mem_of_mem_take he)⟩⟩
 ·have:=zAE hJ.cells 8 (.slice p k c')
  simpa using this
 ·show OwnR _ _ 4 _ (M.entries.take k).length (zA1 (M.entries.take k) (vs.take k))
  rw [hlen,entsC_take k _ _ hJ.rows.1]
  have h0:=hJ.row
  rw [hn] at h0
  refine (ownR_cut h0 hk hc).keep fun x hx=>hs x (hJ.oe x (by rw [← hb];exact hx)).2
 ·have h1:M.entries[i]?=some e:=by
   have he:(M.entries.take k)[i]?=some e:=he
   rw [List.getElem?_take] at he
   split at he
   ·exact he
   ·cases he
  have h2:vs[i]?=some v:=by
   rw [List.getElem?_take] at hv
   split at hv
   ·exact hv
   ·cases hv
  exact (hJ.rows.2 i e v h1 h2).keep fun x hx=>hs x (hJ.ov v (List.mem_of_getElem? h2) x hx).2.1
 ·have h0:=hJ.ok.last
  unfold JouM.last at h0 ⊢
  show M.number+(M.entries.take k).length≤_
  rw [hlen]
  omega
end
structure zDh (w W:World) (v:Value) (vs:List Value) (ls:List Bs):Prop where
 rows:zA7 W v vs ls
 new:zDH w.heap.size v vs
 bel:Below w.heap.size w W
theorem zDh.nil (w:World):zDh w w (.slice none 0 0) [] []:=⟨zA7.nil _,⟨fun k hk=>(by cases hk),fun u hu=>(by simp at hu)⟩,Below.refl _ _⟩
theorem zDh.next {w W W2:World} {v:Value} {vs:List Value} {ls:List Bs} (h:zDh w W v vs ls) (hb:Below W.heap.size W W2):zDh w W2 v vs ls:=⟨h.rows.below hb,h.new,h.bel.trans (hb.mono h.bel.size)⟩
theorem zDh.push {w W W2 w3:World} {v v3 u:Value} {vs:List Value} {ls:List Bs} {x:Bs} {o:Obj} (h:zDh w W v vs ls) (hb:Below W.heap.size W W2) (hu:OwnB W2 5 u x) (hun:∀ k,u.ownBlock=some k→W.heap.size≤k)
  (hown:OwnR w3 22 1 v3 (ls.length+1) (vs ++ [u])) (hg:(W2.alloc o).grownBy w3 v.ownBlock) (hloc:v3.ownBlock=v.ownBlock∨∃ g,v3.ownBlock=some g∧(W2.alloc o).heap.size≤g):zDh w w3 v3 (vs ++ [u]) (ls ++ [x]):=by
 have h1:=h.next hb
 have h2:=zAi W2 o
 have hs:=hb.size
 have hs2:=h2.size
 have hs3:=h.bel.size
 refine ⟨zA7.push (h1.rows.below h2) (zBm hu h2) (fun k hk e=>by have a:=hun k hk;have b:=OwnR.lt h.rows.row e;omega) hown hg hloc,zDH.push h.new (fun k hk=>Nat.le_trans hs3 (hun k hk)) hloc (by omega),?_⟩
 exact ((Chg.of_below (h1.bel.trans (h2.mono h1.bel.size))).trans (Chg.of_grown hg) fun k hk e=>by have:=h.new.1 k e.symm;omega:Chg (fun _=>False) w w3).below (Nat.le_refl _) fun _ _=>id
theorem zA7.at {w:World} {p:Option Addr} {n c:Nat} {vs:List Value} {ls:List Bs} (h:zA7 w (.slice p n c) vs ls):zAw w (.slice p n c) ls:=by
 have hlen:=h.len
 rcases h.row.2 with ⟨e,h0⟩ | ⟨g,cap,cur,e,hg,hnc,-⟩
 ·simp only [Value.slice.injEq] at e
  obtain ⟨rfl,rfl,rfl⟩:=e
  have hl:ls=[]:=List.eq_nil_of_length_eq_zero h0
  subst hl
  exact ⟨none,0,rfl,Nat.le_refl _,fun h=>absurd rfl h⟩
 ·simp only [Value.slice.injEq] at e
  obtain ⟨rfl,rfl,rfl⟩:=e
  refine ⟨_,c,rfl,hnc,fun _=>⟨g,0,vs,rfl,hlen,fun i u hu=>?_,fun i u m hu hm=>(h.has i u m hu hm).has.kit⟩⟩
  exact h.row.cells (g:=g) rfl i u hu
theorem holds_at4 {w:World} {p:Option Addr} {n c s:Nat} {xs:List Value} (h:zAL w s (.slice p n c) n xs) (hne:xs≠[]):∃ b o,p=some ⟨b,o,none⟩∧∀ i u,xs[i]?=some u→w.cell? ⟨b,o+i,none⟩=some u:=by
 obtain ⟨hlen,p',c',e,h0,hc⟩:=h
 simp only [Value.slice.injEq] at e
 obtain ⟨rfl,-,rfl⟩:=e
 cases p with
 | none =>
  have:=h0 rfl
  subst this
  exact absurd (List.eq_nil_of_length_eq_zero (by simpa using hlen)) hne
 | some a =>
  obtain ⟨b,o,sp⟩:=a
  cases xs with
  | nil=>exact absurd rfl hne
  | cons x r =>
   have h1:=hc _ rfl 0 x rfl
   have hsp:sp=none:=by
    have:=World.cell?_spot h1
    simpa [Addr.add] using this
   subst hsp
   refine ⟨b,o,rfl,fun i u hu=>?_⟩
   have h2:=hc _ rfl i u hu
   have e:(⟨b,o,none⟩:Addr).add i=⟨b,o+i,none⟩:=by unfold Addr.add;split <;> simp_all
   rw [← e]
   exact h2
def EntsHas (w:World) (x:Value) (es:List Ent) (vs:List EV):Prop:=vs.length=es.length∧zAL w 4 x es.length (zA1 es vs)∧∀ (i:Nat) e v,es[i]?=some e→vs[i]?=some v→zBE w e v
theorem EntsHas.len {w:World} {p:Option Addr} {n c:Nat} {es:List Ent} {vs:List EV} (h:EntsHas w (.slice p n c) es vs):es.length=n:=by
 obtain ⟨-,⟨-,_,_,e,-⟩,-⟩:=h
 simp only [Value.slice.injEq] at e
 exact e.2.1.symm
theorem EntsHas.ent {w:World} {p:Option Addr} {n c:Nat} {es:List Ent} {vs:List EV} (h:EntsHas w (.slice p n c) es vs) {i:Nat} (hi:i < es.length):∃ b o v,p=some ⟨b,o,none⟩∧zBE w es[i] v ∧
  w.cell? ⟨b,o+i * 4,none⟩=some (.int .i64 es[i].term)∧w.cell? ⟨b,o+i * 4+1,none⟩=some (.int .i64 es[i].kind)∧w.cell? ⟨b,o+i * 4+2,none⟩=some v.1∧w.cell? ⟨b,o+i * 4+3,none⟩=some v.2:=by
 have hn:=h.len
 obtain ⟨hlen,hh,hE⟩:=h
 rw [hn] at hh
 have hv:vs[i]?=some (vs[i]'(by omega)):=List.getElem?_eq_getElem _
 generalize vs[i]'(by omega)=v at hv
 have he:=List.getElem?_eq_getElem hi
 have hne:zA1 es vs≠[]:=fun e=>by
  have:=entsC_len es vs hlen
  rw [e] at this
  simp at this
  omega
 obtain ⟨b,o,rfl,hc⟩:=holds_at4 hh hne
 have hc':∀ (k:Nat) u,(entC es[i] v)[k]?=some u→w.cell? ⟨b,o+(i * 4+k),none⟩=some u:=fun k u hu=>hc _ _ (entsC_at _ _ i _ v he hv k u hu)
 exact ⟨b,o,v,rfl,hE i _ v he hv,hc' 0 _ rfl,hc' 1 _ rfl,hc' 2 _ rfl,hc' 3 _ rfl⟩
theorem entB_len {n:Nat} {e:Ent} (hn:n≤4611686018427387904) (h:zAs e=true):(entB n e).length≤65800:=by
 have hf:=zA8 h
 unfold entB rowB
 simp only [List.length_cons,List.length_append]
 have h1:=zAe hn
 have h2:=zA9 e.term
 have h3:=zA9 e.kind
 have h4:=zAe (n:=e.data.length) (by omega)
 have h5:=zEi e.nodes (by omega)
 omega
theorem zCN:∀ (n:Nat) (es:List Ent),(zBK n es).length=es.length
 | _,[]=>rfl
 | n,e :: r=>by
  show (zBK (n+1) r).length+1=_
  rw [zCN (n+1) r]
  rfl
theorem entsB_app:∀ (n:Nat) (es fs:List Ent),zBK n (es ++ fs)=zBK n es ++ zBK (n+es.length) fs
 | _,[],_=>rfl
 | n,e :: r,fs=>by
  show entB (n+1) e :: zBK (n+1) (r ++ fs)=_
  rw [entsB_app (n+1) r fs]
  show _=entB (n+1) e :: (zBK (n+1) r ++ zBK (n+(r.length+1)) fs)
  rw [show n+1+r.length=n+(r.length+1) by omega]
theorem entsB_take {n k:Nat} {es:List Ent} (hk:k < es.length):zBK n (es.take (k+1))=zBK n (es.take k) ++ [entB (n+k+1) es[k]]:=by
 rw [List.take_succ_eq_append_getElem hk,entsB_app,List.length_take,Nat.min_eq_left (by omega)]
 rfl
theorem zC6:∀ (n:Nat) (es:List Ent),(∀ e ∈ es,zAs e=true)→n+es.length≤4611686018427387904→∀ l ∈ zBK n es,l.length≤65800
 | _,[],_,_,l,hl=>by cases hl
 | n,e :: r,h,hn,l,hl=>by
  simp only [List.length_cons] at hn
  cases hl with
  | head=>exact entB_len (by omega) (h e (by simp))
  | tail _ hl=>exact zC6 (n+1) r (fun x hx=>h x (by simp [hx])) (by omega) l hl
theorem zDW {c:Nat}:∀ (ls:List Bs),(∀ l ∈ ls,l.length≤c)→(zAU ls).length≤(c+12) * ls.length
 | [],_=>by simp [zAU]
 | l :: ls,h=>by
  have h1:=zDW ls fun x hx=>h x (by simp [hx])
  have h2:=h l (by simp)
  rw [zCC,List.length_append,zAk,List.length_cons,Nat.mul_add]
  omega
theorem jouIn_push {w1 w0 w2:World} {j d:Nat} {pre:ByteArray} {M:JouM} {own:Nat→Prop} {gv dv ev v':Value} {vs:List EV} {u:EV} {e:Ent} (hJ:zBQ w1 j d pre own M gv dv ev vs) (hu:zDg w1 e u) (hun:∀ k,(u.1.ownBlock=some k∨u.2.ownBlock=some k)→¬ own k) (he:zAs e=true) (hla:M.last+1≤1099511627776)
  (hb0:Below w1.heap.size w1 w0) (hown:OwnR w2 50 4 v' (M.entries.length+1) (zA1 M.entries vs ++ entC e u)) (hg:w0.grownBy w2 ev.ownBlock) (hloc:v'.ownBlock=ev.ownBlock∨∃ g,v'.ownBlock=some g∧w0.heap.size≤g) :
  zBQ (w2.setCell ⟨j,8,none⟩ v') j d pre (fun k=>own k∨(u.1.ownBlock=some k∨u.2.ownBlock=some k)∨v'.ownBlock=some k) { M with entries:=M.entries ++ [e] } gv dv v' (vs ++ [u])∧Chg own w1 (w2.setCell ⟨j,8,none⟩ v')∧(∀ k,v'.ownBlock=some k→own k∨w1.heap.size≤k) ∧
  w2.heap[j]?=w1.heap[j]?:=by
 have hs:=hb0.size
 have hg2:=hg.size
 have hjj:w2.heap[j]?=w1.heap[j]?:=(hg.block j (by have:=hJ.olt j hJ.ol;omega) fun e=>(hJ.oe j e.symm).2 rfl).trans (hb0.block j (hJ.olt j hJ.ol))
 have hnew:∀ k,v'.ownBlock=some k→ev.ownBlock=some k∨w1.heap.size≤k:=fun k hk=>by
  rcases hloc with e | ⟨g,e,hge⟩
  ·exact .inl (e ▸ hk)
  ·rw [hk] at e
   cases e
   exact .inr (by omega)
 have hv'j:∀ k,v'.ownBlock=some k→k≠j:=fun k hk e=>by
  rcases hnew k hk with h | h
  ·exact (hJ.oe k h).2 e
  ·have:=hJ.olt j hJ.ol
   omega
 have huj:∀ k,(u.1.ownBlock=some k∨u.2.ownBlock=some k)→k≠j:=fun k hk e=>hun k hk (e ▸ hJ.ol)
 have hkeep:∀ k,k < w1.heap.size→ev.ownBlock≠some k→k≠j→(w2.setCell ⟨j,8,none⟩ v').heap[k]?=w1.heap[k]?:=fun k hk he hkl =>
  (set_other v' hkl).trans ((hg.block k (by omega) fun e=>he e.symm).trans (hb0.block k hk))
 have hv'n:∀ k,k < w1.heap.size→ev.ownBlock≠some k→v'.ownBlock≠some k:=fun k hk he e=>by
  rcases hnew k e with h | h
  ·exact he h
  ·omega
 have hune:∀ k,(u.1.ownBlock=some k∨u.2.ownBlock=some k)→ev.ownBlock≠some k:=fun k hk e=>hun k hk (hJ.oe k e).1
 have hvl:=hJ.rows.1
 have hlen:(M.entries ++ [e]).length=M.entries.length+1:=by simp
 refine ⟨⟨?_,?_,?_,?_,⟨by simp [hvl],?_⟩,.inl hJ.ol,?_,?_,fun k hk=>⟨.inr (.inr hk),hv'j k hk⟩,?_,?_,hJ.psz,⟨?_,hJ.ok.term,hJ.ok.group,hJ.ok.now,hJ.ok.vote,hJ.ok.data,?_⟩⟩,?_,fun k hk=>(hnew k hk).imp (fun h=>(hJ.oe k h).1) id,hjj⟩
 ·have h1:=zAE (hjj.trans hJ.cells) 8 v'
  simpa using h1
 ·exact OwnR.keep hJ.group fun k hk=>hkeep k (OwnR.lt hJ.group hk) (hJ.og k hk).2.2 (hJ.og k hk).2.1
 ·exact OwnR.keep hJ.data fun k hk=>hkeep k (OwnR.lt hJ.data hk) (hJ.od k hk).2.2 (hJ.od k hk).2.1
 ·show OwnR _ _ _ _ (M.entries ++ [e]).length (zA1 (M.entries ++ [e]) (vs ++ [u]))
  rw [hlen,entsC_app _ _ _ _ hvl]
  exact hown.keep fun k hk=>set_other v' (hv'j k hk)
 ·intro i x c hx hc
  have hx':(M.entries ++ [e])[i]?=some x:=hx
  by_cases hi:i < vs.length
  ·rw [List.getElem?_append_left hi] at hc
   rw [List.getElem?_append_left (by omega)] at hx'
   have hcm:=List.mem_of_getElem? hc
   exact (hJ.rows.2 i x c hx' hc).keep fun k hk=>hkeep k (hJ.olt k (hJ.ov c hcm k hk).1) (hJ.ov c hcm k hk).2.2 (hJ.ov c hcm k hk).2.1
  ·rw [List.getElem?_append_right (by omega)] at hc
   rw [List.getElem?_append_right (by omega)] at hx'
   have hi0:i - vs.length=0:=by
    have:=(List.getElem?_eq_some_iff.1 hc).1
    simp at this
    omega
   rw [hi0] at hc
   rw [← hvl,hi0] at hx'
   simp only [List.getElem?_cons_zero,Option.some.injEq] at hc hx'
   subst hc
   subst hx'
   exact hu.keep fun k hk=>hkeep k (hu.lt hk) (hune k hk) (huj k hk)
 ·exact fun k hk=>⟨.inl (hJ.og k hk).1,(hJ.og k hk).2.1,hv'n k (OwnR.lt hJ.group hk) (hJ.og k hk).2.2⟩
 ·exact fun k hk=>⟨.inl (hJ.od k hk).1,(hJ.od k hk).2.1,hv'n k (OwnR.lt hJ.data hk) (hJ.od k hk).2.2⟩
 ·intro x hx k hk
  rcases List.mem_append.1 hx with hx | hx
  ·exact ⟨.inl (hJ.ov x hx k hk).1,(hJ.ov x hx k hk).2.1,hv'n k (hJ.olt k (hJ.ov x hx k hk).1) (hJ.ov x hx k hk).2.2⟩
  ·obtain rfl:x=u:=by simpa using hx
   exact ⟨.inr (.inl hk),huj k hk,hv'n k (hu.lt hk) (hune k hk)⟩
 ·intro k hk
  have hz:(w2.setCell ⟨j,8,none⟩ v').heap.size=w2.heap.size:=by simp [World.setCell]
  rw [hz]
  rcases hk with hk | hk | hk
  ·have:=hJ.olt k hk
   omega
  ·have:=hu.lt hk
   omega
  ·exact hown.lt hk
 ·show M.number+(M.entries ++ [e]).length≤_
  rw [hlen]
  unfold JouM.last at hla
  omega
 ·intro x hx
  rcases List.mem_append.1 hx with hx | hx
  ·exact hJ.ok.ents x hx
  ·obtain rfl:x=e:=by simpa using hx
   exact he
 ·exact ((((Chg.of_below hb0).mono fun _ _ h=>h.elim).trans (Chg.of_grown hg) fun k _ e=>(hJ.oe k e.symm).1).trans (Chg.setCell w2 ⟨j,8,none⟩ v') fun k _ e=>e ▸ hJ.ol:Chg own w1 _)
structure EntBox (w:World) (b:Nat):Prop where
 all:w.heap[b]?=some (.cells #[.int .i64 0,.int .i64 0,.slice none 0 0,.slice none 0 0] 50)
theorem entBox_new (w:World):EntBox (w.alloc (.cells #[.int .i64 0,.int .i64 0,.slice none 0 0,.slice none 0 0] 50)) w.heap.size:=⟨zAI w _⟩
section
variable {w w1:World} {j d:Nat} {pre:ByteArray} {D:zAB} {M:JouM} {F:Nat→Prop}
theorem jappend_calls (h:JouF w w1 j d pre D M F) {p:Option Addr} {n c:Nat} {es:List Ent} {vs:List EV} (hx:∀ W,Below w.heap.size w W→Same F w1 W→EntsHas W (.slice p n c) es vs) (hn:n≤1000000) :
  Calls Tryz.prog 22 #[.pointer (some ⟨j,0,none⟩),.slice p n c] w1 (JouTold w w1 j d pre F (zCQ (nm pre) D M es)):=by
 obtain ⟨i0,hi,hz0,hz1,hz2⟩:=info_parts (show (Tryz.prog.info? 22).map (fun i=>(i.zero,i.size,i.bytes))=some (some (.slice none 0 0),1,24) by kernel_rfl)
 obtain ⟨i4,hi4,hz40,hz41,hz42⟩:=info_parts (show (Tryz.prog.info? 50).map (fun i=>(i.zero,i.size,i.bytes))=some (some (.agg #[.int .i64 0,.int .i64 0,.slice none 0 0,.slice none 0 0]),4,64) by kernel_rfl)
 have Hmay:=zh (jmay_calls h)
 have Hla:=zh (zB5 h)
 have Hid:=zh (fun k w2 (hb:Below w1.heap.size w1 w2) (hr:zCQ (nm pre) D M es=⟨D,M,k⟩)=>jouTold_id h hb hr)
 have HR:=zh (show zCQ (nm pre) D M es=if M.dead then ⟨D,M,9⟩ else if 1099511627776 < M.last+es.length∨es.all zAs=false then ⟨D,M,1⟩ else if es=[] then ⟨D,M,0⟩ else laysJ (nm pre) D M (zBK M.last es) { M with entries:=M.entries ++ es } from rfl)
 have hla:=h.okM.last
 have hnn:=(hx w1 h.bel fun _ _=>rfl).len
 cases hd:M.dead with
 | true =>
  rw [hd] at Hmay
  have HE:=zh (Hid.out 9 w1 (Below.refl _ _) (by rw [HR.out,hd];rfl))
  clear h
  go_enter Tryz.func22,Tryz.ntmps22
  go_wp2_with fail
  refine Hmay.out.mono ?_
  rintro e w2 ⟨rfl,rfl⟩
  go_wp2_with fail
  go_ret
  exact HE.out
 | false =>
  rw [hd] at Hmay
  generalize hL:M.last=la at *
  generalize hLT:M.lastT=lt at *
  have hw1:IntKind.i64.wrap (1099511627776 - (la:Int))=1099511627776 - (la:Int):=IntWalk.i64_in _ (by omega)
  by_cases hbig:1099511627776 < la+n
  ·have HE:=zh (fun q=>Hid.out 1 (w1.drewN q) ⟨rfl,rfl,rfl,Nat.le_refl _,fun _ _=>rfl⟩ (by rw [HR.out,hd,if_neg (by simp),if_pos (.inl (by rw [hnn];exact hbig))]))
   have hgt:(1099511627776:Int) - (la:Int) < (n:Int):=by omega
   clear h hbig
   go_enter Tryz.func22,Tryz.ntmps22
   go_wp2_with fail
   refine Hmay.out.mono ?_
   rintro e w2 ⟨rfl,rfl⟩
   go_wp2_with fail
   refine Hla.out.mono ?_
   rintro e w2 ⟨rfl,q,rfl⟩
   go_wp2_with fail
   go_ret
   exact HE.out q
  ·have hgt:decide ((1099511627776:Int) - (la:Int) < (n:Int))=false:=by simp;omega
   have HD:=zh hd
   have H:=zh h
   have Hx:=zh hx
   have Hnn:=zh hnn
   have Hbig:=zh hbig
   have HL:=zh hL
   have hla40:la≤1099511627776:=hla
   clear h hx hnn hbig hL hLT hla hd
   go_enter Tryz.func22,Tryz.ntmps22
   go_wp2_with fail
   refine Hmay.out.mono ?_
   rintro e w2 ⟨rfl,rfl⟩
   go_wp2_with fail
   refine Hla.out.mono ?_
   rintro e w3 ⟨rfl,q,rfl⟩
   have HBq:=zh (show Below w2.heap.size w2 (w2.drewN q) from ⟨rfl,rfl,rfl,Nat.le_refl _,fun _ _=>rfl⟩)
   generalize hW0:w2.drewN q=W0 at *
   clear hW0
   go_wp2_with fail
   go_loopw [8,31] (fun x i wr=>∃ (k:Nat) (us:List Value) (xv:Value),k≤n∧i=.int .i64 k∧xv=x∧(∀ e ∈ es.take k,zAs e=true)∧zDh W0 wr xv us (zBK la (es.take k))) (fun _ i _=>n - (intOf i).toNat)
   case atStart=>exact ⟨0,[],_,Nat.zero_le _,rfl,rfl,fun e he=>(by simp at he),zDh.nil _⟩
   case round =>
    obtain ⟨k,us,xv,hk,rfl,rfl,hes,hrn⟩:=hrel
    have hb2r:Below w2.heap.size w2 wr:=HBq.out.trans (hrn.bel.mono HBq.out.size)
    by_cases hlt:k < n
    ·have hkl:k < es.length:=by rw [Hnn.out];exact hlt
     obtain ⟨b,o,v,rfl,heh,k0,k1,k2,k3⟩:=(Hx.out wr (H.out.bel.trans (hb2r.mono H.out.bel.size)) (H.out.same hb2r)).ent hkl
     have HTk:=zh (entsB_take (n:=la) hkl)
     have HTe:=zh (List.take_succ_eq_append_getElem hkl)
     have Hall:=zh (show zAs es[k]=false→es.all zAs=false from fun hf=>by
      rw [Bool.eq_false_iff]
      intro ht
      have:=List.all_eq_true.1 ht _ (List.getElem_mem hkl)
      rw [hf] at this
      cases this)
     generalize es[k]=e at *
     obtain ⟨v1,v2⟩:=v
     obtain ⟨p1,c1,e1⟩:=heh.data.slice
     obtain ⟨p2,c2,e2⟩:=heh.nodes.slice
     have e1':v1=.slice p1 e.data.length c1:=e1
     have e2':v2=.slice p2 e.nodes.length c2:=e2
     subst e1'
     subst e2'
     have k2:wr.cell? ⟨b,o+k * 4+2,none⟩=some (.slice p1 e.data.length c1):=k2
     have k3:wr.cell? ⟨b,o+k * 4+3,none⟩=some (.slice p2 e.nodes.length c2):=k3
     have Heh:=zh heh
     have hdl:=heh.dl
     have hnl:=heh.nl
     have Hrn:=zh hrn
     have Hes:=zh hes
     have HB2:=zh hb2r
     have hR:=(entBox_new wr).all
     have r0:=zAA hR (i:=0) rfl
     have r1:=zAA hR (i:=1) rfl
     have r2:=zAA hR (i:=2) rfl
     have r3:=zAA hR (i:=3) rfl
     have fr:=zAF hR
     clear hkl heh e1 e2 hrn hes hb2r hR
     go_wp2_with fail
     have hb1:=zAD wr (.cells #[.int .i64 e.term,.int .i64 e.kind,.slice p1 e.data.length c1,.slice p2 e.nodes.length c2] 50)
     have HBX:=zh (zAI wr (.cells #[.int .i64 e.term,.int .i64 e.kind,.slice p1 e.data.length c1,.slice p2 e.nodes.length c2] 50))
     refine (isone_calls (Heh.out.below hb1)).mono ?_
     rintro r w4 ⟨rfl,hb4⟩
     have HB4:=zh (show Below wr.heap.size wr w4 from hb1.trans (hb4.mono hb1.size))
     have hbx:=(hb4.block _ (zAC HBX.out)).trans HBX.out
     have q0:=zAA hbx (i:=0) rfl
     have q1:=zAA hbx (i:=1) rfl
     have q2:=zAA hbx (i:=2) rfl
     have q3:=zAA hbx (i:=3) rfl
     have q0:w4.cell? ⟨wr.heap.size,0,none⟩=some (.int .i64 e.term):=q0
     have q1:w4.cell? ⟨wr.heap.size,1,none⟩=some (.int .i64 e.kind):=q1
     have q2:w4.cell? ⟨wr.heap.size,2,none⟩=some (.slice p1 e.data.length c1):=q2
     have q3:w4.cell? ⟨wr.heap.size,3,none⟩=some (.slice p2 e.nodes.length c2):=q3
     clear hb1 hb4 hbx
     cases hie:zAs e with
     | false =>
      have HE:=zh (Hid.out 1 w4 (HB2.out.trans (HB4.out.mono HB2.out.size)) (by rw [HR.out,HD.out];simp [Hall.out hie]))
      clear hie
      go_wp2_with fail
      go_ret
      exact HE.out
     | true =>
      have hw2:IntKind.i64.wrap ((la:Int)+1)=(la:Int)+1:=IntWalk.i64_in _ (by omega)
      have hw3:IntKind.i64.wrap ((la:Int)+1+(k:Int))=(la:Int)+1+(k:Int):=IntWalk.i64_in _ (by omega)
      have Her:=zh (show Calls Tryz.prog 100 #[.int .i64 ((la:Int)+1+(k:Int)),.agg #[.int .i64 e.term,.int .i64 e.kind,.slice p1 e.data.length c1,.slice p2 e.nodes.length c2]] w4 (zBJ w4 (entB (la+k+1) e)) from by
       have:=entRec_calls (la+k+1) (by omega) (Heh.out.below HB4.out) hie
       rwa [show ((la+k+1:Nat):Int)=(la:Int)+1+(k:Int) by omega] at this)
      have Hie:=zh hie
      clear hie
      go_wp2_with fail
      refine Her.out.mono ?_
      rintro r w5 ⟨y,rfl,hy,hyn,hb5⟩
      have HB5:=zh (show Below wr.heap.size wr w5 from HB4.out.trans (hb5.mono HB4.out.size))
      have HY:=zh (And.intro hy (show ∀ z,y.ownBlock=some z→wr.heap.size≤z from fun z hz=>Nat.le_trans HB4.out.size (hyn z hz)))
      obtain ⟨py,cy,rfl,-⟩:=zAO hy
      clear hy hyn hb5 Her
      generalize hyl:(entB (la+k+1) e).length=yl at *
      have hek:(zBK la (es.take k)).length=k:=by rw [zCN,List.length_take,Hnn.out];omega
      have HYL:=zh hyl
      have Hek:=zh hek
      have Hrow:=zh (show OwnR w5 22 1 xv k us from by
       have:=(Hrn.out.next HB5.out).rows.row
       rwa [Hek.out] at this)
      clear hyl hek q0 q1 q2 q3
      go_wp2_with (at_builtin;have hal:=Hrow.out.keep (w':=w5.alloc (.cells #[.slice py yl cy] 22)) (fun z hz=>(zAi w5 _).block z (OwnR.lt Hrow.out hz));have hxx:=zC3 w5 (.slice py yl cy) 22 (0,0);refine zAP _ rfl (.tmp 39) (.tmp 46) 108 rfl 22 i0 (.slice none 0 0) 1 24 Tryz.underlying108 hi hz0 hz1 hz2 rfl (by decide) xv k _ rfl hal (.slice (some ⟨w5.heap.size,0,none⟩) 1 1) 1 _ rfl hxx (by simp [Value.oneCell']) (by unfold maxLen;omega) (by omega) ?_;clear hal hxx;intro v3 w3 hown3 hgrow3 hloc3;go_loud (have HE:=zh (zDh.push Hrn.out HB5.out HY.out.1 HY.out.2 (by rw [Hek.out];exact hown3) hgrow3 hloc3);clear hgrow3 hloc3;obtain ⟨p3,q3,rfl⟩:=OwnR.shape hown3;clear hown3))
      go_roundw
      case rel =>
       refine ⟨k+1,us ++ [.slice py yl cy],_,by omega,by go_num,rfl,?_,?_⟩
       ·intro z hz
        rw [HTe.out] at hz
        rcases List.mem_append.1 hz with hz | hz
        ·exact Hes.out z hz
        ·rw [show z=e by simpa using hz]
         exact Hie.out
       ·rw [HTk.out]
        exact HE.out
      case measure=>simp [intOf];omega
    ·have hkn:k=n:=by omega
     have het:es.take k=es:=List.take_of_length_le (by rw [Hnn.out];omega)
     rw [het] at hes hrn
     have hall:es.all zAs=true:=List.all_eq_true.2 hes
     have hrow:=hrn.rows.row
     have hlb:(zBK la es).length=n:=by rw [zCN,Hnn.out]
     rw [hlb] at hrow
     obtain ⟨px,cx,rfl⟩:=hrow.shape
     by_cases hn0:n=0
     ·have he0:es=[]:=List.eq_nil_of_length_eq_zero (by rw [Hnn.out,hn0])
      have HE:=zh (Hid.out 0 wr hb2r (by rw [HR.out,HD.out,if_neg (by simp),if_neg (by rw [Hnn.out,hall];simp;have:=Hbig.out;omega),if_pos he0]))
      have e0:((n:Int) == 0)=true:=by simp;omega
      clear hes hrn hall hrow hlb he0 hb2r hkn het
      go_wp2_with fail
      go_ret
      exact HE.out
     ·have he0:es≠[]:=fun e=>hn0 (by rw [← Hnn.out,e];rfl)
      have e0:((n:Int) == 0)=false:=by simp;omega
      have HR2:=zh (show zCQ (nm pre) D M es=laysJ (nm pre) D M (zBK la es) { M with entries:=M.entries ++ es } from by rw [HR.out,HD.out,if_neg (by simp),if_neg (by rw [Hnn.out,hall];simp;have:=Hbig.out;omega),if_neg he0])
      have hrl:=zC6 la es hes (by rw [Hnn.out];omega)
      have hrl2:=zDW (c:=65800) (zBK la es) hrl
      have Hly:=zh (jlays_calls (H.out.next hb2r) hrn.rows.at (by omega) (fun l hl=>Nat.le_trans (hrl l hl) (by decide)) (by rw [hlb] at hrl2;omega))
      have HSr:=zh (H.out.same hb2r)
      have Hes:=zh hes
      have HBR:=zh hb2r
      clear hes hrn hall hrow hlb he0 hb2r hkn het hrl hrl2
      cases hly:zEn D (logN (nm pre)) (zAU (zBK la es)) with
      | mk D1 e1 =>
       rw [hly] at Hly
       by_cases he1:e1=0
       ·subst he1
        have HZ:=zh (HR2.out.trans (laysJ_ok hly))
        rw [deadIf_zero] at Hly
        clear hly
        go_wp2_with fail
        refine Hly.out.mono ?_
        rintro r w6 ⟨rfl,hj6,hs6⟩
        have HJ6:=zh hj6
        have HS6:=zh (HSr.out.trans hs6)
        clear hj6 hs6 Hly
        go_wp2_with fail
        go_loopw [60] (fun i wr=>∃ k:Nat,k≤n∧i=.int .i64 k∧JouF w wr j d pre D1 { M with entries:=M.entries ++ es.take k } F∧Same F w2 wr) (fun i _=>n - (intOf i).toNat)
        case atStart=>exact ⟨0,Nat.zero_le _,rfl,by rw [List.take_zero,List.append_nil];exact HJ6.out,HS6.out⟩
        case round =>
         clear HJ6 HS6
         obtain ⟨k,hk,rfl,hjk,hsk⟩:=hrel
         by_cases hlt:k < n
         ·have hkl:k < es.length:=by rw [Hnn.out];exact hlt
          obtain ⟨b,o,v,rfl,heh,k0,k1,k2,k3⟩:=(Hx.out wr hjk.bel hsk).ent hkl
          have hie:=Hes.out _ (List.getElem_mem hkl)
          have HTe:=zh (List.take_succ_eq_append_getElem hkl)
          generalize es[k]=e at *
          obtain ⟨v1,v2⟩:=v
          obtain ⟨p1,c1,e1⟩:=heh.data.slice
          obtain ⟨p2,c2,e2⟩:=heh.nodes.slice
          have e1':v1=.slice p1 e.data.length c1:=e1
          have e2':v2=.slice p2 e.nodes.length c2:=e2
          subst e1'
          subst e2'
          have k2:wr.cell? ⟨b,o+k * 4+2,none⟩=some (.slice p1 e.data.length c1):=k2
          have k3:wr.cell? ⟨b,o+k * 4+3,none⟩=some (.slice p2 e.nodes.length c2):=k3
          have Heh:=zh heh
          have hdl:=heh.dl
          have hnl:=heh.nl
          have Hie:=zh hie
          have hlk:({ M with entries:=M.entries ++ es.take k }:JouM).last=la+k:=by
           show M.number+(M.entries ++ es.take k).length=la+k
           rw [List.length_append,List.length_take,← HL.out,Nat.min_eq_left (by omega)]
           show _=M.number+M.entries.length+k
           omega
          obtain ⟨own,gv,dv,ev,us,hJ,hS,hno,hlF⟩:=hjk
          obtain ⟨pe,ce,rfl⟩:=hJ.row.shape
          have c8:=hJ.c 8 rfl
          have hml:({ M with entries:=M.entries ++ es.take k }:JouM).entries.length≤la+k:=by rw [← hlk];exact Nat.le_add_left _ _
          have HJ:=zh (And.intro hJ (And.intro hS (And.intro hno hlF)))
          have Hlk:=zh hlk
          have Hsk:=zh hsk
          have HN40:=zh (show la+k+1≤1099511627776 from by have:=Hbig.out;omega)
          generalize hm:({ M with entries:=M.entries ++ es.take k }:JouM).entries.length=m at *
          have Hm:=zh hm
          have Hml:=zh hml
          clear hkl heh e1 e2 hie hJ hS hno hlF hlk hm hml hsk
          go_wp2_with fail
          refine zDm [11] (fun w':World=>w'.cell? ⟨j,8,none⟩=some (.slice pe m ce)∧w'.heap[wr.heap.size]?=some (.cells #[.int .i64 e.term,.int .i64 e.kind,.slice p1 e.data.length c1,.slice p2 e.nodes.length c2] 50 (0,0))) (n:=12) (by kernel_rfl) rfl (⟨zA4 c8 _,zAI wr _⟩) (fun hHeld=>?_)
          have HB1:=zh (show Below wr.heap.size wr (wr.alloc (.cells #[.int .i64 e.term,.int .i64 e.kind,.slice p1 e.data.length c1,.slice p2 e.nodes.length c2] 50)).drew from (zAD wr _).trans ⟨rfl,rfl,rfl,by simp,fun _ _=>rfl⟩)
          generalize (wr.alloc (.cells #[.int .i64 e.term,.int .i64 e.kind,.slice p1 e.data.length c1,.slice p2 e.nodes.length c2] 50)).drew=W1 at *
          refine gpu 0 (v:=?v23x0) rfl ?_
          simp only [Act.put,uA,uB,uC]
          refine gpu 1 (v:=?v23x1) rfl ?_
          simp only [Act.put,uA,uB,uC]
          refine gpu 2 (v:=?v23x2) rfl ?_
          simp only [Act.put,uA,uB,uC]
          refine gpu 3 (v:=?v23x3) rfl ?_
          simp only [Act.put,uA,uB,uC]
          refine gtk 4 (v:=?v23x4) rfl ?_
          simp only [Act.put,uA,uB,uC]
          refine zBG 5 (v:=.agg #[.int .i64 e.term,.int .i64 e.kind,.slice p1 e.data.length c1,.slice p2 e.nodes.length c2]) rfl (by kernel_rfl) (by kernel_rfl) (by kernel_rfl) (by kernel_rfl) (fun _ _ _ h=>h) (by rfl) (by assumption) (fun W hSw=>by have q0:=zAA hSw.2 (i:=0) rfl;have q1:=zAA hSw.2 (i:=1) rfl;have q2:=zAA hSw.2 (i:=2) rfl;have q3:=zAA hSw.2 (i:=3) rfl;go_simp;try with_reducible rfl) ?_
          simp only [Act.put,uA,uB,uC]
          refine zEg 6 rfl (by kernel_rfl) (by rfl) (fun K hK=>?_)
          have Hown:=zh (own_calls (Heh.out.below HB1.out))
          go_wp2_with fail
          refine Hown.out.mono ?_
          rintro r w9 ⟨⟨u1,u2⟩,rfl,hu,hun,hb9⟩
          have HB9:=zh (HB1.out.trans (hb9.mono HB1.out.size))
          have Hh9:=zh (And.intro (zAJ hHeld.1 hb9) ((hb9.block _ (zAC hHeld.2)).trans hHeld.2))
          have HU:=zh (And.intro hu (show ∀ x,((u1,u2):EV).1.ownBlock=some x∨((u1,u2):EV).2.ownBlock=some x→wr.heap.size≤x from fun x hx=>Nat.le_trans HB1.out.size (hun x hx)))
          obtain ⟨pu,cu,eu,-⟩:=zAO hu.data
          obtain ⟨pn,cn,en,-⟩:=zAl hu.nodes
          have eu':u1=.slice pu e.data.length cu:=eu
          have en':u2=.slice pn e.nodes.length cn:=en
          subst eu'
          subst en'
          clear hu hun hb9 Hown eu en
          unfold entV
          go_wp2_with fail
          refine hK.out _ _ (Hh9.out) (fun hHeld=>?_)
          clear hK
          try simp only [Act.put,uA,uB,uC]
          refine zEg 7 rfl (by kernel_rfl) (by rfl) (fun K hK=>?_)
          have Hh10:=zh (And.intro (zA4 hHeld.1 (.cells #[.int .i64 e.term,.int .i64 e.kind,.slice pu e.data.length cu,.slice pn e.nodes.length cn] 50)) ((zCw _ (.cells #[.int .i64 e.term,.int .i64 e.kind,.slice pu e.data.length cu,.slice pn e.nodes.length cn] 50) (zAC hHeld.2)).trans hHeld.2))
          go_wp2_with fail
          refine hK.out _ _ (Hh10.out) (fun hHeld=>?_)
          clear hK
          try simp only [Act.put,uA,uB,uC]
          refine zEg 8 rfl (by kernel_rfl) (by rfl) (fun K hK=>?_)
          obtain ⟨hJ,hS,hno,hlF⟩:=HJ.out
          have hb9:=HB9.out
          have hJ9:=hJ.below hb9
          have hba:=zAD w9 (.cells #[.int .i64 e.term,.int .i64 e.kind,.slice pu e.data.length cu,.slice pn e.nodes.length cn] 50)
          have hal:=(hJ9.below hba).row
          rw [Hm.out] at hal
          have hxx:zAL (w9.alloc (.cells #[.int .i64 e.term,.int .i64 e.kind,.slice pu e.data.length cu,.slice pn e.nodes.length cn] 50)) 4 (.slice (some ⟨w9.heap.size,0,none⟩) 1 1) 1 (entC e (.slice pu e.data.length cu,.slice pn e.nodes.length cn)):=⟨rfl,some ⟨w9.heap.size,0,none⟩,1,rfl,fun e=>(by cases e),fun a ha i u hu=>by
           cases ha
           rw [add_zero]
           refine zAA (zAI w9 _) ?_
           simpa [entC] using hu⟩
          refine zAj (.tmp 68) (.tmp 71) 78 rfl 50 i4 (.agg #[.int .i64 0,.int .i64 0,.slice none 0 0,.slice none 0 0]) 4 64 Tryz.underlying78 hi4 hz40 hz41 hz42 rfl (by decide) _ m _ rfl hal (.slice (some ⟨w9.heap.size,0,none⟩) 1 1) 1 _ rfl hxx (by simp [entC,Value.oneCell']) (by unfold maxLen;have:=Hml.out;have:=HN40.out;omega) (by have:=Hml.out;have:=HN40.out;omega) ?_
          intro v3 w3 hown3 hgrow3 hloc3
          obtain ⟨hP1,hP2,hP3,hP4⟩:=jouIn_push hJ9 HU.out.1 (fun x hx ho=>by have h1:=HU.out.2 x hx;have h2:=hJ.olt x ho;omega) Hie.out (by rw [Hlk.out];exact HN40.out) hba (by rw [Hm.out];exact hown3) hgrow3 hloc3
          obtain ⟨hQ1,hQ2⟩:=JouF.turned hS hno hlF hP1 (((Chg.of_below hb9).mono fun _ _ h=>h.elim).trans hP2 fun _ _ h=>h) fun x hx=>by
           rcases hx with hx | hx | hx
           ·exact .inl hx
           ·exact .inr (HU.out.2 x hx)
           ·exact (hP3 x hx).imp id fun h=>Nat.le_trans hb9.size h
          have HE:=zh (show JouF w (w3.setCell ⟨j,8,none⟩ v3) j d pre D1 { M with entries:=M.entries ++ es.take (k+1) } F∧Same F w2 (w3.setCell ⟨j,8,none⟩ v3) from ⟨by rw [HTe.out,← List.append_assoc];exact hQ1,Hsk.out.trans hQ2⟩)
          have hbne:∀ x,(Value.slice pe m ce).ownBlock=some x→x≠wr.heap.size:=fun x hx e=>by have:=hJ.olt x (hJ.oe x hx).1;omega
          have hc8:w3.cell? ⟨j,8,none⟩=some (.slice pe m ce):=zAA (hP4.trans hJ9.cells) (i:=8) rfl
          have hf8:w3.frozen? ⟨j,8,none⟩=false:=zAF (hP4.trans hJ9.cells) 8
          have hbx:w3.heap[wr.heap.size]?=some (.cells #[.int .i64 e.term,.int .i64 e.kind,.slice p1 e.data.length c1,.slice p2 e.nodes.length c2] 50 (0,0)):=(hgrow3.block _ (zAC hHeld.2) fun e=>hbne _ e.symm rfl).trans hHeld.2
          obtain ⟨p3,q3,rfl⟩:=OwnR.shape hown3
          clear hJ hS hno hlF hJ9 hba hal hxx hown3 hgrow3 hloc3 hP1 hP2 hP3 hP4 hQ1 hQ2 hbne hb9
          refine hK.out _ _ ⟨hc8,hbx⟩ (fun hHeld=>?_)
          clear hK
          try simp only [Act.put,uA,uB,uC]
          refine gpu 9 (v:=?v23x9) rfl ?_
          simp only [Act.put,uA,uB,uC]
          refine gpu 10 (v:=?v23x10) rfl ?_
          simp only [Act.put,uA,uB,uC]
          refine g_end 11 rfl (by kernel_rfl) (by rfl) (by kernel_rfl) (fun K hK=>?_)
          go_wp2_with fail
          refine hK.out _ _ ?_
          clear hK
          try simp only [Act.put,uA,uB,uC]
          refine g_done (by kernel_rfl) ?_ _
          go_wp2_with fail
          go_roundw
          case rel=>exact ⟨k+1,by omega,by go_num,HE.out.1,HE.out.2⟩
          case measure=>simp [intOf];omega
         ·have het:es.take k=es:=List.take_of_length_le (by rw [Hnn.out];omega)
          rw [het] at hjk
          have HF:=zh (And.intro hjk hsk)
          clear hjk hsk het
          go_wp2_with fail
          go_ret
          rw [HZ.out]
          exact ⟨rfl,HF.out.1,HF.out.2⟩
       ·have HZ:=zh (HR2.out.trans (laysJ_err hly he1))
        rw [deadIf_ne M he1] at Hly
        have hne:((e1:Int) != 0)=true:=by simp;omega
        clear hly he1
        go_wp2_with fail
        refine Hly.out.mono ?_
        rintro r w6 ⟨rfl,hj6,hs6⟩
        have HF:=zh (And.intro hj6 (HSr.out.trans hs6))
        clear hj6 hs6 Hly
        go_wp2_with fail
        go_ret
        rw [HZ.out]
        exact ⟨rfl,HF.out.1,HF.out.2⟩
end
end Go.Proofs.YtapfnehdgailmaaGreat
