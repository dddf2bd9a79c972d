/- What the program's functions and the document's do, and plain laws, for PJournalPlays. -/
import Derived.Test.YtapfnehdgailmaaGreatJE
import Derived.Test.YtapfnehdgailmaaGreatJF
import Derived.Test.YtapfnehdgailmaaGreatJG
import Derived.Test.YtapfnehdgailmaaGreatJH
import Derived.Test.YtapfnehdgailmaaGreatJL
import Derived.Test.YtapfnehdgailmaaGreatJN
open Go.Proofs.Tryz
set_option maxRecDepth 100000
set_option maxHeartbeats 64000000
namespace Go.Proofs.YtapfnehdgailmaaGreat
open Go.RowKit Go.Sat Go.Maps
/-! ### Where names stand -/
section
variable {α:Type}
theorem key_ne {n m:Bs}(h:n≠m):(n==m)=false:=by simpa using h
theorem zF1 (n m:Bs)(a:α)(r:List (Bs×α)):Sat.get n ((m,a)::r)=if m=n then some a else Sat.get n r:=by
 unfold Sat.get;rw[List.find?_cons]
 by_cases e:m=n
 ·rw[if_pos e];simp[e]
 ·rw[if_neg e];simp[key_ne e]
theorem del_cons (n m:Bs)(a:α)(r:List (Bs×α)):del n ((m,a)::r)=if m=n then del n r else(m,a)::del n r:=by
 unfold del;rw[List.filter_cons]
 by_cases e:m=n
 ·rw[if_pos e];simp[e]
 ·rw[if_neg e];simp[key_ne e]
theorem srt_after {n m:Bs}{a:α}{r:List (Bs×α)}(h:Srt ((m,a)::r))(f:bytesBefore m n=false):∀p∈r,p.1≠n∧bytesBefore n p.1=true:=by
 intro p g;have b:=(List.pairwise_cons.1 h).1 p g;have b:bytesBefore m p.1=true:=b
 by_cases e:m=n
 ·subst e;exact⟨(bb_ne b).symm,b⟩
 ·rcases zFC m n e with c|c
  ·rw[f]at c;cases c
  ·have d:=zDB c b;exact⟨(bb_ne d).symm,d⟩
theorem zGN (n:Bs):∀{L:List (Bs×α)},Srt L→isAt n (L.map (·.1))=(Sat.get n L).isSome∧∀a,Sat.get n L=some a→L[zA5 n (L.map (·.1))]?=some (n,a)
 | [],_=>⟨rfl,fun a h=>by cases h⟩
 | (m,a)::r,h=>by
  have j:Srt r:=(List.pairwise_cons.1 h).2;obtain⟨d,f⟩:=zGN n j;cases c:bytesBefore m n with
  | true =>
   have e:m≠n:=bb_ne c;have es:zA5 n (((m,a)::r).map (·.1))=zA5 n (r.map (·.1))+1:=zEC c;rw[zF1,if_neg e];refine⟨?_,fun x b=>?_⟩
   ·rw[←d];unfold isAt;rw[es];rfl
   ·rw[es];exact f x b
  | false =>
   have es:zA5 n (((m,a)::r).map (·.1))=0:=zFU c
   by_cases e:m=n
   ·subst e;rw[zF1,if_pos rfl];refine⟨?_,fun x b=>?_⟩
    ·unfold isAt;rw[es];simp
    ·rw[es];cases b;rfl
   ·have g:Sat.get n r=none:=zCy.2 fun p i=>(srt_after h c p i).1;rw[zF1,if_neg e,g];refine⟨?_,fun x b=>by cases b⟩;unfold isAt;rw[es];simp[e]
theorem del_after {n m:Bs}{a:α}{r:List (Bs×α)}(h:Srt ((m,a)::r))(b:bytesBefore m n=false):del n r=r:=zDh (zCy.2 fun p c=>(srt_after h b p c).1)
theorem del_at (n:Bs):∀{L:List (Bs×α)},Srt L→isAt n (L.map (·.1))=true→del n L=L.take (zA5 n (L.map (·.1)))++L.drop (zA5 n (L.map (·.1))+1)
 | [],_,h=>by cases h
 | (m,a)::r,h,ha=>by
  have d:Srt r:=(List.pairwise_cons.1 h).2;cases b:bytesBefore m n with
  | true =>
   have es:zA5 n (((m,a)::r).map (·.1))=zA5 n (r.map (·.1))+1:=zEC b;have c:isAt n (r.map (·.1))=true:=by
    rw[←ha];unfold isAt;rw[es];rfl
   rw[del_cons,if_neg (bb_ne b),es,List.take_succ_cons,List.drop_succ_cons,del_at n d c];rfl
  | false =>
   have es:zA5 n (((m,a)::r).map (·.1))=0:=zFU b;have e:m=n:=by
    unfold isAt at ha;rw[es]at ha;simpa using ha
   rw[del_cons,if_pos e,es,del_after h b];rfl
theorem ins_at (n:Bs)(f:α):∀{L:List (Bs×α)},Srt L→Sat.get n L=none→ins (n,f) L=L.take (zA5 n (L.map (·.1)))++(n,f)::L.drop (zA5 n (L.map (·.1)))
 | [],_,_=>rfl
 | (m,a)::r,h,i=>by
  have j:Srt r:=(List.pairwise_cons.1 h).2;have d:m≠n:=fun e=>by rw[zF1,if_pos e]at i;cases i
  cases g:bytesBefore m n with
  | true =>
   have es:zA5 n (((m,a)::r).map (·.1))=zA5 n (r.map (·.1))+1:=zEC g;have b:bytesBefore n m=false:=by
    cases c:bytesBefore n m with
    | false=>rfl
    | true =>
     have:=zDB c g;rw[zDR]at this;cases this
   rw[zF1,if_neg d]at i
   show(if bytesBefore n m then _ else _)=_
   rw[if_neg (by simp[b]),es,List.take_succ_cons,List.drop_succ_cons,ins_at n f j i];rfl
  | false =>
   have es:zA5 n (((m,a)::r).map (·.1))=0:=zFU g;have b:bytesBefore n m=true:=by
    rcases zFC m n d with c|c
    ·rw[g]at c;cases c
    ·exact c
   show(if bytesBefore n m then _ else _)=_
   rw[if_pos b,es];rfl
theorem put_at (n:Bs)(f:α):∀{L:List (Bs×α)},Srt L→isAt n (L.map (·.1))=true→put n f L=L.set (zA5 n (L.map (·.1))) (n,f)
 | [],_,h=>by cases h
 | (m,a)::r,h,ha=>by
  have i:Srt r:=(List.pairwise_cons.1 h).2;cases b:bytesBefore m n with
  | true =>
   have es:zA5 n (((m,a)::r).map (·.1))=zA5 n (r.map (·.1))+1:=zEC b;have c:isAt n (r.map (·.1))=true:=by
    rw[←ha];unfold isAt;rw[es];rfl
   have d:bytesBefore n m=false:=by
    cases g:bytesBefore n m with
    | false=>rfl
    | true =>
     have:=zDB g b;rw[zDR]at this;cases this
   rw[es,List.set_cons_succ,←put_at n f i c]
   show ins (n,f) (del n ((m,a)::r))=_
   rw[del_cons,if_neg (bb_ne b)]
   show(if bytesBefore n m then _ else _)=_
   rw[if_neg (by simp[d])];rfl
  | false =>
   have es:zA5 n (((m,a)::r).map (·.1))=0:=zFU b;have e:m=n:=by
    unfold isAt at ha;rw[es]at ha;simpa using ha
   rw[es,List.set_cons_zero]
   show ins (n,f) (del n ((m,a)::r))=_
   rw[del_cons,if_pos e,del_after h b];cases r with
   | nil=>rfl
   | cons p q =>
    have:=(srt_after h b p (List.mem_cons_self ..)).2
    show(if bytesBefore n p.1 then _ else _)=_
    rw[if_pos this]
end
section
variable {w:World} {r:Nat} {v:Value} {L:List zAQ} {own:Nat→Prop} {D:zAA}
theorem zAd.names (h:zAd w r v L own D):L.map zAQ.n=D.files.map (·.1):=by
 rw[h.files,List.map_map];rfl
theorem zAd.is (h:zAd w r v L own D)(n:Bs):isAt n (L.map zAQ.n)=(Sat.get n D.files).isSome:=by
 rw[h.names];exact(zGN n h.ok.srt).1
theorem zAd.hit (h:zAd w r v L own D){n:Bs}{f:zAW}(d:Sat.get n D.files=some f):∃x,L[zA5 n (L.map zAQ.n)]?=some x∧x.n=n∧x.f=f:=by
 have b:=(zGN n h.ok.srt).2 f d;rw[h.names];rw[h.files]at b ⊢;rw[List.getElem?_map]at b;cases c:L[zA5 n (List.map (fun x=>x.fst) (List.map zAQ.key L))]? with
 | none=>rw[c]at b;cases b
 | some x =>
  rw[c]at b;have:=Option.some.inj b;exact⟨x,rfl,congrArg Prod.fst this,congrArg Prod.snd this⟩
end
/-! ### may,did -/
theorem rmay_burnt (d:Nat)(p:Option Addr)(n c:Nat)(w:World)(b:w.cell? ⟨d,2,none⟩=some (.int .i64 0)) :
  Calls prog 69 #[.pointer (some ⟨d,0,none⟩),.slice p n c] w fun e w'=>e=.returned (.int .i64 9)∧w=w':=by
 go_enter func69,ntmps69
 go_wp2
 go_ret;exact⟨rfl,rfl⟩
theorem rmay_names (d:Nat)(p:Option Addr)(g:List ByteArray)(c:Nat)(w:World)(l:Int)(B:w.cell? ⟨d,2,none⟩=some (.int .i64 l))
  (D:(l==0)=false) (A:zEm w p g) (E:g.length≤140737488355328) (v:∀s∈g,s.size≤9223372036854775807) :
  Calls prog 69 #[.pointer (some ⟨d,0,none⟩),.slice p g.length c] w fun e w'=>e=.returned (.int .i64 (namesE g))∧w=w':=by
 go_enter func69,ntmps69
 go_wp2
 go_loop [5] (fun i=>∃k:Nat,k≤g.length∧i=.int .i64 k∧((g.take k).map nm).all okN=true) (fun i=>g.length-(intOf i).toNat)
 case atStart=>exact⟨0,Nat.zero_le _,rfl,rfl⟩
 case round =>
  obtain⟨k,C,rfl,f⟩:=hrel
  by_cases j:k<g.length
  ·have t:g[k]?=some g[k]:=List.getElem?_eq_getElem j;rcases A with h|⟨b,o,rfl,a⟩
   ·subst h;simp at j
   have y:=a k _ t;have F:g[k].size≤9223372036854775807:=v _ (List.getElem_mem j);have m:=zh (take_ok j f);have n:=zh (bad_at j);clear a v f t;rw[okN_nm]at m n;generalize g[k]=s at *
   by_cases z:1≤s.size
   ·by_cases r:s.size≤64
    ·go_wp2
     go_round
     case rel=>exact⟨k+1,by omega,by go_num,m.o (by simp[z,r])⟩
     case measure=>simp[intOf];omega
    ·go_wp2
     go_ret;exact⟨by rw[n.o (by simp[r])];rfl,rfl⟩
   ·go_wp2
    go_ret;exact⟨by rw[n.o (by simp[z])];rfl,rfl⟩
  ·have q:=zh f;clear f
   go_wp2
   go_ret;have h:=q.o;rw[List.take_of_length_le (by omega)]at h;exact⟨by simp[namesE,h],rfl⟩
section
variable {w:World} {r:Nat} {v:Value} {L:List zAQ} {own:Nat→Prop} {D:zAA}
theorem left_zero {f:Option Nat}(h:f≠some 0):(zFY f==0)=false:=by
 cases f with
 | none=>rfl
 | some k =>
  have:k≠0:=fun e=>h (by rw[e]);simp[zFY];omega
theorem zCS (h:zAd w r v L own D)(p:Option Addr)(b:List ByteArray)(c:Nat)(j:zEm w p b)(i:b.length≤140737488355328)(g:∀s∈b,s.size≤9223372036854775807) :
  Calls prog 69 #[.pointer (some ⟨r,0,none⟩),.slice p b.length c] w fun e w'=>e=.returned (.int .i64 (D.may (b.map nm):Int))∧w=w':=by
 have f:=h.c2
 by_cases d:D.fuse=some 0
 ·rw[d]at f;refine(rmay_burnt r p b.length c w f).mono ?_;rintro e w' ⟨rfl,rfl⟩;exact⟨by simp[zAA.may,d],rfl⟩
 ·refine(rmay_names r p b c w _ f (left_zero d) j i g).mono ?_;rintro e w' ⟨rfl,rfl⟩;refine⟨?_,rfl⟩;unfold namesE zAA.may;rw[if_neg d]
  split<;>rfl
theorem zAd.fuse_set (h:zAd w r v L own D)(f:Option Nat)(d:∀k,f=some k→k≤9223372036854775807):zAd (w.setCell ⟨r,2,none⟩ (.int .i64 (zFY f))) r v L own {D with fuse:=f} where
 cells:=zAC h.cells 2 _
 row:=h.row.keep fun k b=>set_other _ (h.ov k b).2
 files:=h.files
 data:=fun x c=>OwnR.keep (h.data x c) fun k b=>set_other _ (h.ob x c k b).2.1
 or:=h.or
 ov:=h.ov
 ob:=h.ob
 olt:=fun k b=>by
  have:=h.olt k b;simpa[World.setCell]using this
 ok:={h.ok with fuse:=d}
theorem zDo {a:Addr}{u:Value}(h:own a.block):Chg own w (w.setCell a u):=(Chg.setCell w a u).mono fun k _ e=>by rw[e];exact h
theorem zCr (h:zAd w r v L own D)(l:D.fuse≠some 0) :
  Calls prog 72 #[.pointer (some ⟨r,0,none⟩)] w fun e w'=>e=.returned (.int .i64 0)∧zAd w' r v L own D.done∧Chg own w w':=by
 have c:=h.c2;have q:=zAE h.cells 2;cases b:D.fuse with
 | none =>
  rw[b]at c;have d:D.done=D:=by unfold zAA.done;rw[b];cases D;simp at b;subst b;rfl
  have f:=zW (zAd w r v L own D.done∧Chg own w w) (⟨by rw[d];exact h,Chg.refl _ _⟩);have g:w.cell? ⟨r,2,none⟩=some (.int .i64 (-1)):=c;clear h l b d c
  go_enter func72,ntmps72
  go_wp2
  go_ret;exact⟨rfl,f.o⟩
 | some k =>
  rw[b]at c;have n:k≠0:=fun e=>l (by rw[b,e]);have p:k≤9223372036854775807:=h.ok.fuse k b;have d:D.done={D with fuse:=some (k-1) }:=by unfold zAA.done;rw[b];rfl
  have i:=h.fuse_set (some (k-1)) (fun j e=>by have:=Option.some.inj e;omega);have m:zFY (some (k-1))=(k:Int)-1:=by show((k-1:Nat):Int)=_;omega
  rw[m,←d]at i;have f:=zh (And.intro i (zDo (w:=w) (a:=⟨r,2,none⟩) (u:=.int .i64 ((k:Int)-1)) h.or));have g:w.cell? ⟨r,2,none⟩=some (.int .i64 (k:Int)):=c;clear h l b d c i m
  go_enter func72,ntmps72
  go_wp2
  go_ret;exact⟨rfl,f.o⟩
theorem rfuse_calls (h:zAd w r v L own D)(n:Int)(hn:n≤9223372036854775807)(f:-9223372036854775808≤n) :
  Calls prog 49 #[.pointer (some ⟨r,0,none⟩),.int .i64 n] w fun e w'=>e=.returned (.tuple #[])∧zAd w' r v L own (D.setFuse n)∧Chg own w w':=by
 have g:=h.c2;have i:=zAE h.cells 2;have b:=h.fuse_set (if n<0 then none else some n.toNat) (fun k e=>by split at e<;>simp at e;omega);have c:zFY (if n<0 then none else some n.toNat)=max (-1) n:=by
  split
  ·show(-1:Int)=_
   omega
  ·show((n.toNat:Nat):Int)=_
   omega
 rw[c]at b;have d:=zW (zAd (w.setCell ⟨r,2,none⟩ (.int .i64 (max (-1) n))) r v L own (D.setFuse n)∧Chg own w (w.setCell ⟨r,2,none⟩ (.int .i64 (max (-1) n)))) (⟨b,zDo h.or⟩);clear h b c
 go_enter func49,ntmps49
 go_wp2
 go_end0
 exact⟨rfl,d.o⟩
end
theorem rnew_calls (w:World)(n:Int)(d:0≤n)(f:n≤1073741824) :
  Calls prog 14 #[.int .i64 n] w fun e w'=>∃r,e=.returned (.tuple #[.pointer (some ⟨r,0,none⟩),.int .i64 0])∧zAd w' r (.slice none 0 0) [] (fun k=>k=r) (zAA.fresh n.toNat)∧Below w.heap.size w w'∧w.heap.size≤r:=by
 obtain⟨m,rfl⟩:∃m:Nat,n=(m:Int):=⟨n.toNat,by omega⟩
 go_enter func14,ntmps14
 go_wp2
 go_ret2
 refine⟨w.heap.size,rfl,?_,(Below.refl _ _).alloc (Nat.le_refl _) _,Nat.le_refl _⟩;exact {
  cells:=zAI w _
  row:=OwnR.nil _ _ _
  files:=rfl
  data:=fun x c=>by cases c
  or:=rfl
  ov:=fun k b=>by cases b
  ob:=fun x c=>by cases c
  olt:=fun k b=>by rw[b];simp
  ok:=ok_fresh _ (by rw[Int.toNat_natCast];omega) }
theorem has_names {w:World}(cs:Array Value)(ns:List Bs)(g n c:Nat)(k:g=w.heap.size)(hn:n=ns.length)(h:cs.toList=ns.map encStr)(e:TypeId)(f:Nat×Nat):HasN (w.alloc (.cells cs e f)) (.slice (some ⟨g,0,none⟩) n c) ns:=by
 subst k;subst hn;refine⟨by simp,some ⟨w.heap.size,0,none⟩,c,rfl,fun e=>(by cases e),fun a j i u b=>?_⟩;cases j;have d:(⟨w.heap.size,0,none⟩:Addr).add i=⟨w.heap.size,i,none⟩:=by unfold Addr.add;split<;>simp_all
 rw[d];refine zAG (zAI w _) ?_;rw[←h]at b;simpa using b
theorem OwnN.has {w:World}{v:Value}{ns:List Bs}(h:OwnN w v ns):HasN w v ns:=OwnR.holds h
theorem zA0 {d:World}{v v':Value}{B:Nat}(b:v'.ownBlock=v.ownBlock∨∃g,v'.ownBlock=some g∧d.heap.size≤g)(i:∀k,v.ownBlock=some k→B≤k)(j:B≤d.heap.size):∀k,v'.ownBlock=some k→B≤k:=fun k c=>by
 rcases b with e|⟨g,e,f⟩
 ·exact i k (by rw[←e];exact c)
 ·rw[e]at c;cases c;omega
theorem HasN.below {w w1:World}{v:Value}{l:List Bs}(h:HasN w v l)(b:Below w.heap.size w w1):HasN w1 v l:=zAK.chg h (Chg.of_below b) fun _ _=>id
theorem zFt (w:World)(o:Obj){k:Nat}(h:k<w.heap.size):(w.alloc o).heap[k]?=w.heap[k]?:=((Below.refl w.heap.size w).alloc (Nat.le_refl _) o).block k h
def zFz (L:List zAQ):Nat:=(L.map fun x=>x.f.data.length).sum
theorem flens_take (L:List zAQ){k:Nat}{x:zAQ}(h:L[k]?=some x):zFz (L.take (k+1))=zFz (L.take k)+x.f.data.length:=by
 obtain⟨b,rfl⟩:=List.getElem?_eq_some_iff.1 h;rw[List.take_succ_eq_append_getElem b];simp only[zFz,List.map_append,List.map_cons,List.map_nil,List.sum_append,List.sum_cons,List.sum_nil,Nat.add_zero]
theorem flens_le (L:List zAQ)(k:Nat):zFz (L.take k)≤zFz L:=by
 have e:zFz L=zFz (L.take k)+zFz (L.drop k):=by
  conv=>lhs;rw[←List.take_append_drop k L]
  simp only[zFz,List.map_append,List.sum_append]
 omega
section
variable {w:World} {r:Nat} {v:Value} {L:List zAQ} {own:Nat→Prop} {D:zAA}
theorem zAd.used (h:zAd w r v L own D):D.used=zFz L:=by
 unfold zAA.used zBZ zFz;rw[h.files,List.map_map];rfl
theorem zAd.len_le (h:zAd w r v L own D){k:Nat}{x:zAQ}(b:L[k]?=some x):x.f.data.length≤1073741824:=by
 have c:=flens_take L b;have d:=flens_le L (k+1);have g:=h.used;have i:=h.ok.used;have j:=h.ok.room;omega
theorem zFm (h:zAd w r v L own D) :
  Calls prog 71 #[.pointer (some ⟨r,0,none⟩)] w fun e w'=>e=.returned (.int .i64 (D.used:Int))∧w'=w:=by
 obtain⟨p,c,rfl⟩:=h.slice;have O:=h.c1;have q:=zh h.at
 have s:=zh h.data;have l:L.length≤4096:=by rw[h.len];exact h.ok.count
 have M:=zh h.used;have d:D.used≤1073741824:=Nat.le_trans h.ok.used h.ok.room;rw[h.used]at d ⊢;have t:=zh d;clear h d;generalize G:L.length=N at *;have E:=zh G;clear G
 go_enter func71,ntmps71
 go_wp2_with fail
 go_loop [3,4] (fun a i=>∃k:Nat,k≤N∧i=.int .i64 k∧a=.int .i64 (zFz (L.take k):Int)) (fun _ i=>N-(intOf i).toNat)
 case atStart=>exact⟨0,Nat.zero_le _,rfl,rfl⟩
 case round =>
  obtain⟨k,T,rfl,rfl⟩:=hrel
  by_cases A:k<N
  ·have b:k<L.length:=by rw[E.o];exact A
   obtain⟨y,n⟩:∃y,L[k]?=some y:=⟨_,List.getElem?_eq_getElem b⟩;have j:y∈L:=List.mem_of_getElem? n;rcases q.o with Q|⟨g,O,P,-,H⟩
   ·rw[Q]at b;simp at b
   cases P;obtain⟨-,B,-⟩:=H k y n;obtain⟨pb,cb,F⟩:=zAb.slice (s.o y j).has;rw[F]at B;have I:=flens_take L n;have z:=flens_le L (k+1);have J:=zh I;have R:zFz (L.take k)+y.f.data.length≤1073741824:=by have:=t.o;omega
   clear H b n j F I z;generalize y.f.data.length=m at *;generalize S:zFz (L.take k)=C at *;go_wp2_with fail
   go_round
   case rel=>exact⟨k+1,by omega,by go_num,by rw[J.o];go_num⟩
   case measure=>simp[intOf];omega
  ·have e:L.take k=L:=List.take_of_length_le (by rw[E.o];omega);rw[e];go_wp2_with fail;go_ret;exact⟨rfl,rfl⟩
theorem zCM (h:zAd w r v L own D)(s:ByteArray) :
  Calls prog 81 #[.pointer (some ⟨r,0,none⟩),.string s] w (ReadPost w (Sat.get (nm s) D.files)):=by
 have d:=zBm h s;rw[h.is]at d;have V:=h.c1;cases N:Sat.get (nm s) D.files with
 | none =>
  rw[N]at d;have C:=zh d;clear d V h
  go_enter func81,ntmps81
  go_wp2_with fail;refine C.o.mono ?_;rintro e w2 ⟨rfl,q,rfl⟩;go_wp2_with fail
  go_ret2
  exact⟨.slice none 0 0,rfl,OwnR.nil _ _ _,fun k Q=>(by cases Q),⟨rfl,rfl,rfl,Nat.le_refl _,fun _ _=>rfl⟩⟩
 | some f =>
  rw[N]at d;obtain⟨x,J,ad,rfl⟩:=h.hit N;have ac:=h.len_le J;have M:=(h.data x (List.mem_of_getElem? J)).has;have W:zA5 (nm s) (L.map zAQ.n)<L.length:=(List.getElem?_eq_some_iff.1 J).1;generalize zA5 (nm s) (L.map zAQ.n)=i at *;rcases h.at with h0|⟨g,c0,rfl,ab,Y⟩
  ·rw[h0]at W;simp at W
  obtain⟨-,H,-⟩:=Y i x J;obtain⟨pb,cb,eb⟩:=zAb.slice M;rw[eb]at H M;have I:r<w.heap.size:=h.olt r h.or;have G:g<w.heap.size:=h.olt g (h.ov g rfl).1;have C:=zh d;have K:=zh M;have P:zCj (some x.f)=x.f.data:=rfl;generalize x.f.data=l at *;generalize a:l.length=m at *;have z:=zh a;obtain⟨i0,hi,R,S,T⟩:=info_parts (show(prog.info? 5).map (fun i=>(i.zero,i.size,i.bytes))=some (some (.int .u8 0),1,1) by kernel_rfl);clear d h Y J M N a
  go_enter func81,ntmps81
  go_wp2_with fail;refine C.o.mono ?_;rintro e w2 ⟨rfl,q,rfl⟩;have F:Below w.heap.size w (w.drewN q):=⟨rfl,rfl,rfl,Nat.le_refl _,fun _ _=>rfl⟩;have y:=zh (F.alloc (Nat.le_refl _) (.cells #[] 5));have O:=zW (zAK ((w.drewN q).alloc (.cells #[] 5)) 1 (.slice pb m cb) m (zAR l)) (by
   have h:=K.o.below y.o;unfold zAb at h;rw[z.o]at h;exact h)
  have aa:=(y.o.cell (p:=⟨r,1,none⟩) I).trans V;have Z:=(y.o.cell (p:=⟨g,i*3+1,none⟩) G).trans H;clear F;go_wp2_with (at_builtin;refine zAO ((w.drewN q).alloc (.cells #[] 5)) rfl (.tmp 16) (.tmp 24) 22 rfl 5 i0 (.int .u8 0) 1 1 underlying22 hi R S T rfl (by decide) (.slice (some ⟨w.heap.size,0,none⟩) 0 0) 0 [] rfl (zAx (w.drewN q) _) (.slice pb m cb) m (zAR l) rfl O.o (zAN _) (by unfold maxLen;omega) (by omega) ?_;intro U ae b c t;rw[Nat.zero_add,List.nil_append]at b;have X:=y.o.grown c y.o.size (fun j e=>by simp[Value.ownBlock]at e;omega);have A:=zA0 (B:=w.heap.size) t (fun k Q=>by simp[Value.ownBlock]at Q;omega) y.o.size;have E:=zh (And.intro X (And.intro b A));clear b c t X A)
  go_ret2
  refine⟨U,rfl,?_,E.o.2.2,E.o.1⟩;unfold zAi;rw[P,z.o];exact E.o.2.1
theorem str_one {w:World}(x:Bs):zAK (w.alloc (.cells #[.string ⟨x.toArray⟩] 9)) 1 (.slice (some ⟨w.heap.size,0,none⟩) 1 1) 1 [encStr x]:=has_names (w:=w) #[.string ⟨x.toArray⟩] [x] _ 1 1 rfl rfl rfl 9 (0,0)
theorem rlist_calls (h:zAd w r v L own D) :
  Calls prog 141 #[.pointer (some ⟨r,0,none⟩)] w (Listed w D):=by
 obtain⟨p,c,rfl⟩:=h.slice;have c1:=h.c1;have U:=zh h.at
 have T:L.length≤4096:=by rw[h.len];exact h.ok.count
 have m:zCK D=L.map zAQ.n:=by rw[h.names];rfl
 have Q:r<w.heap.size:=h.olt r h.or;have C:∀k,(Value.slice p L.length c).ownBlock=some k→k<w.heap.size:=fun k hk=>h.olt k (h.ov k hk).1;have z:=zh m;have G:=zh C;clear h m C;have J:(L.map zAQ.n).length=L.length:=List.length_map ..;have F:=zh J;generalize hN:L.length=N at *;have HN:=zh hN;clear hN J;obtain⟨i0,hi,K,aa,ab⟩:=info_parts (show(prog.info? 9).map (fun i=>(i.zero,i.size,i.bytes))=some (some (.string ⟨#[]⟩),1,16) by kernel_rfl)
 go_enter func141,ntmps141
 go_wp2_with fail
 go_loopw [3,4] (fun a i wr=>∃k:Nat,k≤N∧i=.int .i64 k∧OwnR wr 9 1 a k (((L.map zAQ.n).take k).map encStr)∧(∀j,a.ownBlock=some j→w.heap.size≤j)∧Below w.heap.size w wr) (fun _ i _=>N-(intOf i).toNat)
 case atStart=>exact⟨0,Nat.zero_le _,rfl,OwnR.nil _ _ _,fun j M=>(by cases M),Below.refl _ _⟩
 case round =>
  obtain⟨k,hk,rfl,b,q,d⟩:=hrel;have ac:=(d.cell (p:=⟨r,1,none⟩) Q).trans c1
  by_cases Y:k<N
  ·have A:k<L.length:=by rw[HN.o];exact Y
   obtain⟨y,Z⟩:∃y,L[k]?=some y:=⟨_,List.getElem?_eq_getElem A⟩;have S:(L.map zAQ.n)[k]?=some y.n:=by rw[List.getElem?_map,Z];rfl
   have R:(L.map zAQ.n).take (k+1)=(L.map zAQ.n).take k++[y.n]:=by rw[List.take_add_one,S];rfl
   rcases U.o with h0|⟨g,cc,e1,-,hc⟩
   ·rw[h0]at A;simp at A
   cases e1;obtain⟨O,-,-⟩:=hc k y Z;have P:=(d.cell (p:=⟨g,k*3,none⟩) (G.o g rfl)).trans O;rw[enc_str]at P;obtain⟨pa,W,rfl⟩:=OwnR.shape b;have V:=zh R;have H:=zh (OwnR.keep b fun j M=>zFt wr (.cells #[.string ⟨y.n.toArray⟩] 9) (OwnR.lt b M));have B:=zh q;have t:=zh (d.alloc d.size (.cells #[.string ⟨y.n.toArray⟩] 9));have I:=zh (str_one (w:=wr) y.n);clear b q d hc O Z S R A;generalize y.n=x at *;go_wp2_with (at_builtin;refine zAO (wr.alloc (.cells #[.string ⟨x.toArray⟩] 9)) rfl (.tmp 14) (.tmp 23) 141 rfl 9 i0 (.string ⟨#[]⟩) 1 16 underlying141 hi K aa ab rfl (by decide) (.slice pa k W) k _ rfl H.o (.slice (some ⟨wr.heap.size,0,none⟩) 1 1) 1 [encStr x] rfl I.o (fun u hu=>by simp at hu;subst hu;rfl) (by unfold maxLen;omega) (by omega) ?_;intro ad ae s f l;have E:=zh (And.intro s (And.intro f l));clear s f l)
   go_roundw
   case rel =>
    refine⟨k+1,by omega,by go_num,?_,zA0 E.o.2.2 B.o t.o.size,t.o.grown E.o.2.1 t.o.size (fun j M=>B.o j M)⟩;have h1:=E.o.1;rw[V.o,List.map_append];exact h1
   case measure=>simp[intOf];omega
  ·have X:k=N:=by omega
   subst X;have e:(L.map zAQ.n).take k=L.map zAQ.n:=List.take_of_length_le (by rw[F.o];exact Nat.le_refl _);rw[e]at b;obtain⟨pa,W,rfl⟩:=OwnR.shape b;have Hf:=zW (Listed w D (.returned (.slice pa k W)) wr) (⟨_,rfl,by unfold OwnN;rw[z.o,F.o];exact b,q,d⟩);clear b q d;go_wp2_with fail;go_ret;exact Hf.o
end
structure RRIn (w:World)(r:Nat)(R:Rd)(p:Option Addr)(n c:Nat):Prop where
 cells:w.heap[r]?=some (.cells #[.slice p n c,.bool R.bad] 148 (0,0))
 has:zAb w (.slice p n c) R.rest
 cap:n≤c
 ne:(Value.slice p n c).ownBlock≠some r
 len:R.rest.length≤140737488355328
 inv:R.bad=true→R.rest=[]
def RdY (A:Nat→Prop)(w:World)(r:Nat)(R:Rd):Prop:=∃p n c,RRIn w r R p n c∧∀k,(Value.slice p n c).ownBlock=some k→A k
theorem RRIn.n_eq {w:World}{r:Nat}{R:Rd}{p:Option Addr}{n c:Nat}(h:RRIn w r R p n c):R.rest.length=n:=by obtain⟨_,_,e⟩:=h.has.slice;simp only[Value.slice.injEq]at e;exact e.2.1.symm
theorem RRIn.rlt {w:World}{r:Nat}{R:Rd}{p:Option Addr}{n c:Nat}(h:RRIn w r R p n c):r<w.heap.size:=zAB h.cells
theorem RdY.lt {A:Nat→Prop}{w:World}{r:Nat}{R:Rd}(h:RdY A w r R):r<w.heap.size:=let ⟨_,_,_,h,_⟩:=h;h.rlt
theorem RdY.len {A:Nat→Prop}{w:World}{r:Nat}{R:Rd}(h:RdY A w r R):R.rest.length≤140737488355328:=let ⟨_,_,_,h,_⟩:=h;h.len
theorem RdY.inv {A:Nat→Prop}{w:World}{r:Nat}{R:Rd}(h:RdY A w r R):R.bad=true→R.rest=[]:=let ⟨_,_,_,h,_⟩:=h;h.inv
theorem RdY.chg {A S:Nat→Prop}{w w':World}{r:Nat}{R:Rd}(h:RdY A w r R)(d:Chg S w w')(i:¬S r)(f:∀k,A k→¬S k):RdY A w' r R:=by
 obtain⟨p,n,c,h,b⟩:=h;exact⟨p,n,c,⟨(d.block r h.rlt i).trans h.cells,zAb.chg h.has d fun k g=>f k (b k g),h.cap,h.ne,h.len,h.inv⟩,b⟩
theorem RdY.below {A:Nat→Prop}{w w':World}{r:Nat}{R:Rd}(h:RdY A w r R)(b:Below w.heap.size w w'):RdY A w' r R:=h.chg (Chg.of_below b) id fun _ _=>id
theorem RdY.c1 {A:Nat→Prop}{w:World}{r:Nat}{R:Rd}(h:RdY A w r R):w.cell? ⟨r,1,none⟩=some (.bool R.bad):=let ⟨_,_,_,h,_⟩:=h;zAG h.cells rfl
def RStepY (A:Nat→Prop)(w:World)(r:Nat)(b:Rd)(v:Value)(e:Ending)(w':World):Prop:=e=.returned v∧RdY A w' r b∧Chg (fun k=>k=r) w w'
def NumY (A:Nat→Prop)(w:World)(r:Nat)(R:Rd)(e:Ending)(w':World):Prop:=e=.returned (.int .i64 (R.num.1:Int))∧RdY A w' r R.num.2∧Chg (fun k=>k=r) w w'
def RowY (A:Nat→Prop)(w:World)(r:Nat)(b:Bs)(c:Rd)(e:Ending)(w':World):Prop :=
 ∃v,e=.returned v∧zAi w' 5 v b∧(∀j,v.ownBlock=some j→w.heap.size≤j)∧RdY A w' r c∧Chg (fun j=>j=r) w w'
theorem copy_new {w w':World}{e:TypeId}{v:Value}{l:Bs}{m:Nat}(j:l.length=m)(b:OwnR w' e 1 v (0+m) ([]++zAR l))(f:(w.alloc (.cells #[] e)).grownBy w' (some w.heap.size))(i:v.ownBlock=some w.heap.size∨∃g,v.ownBlock=some g∧(w.alloc (.cells #[] e)).heap.size≤g) :
  zAi w' e v l∧(∀k,v.ownBlock=some k→w.heap.size≤k)∧Below w.heap.size w w':=by
 subst j;rw[Nat.zero_add,List.nil_append]at b;refine⟨b,fun k c=>?_,(zAD w _).trans ((Chg.of_grown f).below (by simp) fun k c e=>?_)⟩
 ·rcases i with h|⟨g,h,d⟩
  ·rw[h]at c;cases c;exact Nat.le_refl _
  ·rw[h]at c;cases c;simp at d;omega
 ·have:=Option.some.inj e;omega
section
variable {w:World} {r:Nat} {R:Rd} {p:Option Addr} {n c:Nat} {A:Nat→Prop}
theorem zEX (h:RdY A w r R) :
  Calls prog 164 #[.pointer (some ⟨r,0,none⟩)] w (RStepY A w r Rd.fail (.tuple #[])):=by
 obtain⟨p,n,c,h,l⟩:=h;have j:w.cell? ⟨r,0,none⟩=some (.slice p n c):=zAG h.cells rfl;have b:w.cell? ⟨r,1,none⟩=some (.bool R.bad):=zAG h.cells rfl;have m:=fun i=>zAE h.cells i;have d:=zW (RStepY A w r Rd.fail (.tuple #[]) (.returned (.tuple #[])) ((w.setCell ⟨r,1,none⟩ (.bool true)).setCell ⟨r,0,none⟩ (.slice none 0 0))) (⟨rfl,⟨none,0,0,⟨by
  have b:=zAC h.cells 1 (.bool true);have f:=zAC b 0 (.slice none 0 0);simpa[Rd.fail]using f,zAi.has (e:=0) (OwnR.nil _ _ _),Nat.le_refl _,fun h=>(by cases h),Nat.zero_le _,fun _=>rfl⟩,fun k g=>(by cases g)⟩,(Chg.setCell w ⟨r,1,none⟩ _).trans (Chg.setCell _ ⟨r,0,none⟩ _) fun _ _ e=>e⟩)
 clear h
 go_enter func164,ntmps164
 go_wp2_with fail
 go_end0
 exact d.o
theorem zEZ (h:RdY A w r R)(m:Nat)(ad:m≤9223372036854775807) :
  Calls prog 163 #[.pointer (some ⟨r,0,none⟩),.int .i64 (m:Int)] w (RowY A w r (R.raw m).1 (R.raw m).2):=by
 obtain⟨i0,M,U,G,V⟩:=info_parts (show(prog.info? 5).map (fun i=>(i.zero,i.size,i.bytes))=some (some (.int .u8 0),1,1) by kernel_rfl);have J:=zh (zEX h);obtain⟨p,n,c,h,H⟩:=h;have hn:=h.n_eq;have ab:=h.len;have c0:w.cell? ⟨r,0,none⟩=some (.slice p n c):=zAG h.cells rfl;have K:w.cell? ⟨r,1,none⟩=some (.bool R.bad):=zAG h.cells rfl;have d0:decide ((m:Int)<0)=false:=decide_eq_false (by omega)
 by_cases hm:m≤n
 ·have d1:decide ((n:Int)<(m:Int))=false:=decide_eq_false (by omega);have t:R.raw m=(R.rest.take m,⟨R.rest.drop m,R.bad⟩):=by unfold Rd.raw;rw[if_pos (by omega)]
  rw[t];cases g:R.bad with
  | true =>
   have d:=h.inv g;have Q:m=0:=by rw[d]at hn;simp at hn;omega
   subst Q;rw[g]at K;have I:=zW (RowY A w r (R.rest.take 0) ⟨R.rest.drop 0,true⟩ (.returned (.slice none 0 0)) w) (⟨_,rfl,OwnR.nil _ _ _,fun j N=>(by cases N),⟨p,n,c,⟨by rw[←g];exact h.cells,h.has,h.cap,h.ne,h.len,fun _=>d⟩,H⟩,Chg.refl _ _⟩);clear h t H d
   go_enter func163,ntmps163
   go_wp2_with fail;go_ret;exact I.o
  | false =>
   rw[g]at K;obtain⟨p',Z,ag,hh,C,E,D⟩:=run_tailX (P:=prog) underlying22 M G h.has h.cap r m h.ne hm;have ah:∀W,(Instr.slice 22 (.slice p n c) none (some (.int .i64 (m:Int))) none).run prog W=.ok (.slice p m c) W:=fun W=>zB3 W underlying22 M p n c m (by have:=h.cap;omega);have s:=zAD w (.cells #[] 5);have y:=zW (zAK (w.alloc (.cells #[] 5)) 1 (.slice p m c) m (zAR (R.rest.take m))) (by
    have a:=zAb.cut (h.has.below s) (k:=m) (by omega) c;unfold zAb at a;rwa[List.length_take,Nat.min_eq_left (by omega)]at a)
   have L:=zh h;have z:=zh (And.intro hh (And.intro C (And.intro E D)));have T:=h.rlt;have HA:=zh H;have af:=zAH c0 s;have v:=zh g;have Hn:=zh hn;clear hh C E h t H D s
   go_enter func163,ntmps163
   go_wp2_with (at_builtin;refine zAO (w.alloc (.cells #[] 5)) rfl (.tmp 23) (.tmp 29) 22 rfl 5 i0 (.int .u8 0) 1 1 underlying22 M U G V rfl (by decide) (.slice (some ⟨w.heap.size,0,none⟩) 0 0) 0 [] rfl (zAx w _) (.slice p m c) m (zAR (R.rest.take m)) rfl y.o (zAN _) (by unfold maxLen;omega) (by omega) ?_;intro v3 w3 q f l;go_loud (have Y:=zh (copy_new (by rw[List.length_take,Nat.min_eq_left (by have:=Hn.o;omega)]) q f l);have b:w3.heap[r]?=some (.cells #[.slice p n c,.bool R.bad] 148 (0,0)):=(Y.o.2.2.block r T).trans L.o.cells;have ae:=zAU b;have aa:=fun i=>zAE b i;have X:=zh b;clear q f l b))
   go_ret;obtain⟨hv,F,B⟩:=Y.o;have ac:r<w3.heap.size:=zAB X.o;refine⟨v3,rfl,?_,F,⟨p',n-m,Z,⟨?_,?_,z.o.2.1,z.o.2.2.1,?_,fun e=>(by cases e)⟩,fun k O=>HA.o k (z.o.2.2.2 k O)⟩,?_⟩
   ·exact OwnR.keep hv fun k O=>set_other _ fun e=>by
     have:=F k O;have e:k=r:=e;omega
   ·have a:=zAC X.o 0 (.slice p' (n-m) Z);rw[v.o]at a;simpa using a
   ·exact zAb.set (zAb.below z.o.1 B) _ z.o.2.2.1
   ·show(R.rest.drop m).length≤_
    rw[List.length_drop];omega
   ·exact((Chg.of_below B).mono fun _ _ h=>h.elim).trans (Chg.setCell _ ⟨r,0,none⟩ _) fun _ _ e=>e
 ·have d1:decide ((n:Int)<(m:Int))=true:=decide_eq_true (by omega);have t:R.raw m=([],Rd.fail):=by unfold Rd.raw;rw[if_neg (by omega)]
  rw[t];clear h t
  go_enter func163,ntmps163
  go_wp2_with fail;refine J.o.mono ?_;rintro e w1 ⟨rfl,S,C⟩;have e1:=S.c1;have I:=zh (And.intro S C);clear S C;have e1:w1.cell? ⟨r,1,none⟩=some (.bool true):=e1;go_wp2_with fail;go_ret;exact⟨_,rfl,OwnR.nil _ _ _,fun j N=>(by cases N),I.o⟩
theorem zCb (h:RdY A w r R) :
  Calls prog 87 #[.pointer (some ⟨r,0,none⟩)] w fun e w'=>e=.returned (.bool R.whole)∧w'=w:=by
 obtain⟨p,n,c,h,j⟩:=h;have hn:=h.n_eq;have i:w.cell? ⟨r,0,none⟩=some (.slice p n c):=zAG h.cells rfl;have d:w.cell? ⟨r,1,none⟩=some (.bool R.bad):=zAG h.cells rfl;have g:=zW (R.rest.isEmpty=((n:Int)==0)) (by
  rw[Bool.eq_iff_iff,List.isEmpty_iff,←List.length_eq_zero_iff,hn];simp)
 have b:=zW (R.whole=(!R.bad&&R.rest.isEmpty)) rfl;clear h hn;cases f:R.bad with
 | true =>
  rw[f]at d b
  go_enter func87,ntmps87
  go_wp2_with fail;go_ret;exact⟨by rw[b.o];rfl,rfl⟩
 | false =>
  rw[f]at d b
  go_enter func87,ntmps87
  go_wp2_with fail;go_ret;exact⟨by rw[b.o,g.o];rfl,rfl⟩
end
theorem xor_range (a b:Int)(c:0≤a)(d:a<4294967296)(f:0≤b)(g:b<4294967296):0≤bits .xor .u32 a b∧bits .xor .u32 a b<4294967296:=by
 rw[u32_xor a b c d f g];have:a.toNat ^^^ b.toNat<2 ^ 32:=Nat.xor_lt_two_pow (by omega) (by omega);omega
theorem and_one (z:Int)(b:0≤z)(c:z<4294967296):bits .and .u32 z 1=0∨bits .and .u32 z 1=1:=by
 rw[u32_and z 1 b c (by decide) (by decide)];have:z.toNat &&& (1:Int).toNat=z.toNat%2:=Nat.and_one_is_mod _;rw[this];omega
theorem bitF_one {z:Int}(h:bits .and .u32 z 1=1):bitF z=bits .xor .u32 (z/2) 3988292384:=by
 unfold bitF;rw[h]
 congr 1
theorem bitF_zero {z:Int}(b:0≤z)(c:z<4294967296)(h:bits .and .u32 z 1=0):bitF z=z/2:=by
 unfold bitF;rw[h];have e:bits .and .u32 3988292384 (-0%4294967296)=0:=by decide
 rw[e,u32_xor (z/2) 0 (by omega) (by omega) (by decide) (by decide)];have:(z/2).toNat ^^^ (0:Int).toNat=(z/2).toNat:=Nat.xor_zero _;rw[this];omega
theorem bitF_range {z:Int}(b:0≤z)(c:z<4294967296):0≤bitF z∧bitF z<4294967296:=by
 rcases and_one z b c with h|h
 ·rw[bitF_zero b c h];omega
 ·rw[bitF_one h];exact xor_range _ _ (by omega) (by omega) (by decide) (by decide)
theorem zER {z:Int}(b:0≤z)(c:z<4294967296):∀k,0≤zF4 k z∧zF4 k z<4294967296
 | 0=>⟨b,c⟩
 | k+1=>bitF_range (zER b c k).1 (zER b c k).2
theorem byteF_range {z:Int}(b:0≤z)(d:z<4294967296)(c:UInt8):0≤byteF z c∧byteF z c<4294967296:=by
 have f:c.toNat<256:=c.toNat_lt;have:=xor_range z (c.toNat:Int) b d (by omega) (by omega);exact zER this.1 this.2 8
theorem rowF_range {z:Int}(b:0≤z)(d:z<4294967296)(l:Bs):0≤rowF z l∧rowF z l<4294967296:=by
 induction l generalizing z with
 | nil=>exact⟨b,d⟩
 | cons c r ih=>exact ih (byteF_range b d c).1 (byteF_range b d c).2
theorem zFS {w:World}{p:Option Addr}{m c:Nat}{l:Bs}(G:zAb w (.slice p m c) l)(P:l.length≤140737488355328) :
  Calls prog 184 #[.slice p m c] w (fun e w'=>e=.returned (.int .u32 (sumF l))∧w'=w):=by
 have I:m=l.length:=(zCV G).1;have A:=zh G.at
 have C:=zh I.symm;have R:m≤140737488355328:=by omega
 clear G I P
 go_enter func184,ntmps184
 go_wp2_with fail
 go_loop [3,4] (fun v i=>∃j:Nat,j≤m∧i=.int .i64 j∧v=.int .u32 (rowF 4294967295 (l.take j))) (fun _ i=>m-(intOf i).toNat)
 case atStart=>exact⟨0,Nat.zero_le _,rfl,rfl⟩
 case round =>
  obtain⟨j,U,rfl,rfl⟩:=hrel
  by_cases E:j<m
  ·have b:j<l.length:=by rw[C.o];exact E
   have B:=zh (rowF_take 4294967295 l b);rcases A.o with h|⟨S,W,T,H,r⟩
   ·rw[h]at b;simp at b
   rw[C.o]at H;cases H;have M:=r j _ (List.getElem?_eq_getElem b);have t:=rowF_range (z:=4294967295) (by decide) (by decide) (l.take j);generalize l[j]=k at *;generalize rowF 4294967295 (l.take j)=y at *;have N:k.toNat<256:=k.toNat_lt;clear r;go_wp2_with fail;have J:=zW (byteF y k=zF4 8 (bits .xor .u32 y (k.toNat:Int))) rfl;have f:=xor_range y (k.toNat:Int) t.1 t.2 (by omega) (by omega);generalize bits .xor .u32 y (k.toNat:Int)=a at *
   go_loop [3,5] (fun v i=>∃q:Nat,q≤8∧i=.int .i64 q∧v=.int .u32 (zF4 q a)) (fun _ i=>8-(intOf i).toNat)
   case atStart=>exact⟨0,Nat.zero_le _,rfl,rfl⟩
   case round =>
    obtain⟨q,V,rfl,rfl⟩:=hrel
    by_cases Q:q<8
    ·have n:=zW (zF4 (q+1) a=bitF (zF4 q a)) rfl;have d:=zER f.1 f.2 q;generalize zF4 q a=z at *;rcases and_one z d.1 d.2 with D|D
     focus have g:=zh (bitF_zero d.1 d.2 D)
     rotate_left
     focus have g:=zh (bitF_one D)
     all_goals
      go_wp2_with fail;go_round;case rel=>exact⟨q+1,by omega,by go_num,by rw[n.o,g.o]⟩
      case measure=>simp[intOf];omega
    ·have F:q=8:=by omega
     subst F;go_wp2_with fail
     go_round
     case rel=>exact⟨j+1,by omega,by go_num,by rw[B.o,J.o]⟩
     case measure=>simp[intOf];omega
  ·have O:j=m:=by omega
   have s:l.take j=l:=List.take_of_length_le (by rw[C.o];omega);rw[s];clear s;have L:=zW (sumF l=bits .xor .u32 IntKind.u32.max (rowF 4294967295 l)) rfl;generalize rowF 4294967295 l=x at *;go_wp2_with fail;go_ret;exact⟨by rw[L.o];rfl,rfl⟩
def NewO (w:World)(l:Bs)(e:Ending)(w':World):Prop:=∃v,e=.returned v∧zAi w' 5 v l∧(∀k,v.ownBlock=some k→w.heap.size≤k)∧Below w.heap.size w w'
theorem own_lit {w:World}(cs:Array Value)(l:Bs)(e:TypeId)(h:cs.toList=zAR l)(n:Nat)(hn:n=l.length)(b:n≤maxLen):zAi (w.alloc (.cells cs e)) e (.slice (some ⟨w.heap.size,0,none⟩) n n) l:=by
 subst hn;refine⟨by rw[zFD,Nat.mul_one],.inr ⟨_,_,cs,rfl,zAI w _,Nat.le_refl _,?_,?_,?_⟩⟩
 ·exact b
 ·have:=congrArg List.length h;rw[zFD]at this;simpa using Nat.le_of_eq this.symm
 ·rw[h,←zFD l,Nat.mul_one,List.take_length]
theorem zFl {w:World}(v:Nat)(l:v<4294967296) :
  Calls prog 183 #[.int .u32 (v:Int)] w (NewO w (zA4 v)):=by
 have b:NewO w (zA4 v) (.returned (.slice (some ⟨w.heap.size,0,none⟩) 4 4)) (w.alloc (.cells #[.int .u8 ((v:Int)%256),.int .u8 ((v:Int)/256%256),.int .u8 ((v:Int)/65536%256),.int .u8 ((v:Int)/16777216)] 5)) :=
  ⟨_,rfl,own_lit _ (zA4 v) _ (by
   simp only[zA4,zAR,List.map_cons,List.map_nil,UInt8.toNat_ofNat'];have d:(v:Int)/16777216=((v/16777216%256:Nat):Int):=by omega
   have f:(v:Int)%256=((v%256:Nat):Int):=by omega
   have g:(v:Int)/256%256=((v/256%256:Nat):Int):=by omega
   have i:(v:Int)/65536%256=((v/65536%256:Nat):Int):=by omega
   rw[d,f,g,i]) 4 rfl (by decide),fun k j=>(by cases j;exact Nat.le_refl _),(Below.refl _ _).alloc (Nat.le_refl _) _⟩
 have c:=zh b;clear b
 go_enter func183,ntmps183
 go_wp2_with fail;go_ret;exact c.o
theorem rfromFour_calls {w:World}{b o n c:Nat}{d f g i:UInt8}(hn:4≤n)(s:w.cell? ⟨b,o,none⟩=some (.int .u8 (d.toNat:Int)))(t:w.cell? ⟨b,o+1,none⟩=some (.int .u8 (f.toNat:Int)))
  (v:w.cell? ⟨b,o+2,none⟩=some (.int .u8 (g.toNat:Int))) (y:w.cell? ⟨b,o+3,none⟩=some (.int .u8 (i.toNat:Int))) :
  Calls prog 197 #[.slice (some ⟨b,o,none⟩) n c] w (fun e w'=>e=.returned (.int .u32 (ofFour d f g i:Int))∧∃q,w'=w.drewN q):=by
 have k:=d.toNat_lt;have l:=f.toNat_lt;have m:=g.toNat_lt;have p:=i.toNat_lt;have z:(0:Int)<(n:Int):=by omega
 have a:(1:Int)<(n:Int):=by omega
 have h:(2:Int)<(n:Int):=by omega
 have A:(3:Int)<(n:Int):=by omega
 have hF:=or_four k l m p;have j:=zW (bits .or .u32 (bits .or .u32 (bits .or .u32 (d.toNat:Int) ((f.toNat:Int)*256)) ((g.toNat:Int)*65536)) ((i.toNat:Int)*16777216)=(ofFour d f g i:Int)) hF;clear hF;generalize ofFour d f g i=r at *;generalize d.toNat=B at *;generalize f.toNat=C at *;generalize g.toNat=D at *;generalize i.toNat=E at *
 go_enter func197,ntmps197
 go_wp2_with fail
 go_quiet (fail)
 go_wp2
 go_ret;exact⟨by rw[←j.o];rfl,_,rfl⟩
theorem rfour_at {w:World}{p:Option Addr}{n c:Nat}{b:Bs}(h:zAb w (.slice p n c) b)(j:4≤b.length) :
  Calls prog 197 #[.slice p n c] w (fun e w'=>e=.returned (.int .u32 (fourAt b:Int))∧∃q,w'=w.drewN q):=by
 have k:=h.at
 obtain⟨s,m,e⟩:=h.slice;cases e;rcases k with e|⟨g,o,r,e,f⟩
 ·rw[e]at j;simp at j
 ·cases e;have d:∀i,i<b.length→b[i]?=some (b.getD i 0):=fun i l=>by simp[List.getD,List.getElem?_eq_getElem l]
  exact rfromFour_calls j (by simpa using f 0 _ (d 0 (by omega))) (f 1 _ (d 1 (by omega))) (f 2 _ (d 2 (by omega))) (f 3 _ (d 3 (by omega)))
theorem zGA {w w':World}{v:Value}{l:Bs}(h:zAi w 5 v l)(b:Below w.heap.size w w'):zAi w' 5 v l:=zAi.keep h fun k c=>b.block k (OwnR.lt h c)
theorem renc_calls {w:World}{p:Option Addr}{m c:Nat}{l:Bs}(hx:zAb w (.slice p m c) l)(hl:l.length≤1048576) :
  Calls prog 132 #[.slice p m c] w fun e w'=>∃v,e=.returned (.tuple #[v,.int .i64 0])∧zAi w' 5 v (zAM l)∧(∀k,v.ownBlock=some k→w.heap.size≤k)∧Below w.heap.size w w':=by
 have ae:m=l.length:=(zCV hx).1;have hm:m≤1048576:=by omega
 have Hx:=zh hx;have I:=zh ae;have aj:=zh (zFl (w:=w) m (by omega));obtain⟨i0,hi,V,X,Z⟩:=info_parts (show(prog.info? 5).map (fun i=>(i.zero,i.size,i.bytes))=some (some (.int .u8 0),1,1) by kernel_rfl);clear hx ae hl
 go_enter func132,ntmps132
 go_wp2_with fail;refine aj.o.mono ?_;rintro e w1 ⟨v1,rfl,M,af,ac⟩;obtain⟨p1,c1,rfl⟩:=OwnR.shape M;have A:=zh (And.intro M (And.intro af ac));have ao:=zh (zFS (p:=p1) (m:=4) (c:=c1) M.has (by rw[show(zA4 m).length=4 from rfl];decide));rw[show(zA4 m).length=4 from rfl];clear M af ac;go_wp2_with fail;refine ao.o.mono ?_;rintro e w2 ⟨rfl,rfl⟩;rw[zDH];have ak:=zh (zFl (w:=w2) (sumN (zA4 m)) (zFo _));have ad:zCJ l.length=zA4 m++zA4 (sumN (zA4 m)):=by rw[←I.o];rfl
 have an:=zh ad;generalize sumN (zA4 m)=q at *;clear ad;go_wp2_with fail;refine ak.o.mono ?_;rintro e w3 ⟨v2,rfl,U,au,T⟩;obtain⟨p2,c2,rfl⟩:=OwnR.shape U;have X3:=zh (A.o.2.2.trans (T.mono A.o.2.2.size));have H:OwnR w3 5 1 (.slice p1 4 c1) 4 (zAR (zA4 m)):=zGA A.o.1 T;have Q:=zh H;have H2:=zW (zAK w3 1 (.slice p2 4 c2) 4 (zAR (zA4 q))) U.has;have aq:=zW (∀W,Below w.heap.size w W→zAK W 1 (.slice p m c) m (zAR l)) (fun W hb=>by
  have h:=Hx.o.below hb;unfold zAb at h;rw[←I.o]at h;exact h)
 rw[show(zA4 q).length=4 from rfl];clear U au T H;go_wp2_with (first|(at_builtin;refine zAO w3 rfl (.tmp 12) (.tmp 15) 22 rfl 5 i0 (.int .u8 0) 1 1 underlying22 hi V X Z rfl (by decide) (.slice p1 4 c1) 4 _ rfl Q.o (.slice p2 4 c2) 4 _ rfl H2.o (zAN _) (by decide) (by decide) ?_;intro aB aw f n y;have P:=X3.o.grown n X3.o.size (fun j e=>A.o.2.1 j e);have d:=zA0 (B:=w.heap.size) y A.o.2.1 X3.o.size;obtain⟨av,ar,rfl⟩:=OwnR.shape f;have t:=zh (And.intro P (And.intro f d));clear f n y P d)|(at_builtin;refine zAO aw rfl (.tmp 17) (.tmp 18) 22 rfl 5 i0 (.int .u8 0) 1 1 underlying22 hi V X Z rfl (by decide) (.slice av 8 ar) 8 _ rfl t.o.2.1 (.slice p m c) m _ rfl (aq.o _ t.o.1) (zAN _) (by unfold maxLen;omega) (by omega) ?_;intro aC ax b r z;have P:=t.o.1.grown r t.o.1.size (fun j e=>t.o.2.2 j e);have d:=zA0 (B:=w.heap.size) z t.o.2.2 t.o.1.size;obtain⟨N,L,rfl⟩:=OwnR.shape b;have C:=zh (And.intro P (And.intro b d));clear b r z P d))
 have F:zAi ax 5 (.slice N (8+m) L) (zCJ l.length++l):=by
  unfold zAi;rw[an.o,zBl,zBl,List.length_append,List.length_append,show(zA4 m).length=4 from rfl,show(zA4 q).length=4 from rfl,←I.o];exact C.o.2.1
 have E:(zCJ l.length++l).length=8+m:=by rw[List.length_append,zBO,←I.o]
 have ap:=zh (zFS (p:=N) (m:=8+m) (c:=L) F.has (by rw[E];omega));have aa:=zh F;have O:=zh E;have am:=zW (zAM l=(zCJ l.length++l)++zA4 (sumN (zCJ l.length++l))) rfl;clear F E;generalize zCJ l.length++l=Y at *;refine ap.o.mono ?_;rintro e ay ⟨rfl,rfl⟩;rw[zDH];have al:=zh (zFl (w:=ay) (sumN Y) (zFo _));generalize sumN Y=q2 at *;go_wp2_with fail;refine al.o.mono ?_;rintro e K ⟨aD,rfl,G,ag,D⟩;obtain⟨ah,ab,rfl⟩:=OwnR.shape G;have R:=zh (C.o.1.trans (D.mono C.o.1.size));have b:OwnR K 5 1 (.slice N (8+m) L) (8+m) (zAR Y):=by
  have h:=zGA aa.o D;unfold zAi at h;rw[O.o]at h;exact h
 have J:=zh b;have ai:=zW (zAK K 1 (.slice ah 4 ab) 4 (zAR (zA4 q2))) G.has;rw[show(zA4 q2).length=4 from rfl];clear G ag D b;go_wp2_with (at_builtin;refine zAO K rfl (.tmp 20) (.tmp 23) 22 rfl 5 i0 (.int .u8 0) 1 1 underlying22 hi V X Z rfl (by decide) (.slice N (8+m) L) (8+m) _ rfl J.o (.slice ah 4 ab) 4 _ rfl ai.o (zAN _) (by unfold maxLen;omega) (by omega) ?_;intro aE aF g s a;have P:=R.o.grown s R.o.size (fun j e=>C.o.2.2 j e);have d:=zA0 (B:=w.heap.size) a C.o.2.2 R.o.size;obtain⟨aA,az,rfl⟩:=OwnR.shape g;have S:=zh (And.intro P (And.intro g d));clear g s a P d)
 go_ret2
 refine⟨_,rfl,?_,S.o.2.2,S.o.1⟩;unfold zAi;rw[am.o,List.length_append,O.o,show(zA4 q2).length=4 from rfl,zBl];exact S.o.2.1
structure zCe (w W:World)(v:Value)(l:Bs):Prop where
 own:zAi W 5 v l
 new:∀k,v.ownBlock=some k→w.heap.size≤k
 bel:Below w.heap.size w W
theorem zCe.nil (w:World):zCe w w (.slice none 0 0) []:=⟨OwnR.nil _ _ _,fun k b=>(by cases b),Below.refl _ _⟩
theorem zCe.next {w W b:World}{v:Value}{l:Bs}(h:zCe w W v l)(c:Below W.heap.size W b):zCe w b v l:=⟨zCD h.own c,h.new,h.bel.trans (c.mono h.bel.size)⟩
theorem zCe.alloc {w W:World}{v:Value}{l:Bs}(h:zCe w W v l)(o:Obj):zCe w (W.alloc o) v l:=h.next (zAD W o)
theorem zCe.told {w W:World}{v:Value}{l:Bs}(h:zCe w W v l):zBX w l (.returned v) W:=⟨v,rfl,h.own,h.new,h.bel⟩
theorem zCe.grown {w d w3:World}{v v3:Value}{l x:Bs}(h:zCe w d v l)(c:OwnR w3 5 1 v3 (l.length+x.length) (zAR l++zAR x))(f:d.grownBy w3 v.ownBlock)(b:v3.ownBlock=v.ownBlock∨∃g,v3.ownBlock=some g∧d.heap.size≤g):zCe w w3 v3 (l++x):=by
 refine⟨?_,zA0 b h.new h.bel.size,h.bel.grown f h.bel.size fun j e=>h.new j e⟩
 show OwnR _ _ _ _ (l++x).length (zAR (l++x))
 rw[List.length_append,show zAR (l++x)=zAR l++zAR x from List.map_append];exact c
theorem or_high2 {a:Nat}(f:a≤4611686018427387904):bits .or .u8 (bits .and .u64 (a:Int) 127%256) 128=(((UInt8.ofNat (a%128+128)).toNat:Nat):Int):=by
 have b:bits .and .u64 (a:Int) 127=((a%128:Nat):Int):=by
  refine(u64_and_nat a 127 (by omega) (by decide)).trans ?_;rw[show(127:Nat)=2 ^ 7-1 from rfl,Nat.and_two_pow_sub_one_eq_mod]
 have c:∀y:Fin 256,(y.val ||| 128)=y.val%128+128:=by decide +kernel
 have d:(a%128 ||| 128)=a%128%128+128:=c ⟨a%128,by omega⟩;rw[b,show((a%128:Nat):Int)%256=((a%128:Nat):Int) by omega];refine(u8_or_nat (a%128) 128 (by omega) (by decide)).trans ?_;rw[d,UInt8.toNat_ofNat'];omega
theorem zEV (w:World)(z:Int)(hz:-9223372036854775808≤z∧z≤9223372036854775807) :
  Calls prog 118 #[.int .i64 z] w (zBX w (zDf z)):=by
 obtain⟨P,O,A,B,C⟩:=info_parts (show(prog.info? 5).map (fun i=>(i.zero,i.size,i.bytes))=some (some (.int .u8 0),1,1) by kernel_rfl);obtain⟨ab,ac⟩:=hz;have L:∀(K:Nat),(K=(max 0 (min z 4611686018427387904)).toNat)→K≤4611686018427387904:=fun K hK=>by omega
 have X:=zW (zDf z=zD5 (max 0 (min z 4611686018427387904)).toNat) rfl;generalize Y:(max 0 (min z 4611686018427387904)).toNat=N at *;have H:N≤4611686018427387904:=L N rfl;have M:=zh Y;clear L Y
 go_enter func118,ntmps118
 by_cases h1:4611686018427387904<z
 ·have y:N=4611686018427387904:=by have:=M.o;omega
  have F:=zh y;clear y;go_wp2_with fail
  go_loopw [3,4] (fun u b wr=>∃(a:Nat) (cur:Bs) (G:Value),u=.int .u64 a∧G=b∧a≤4611686018427387904∧zCe w wr G cur∧cur++zD5 a=zD5 N) (fun u _ _=>(intOf u).toNat)
  case atStart=>exact⟨4611686018427387904,[],_,rfl,rfl,Nat.le_refl _,zCe.nil w,by rw[F.o];rfl⟩
  case round =>
   obtain⟨a,cur,G,rfl,rfl,Q,t,k⟩:=hrel;have h:=zAh H;rw[←k,List.length_append]at h;have S:=numB_len a;have s:=zh t;have p:=zh k;obtain⟨pv,cv,rfl,-⟩:=zAL t.own;clear t k;generalize I:cur.length=m at *;have E:=zh I;clear I;have q:=zh (show OwnR wr 5 1 (.slice pv m cv) m (zAR cur) by have:=s.o.own;unfold zAi at this;rwa[E.o]at this)
   by_cases v:128≤a
   ·have r:=zh (zD6 v);have T:=or_high2 Q;generalize UInt8.ofNat (a%128+128)=x at *;go_wp2_with (at_builtin;have j:=zC1 q.o (.cells #[.int .u8 (x.toNat:Int)] 5);have l:=zEy wr x;refine zAO _ rfl (.tmp 13) (.tmp 18) 22 rfl 5 P (.int .u8 0) 1 1 underlying22 O A B C rfl (by decide) (.slice pv m cv) m _ rfl j (.slice (some ⟨wr.heap.size,0,none⟩) 1 1) 1 _ rfl l (zAN _) (by unfold maxLen;omega) (by omega) ?_;clear j l;intro v3 w3 c d f;go_loud (have D:=zh (zCe.grown (x:=[x]) (s.o.alloc (.cells #[.int .u8 (x.toNat:Int)] 5)) (by rw[E.o];exact c) d f);clear d f;obtain⟨V,W,rfl⟩:=OwnR.shape c;clear c))
    go_roundw
    case rel=>exact⟨a/128,cur++[x],_,by first|rfl|go_num,rfl,by omega,D.o,by rw[←p.o,r.o];simp⟩
    case measure=>simp[intOf];omega
   ·have g:=zh (zCn (n:=a) (by omega));obtain⟨x,J⟩:∃x:UInt8,a=x.toNat:=⟨UInt8.ofNat a,by rw[UInt8.toNat_ofNat'];omega⟩;rw[show UInt8.ofNat a=x by rw[J];simp]at g;subst J;have U:(x.toNat:Int)%256=(x.toNat:Int):=by omega
    have R:=x.toNat_lt;go_wp2_with (at_builtin;have j:=zC1 q.o (.cells #[.int .u8 (x.toNat:Int)] 5);have l:=zEy wr x;refine zAO _ rfl (.tmp 22) (.tmp 25) 22 rfl 5 P (.int .u8 0) 1 1 underlying22 O A B C rfl (by decide) (.slice pv m cv) m _ rfl j (.slice (some ⟨wr.heap.size,0,none⟩) 1 1) 1 _ rfl l (zAN _) (by unfold maxLen;omega) (by omega) ?_;clear j l;intro v3 w3 c d f;go_loud (have D:=zh (zCe.grown (x:=[x]) (s.o.alloc (.cells #[.int .u8 (x.toNat:Int)] 5)) (by rw[E.o];exact c) d f);clear d f;obtain⟨V,W,rfl⟩:=OwnR.shape c;clear c))
    go_ret;have:=D.o.told;rw[X.o,←p.o,g.o];exact this
 ·by_cases h2:0<z
  ·have aa:IntKind.u64.wrap z=z:=by rw[show IntKind.u64.wrap z=z%18446744073709551616 from rfl];omega
   have Z:z%18446744073709551616=z:=by omega
   have y:z=(N:Int):=by have:=M.o;omega
   have F:=zh y;clear y;go_wp2_with fail
   go_loopw [3,4] (fun u b wr=>∃(a:Nat) (cur:Bs) (G:Value),u=.int .u64 a∧G=b∧a≤4611686018427387904∧zCe w wr G cur∧cur++zD5 a=zD5 N) (fun u _ _=>(intOf u).toNat)
   case atStart=>exact⟨N,[],_,by rw[F.o],rfl,H,zCe.nil w,rfl⟩
   case round =>
    obtain⟨a,cur,G,rfl,rfl,Q,t,k⟩:=hrel;have h:=zAh H;rw[←k,List.length_append]at h;have S:=numB_len a;have s:=zh t;have p:=zh k;obtain⟨pv,cv,rfl,-⟩:=zAL t.own;clear t k;generalize I:cur.length=m at *;have E:=zh I;clear I;have q:=zh (show OwnR wr 5 1 (.slice pv m cv) m (zAR cur) by have:=s.o.own;unfold zAi at this;rwa[E.o]at this)
    by_cases v:128≤a
    ·have r:=zh (zD6 v);have T:=or_high2 Q;generalize UInt8.ofNat (a%128+128)=x at *;go_wp2_with (at_builtin;have j:=zC1 q.o (.cells #[.int .u8 (x.toNat:Int)] 5);have l:=zEy wr x;refine zAO _ rfl (.tmp 13) (.tmp 18) 22 rfl 5 P (.int .u8 0) 1 1 underlying22 O A B C rfl (by decide) (.slice pv m cv) m _ rfl j (.slice (some ⟨wr.heap.size,0,none⟩) 1 1) 1 _ rfl l (zAN _) (by unfold maxLen;omega) (by omega) ?_;clear j l;intro v3 w3 c d f;go_loud (have D:=zh (zCe.grown (x:=[x]) (s.o.alloc (.cells #[.int .u8 (x.toNat:Int)] 5)) (by rw[E.o];exact c) d f);clear d f;obtain⟨V,W,rfl⟩:=OwnR.shape c;clear c))
     go_roundw
     case rel=>exact⟨a/128,cur++[x],_,by first|rfl|go_num,rfl,by omega,D.o,by rw[←p.o,r.o];simp⟩
     case measure=>simp[intOf];omega
    ·have g:=zh (zCn (n:=a) (by omega));obtain⟨x,J⟩:∃x:UInt8,a=x.toNat:=⟨UInt8.ofNat a,by rw[UInt8.toNat_ofNat'];omega⟩;rw[show UInt8.ofNat a=x by rw[J];simp]at g;subst J;have U:(x.toNat:Int)%256=(x.toNat:Int):=by omega
     have R:=x.toNat_lt;go_wp2_with (at_builtin;have j:=zC1 q.o (.cells #[.int .u8 (x.toNat:Int)] 5);have l:=zEy wr x;refine zAO _ rfl (.tmp 22) (.tmp 25) 22 rfl 5 P (.int .u8 0) 1 1 underlying22 O A B C rfl (by decide) (.slice pv m cv) m _ rfl j (.slice (some ⟨wr.heap.size,0,none⟩) 1 1) 1 _ rfl l (zAN _) (by unfold maxLen;omega) (by omega) ?_;clear j l;intro v3 w3 c d f;go_loud (have D:=zh (zCe.grown (x:=[x]) (s.o.alloc (.cells #[.int .u8 (x.toNat:Int)] 5)) (by rw[E.o];exact c) d f);clear d f;obtain⟨V,W,rfl⟩:=OwnR.shape c;clear c))
     go_ret;have:=D.o.told;rw[X.o,←p.o,g.o];exact this
  ·have y:N=0:=by have:=M.o;omega
   have F:=zh y;clear y;go_wp2_with fail
   go_loopw [3,4] (fun u b wr=>∃(a:Nat) (cur:Bs) (G:Value),u=.int .u64 a∧G=b∧a≤4611686018427387904∧zCe w wr G cur∧cur++zD5 a=zD5 N) (fun u _ _=>(intOf u).toNat)
   case atStart=>exact⟨0,[],_,rfl,rfl,by decide,zCe.nil w,by rw[F.o];rfl⟩
   case round =>
    obtain⟨a,cur,G,rfl,rfl,Q,t,k⟩:=hrel;have h:=zAh H;rw[←k,List.length_append]at h;have S:=numB_len a;have s:=zh t;have p:=zh k;obtain⟨pv,cv,rfl,-⟩:=zAL t.own;clear t k;generalize I:cur.length=m at *;have E:=zh I;clear I;have q:=zh (show OwnR wr 5 1 (.slice pv m cv) m (zAR cur) by have:=s.o.own;unfold zAi at this;rwa[E.o]at this)
    by_cases v:128≤a
    ·have r:=zh (zD6 v);have T:=or_high2 Q;generalize UInt8.ofNat (a%128+128)=x at *;go_wp2_with (at_builtin;have j:=zC1 q.o (.cells #[.int .u8 (x.toNat:Int)] 5);have l:=zEy wr x;refine zAO _ rfl (.tmp 13) (.tmp 18) 22 rfl 5 P (.int .u8 0) 1 1 underlying22 O A B C rfl (by decide) (.slice pv m cv) m _ rfl j (.slice (some ⟨wr.heap.size,0,none⟩) 1 1) 1 _ rfl l (zAN _) (by unfold maxLen;omega) (by omega) ?_;clear j l;intro v3 w3 c d f;go_loud (have D:=zh (zCe.grown (x:=[x]) (s.o.alloc (.cells #[.int .u8 (x.toNat:Int)] 5)) (by rw[E.o];exact c) d f);clear d f;obtain⟨V,W,rfl⟩:=OwnR.shape c;clear c))
     go_roundw
     case rel=>exact⟨a/128,cur++[x],_,by first|rfl|go_num,rfl,by omega,D.o,by rw[←p.o,r.o];simp⟩
     case measure=>simp[intOf];omega
    ·have g:=zh (zCn (n:=a) (by omega));obtain⟨x,J⟩:∃x:UInt8,a=x.toNat:=⟨UInt8.ofNat a,by rw[UInt8.toNat_ofNat'];omega⟩;rw[show UInt8.ofNat a=x by rw[J];simp]at g;subst J;have U:(x.toNat:Int)%256=(x.toNat:Int):=by omega
     have R:=x.toNat_lt;go_wp2_with (at_builtin;have j:=zC1 q.o (.cells #[.int .u8 (x.toNat:Int)] 5);have l:=zEy wr x;refine zAO _ rfl (.tmp 22) (.tmp 25) 22 rfl 5 P (.int .u8 0) 1 1 underlying22 O A B C rfl (by decide) (.slice pv m cv) m _ rfl j (.slice (some ⟨wr.heap.size,0,none⟩) 1 1) 1 _ rfl l (zAN _) (by unfold maxLen;omega) (by omega) ?_;clear j l;intro v3 w3 c d f;go_loud (have D:=zh (zCe.grown (x:=[x]) (s.o.alloc (.cells #[.int .u8 (x.toNat:Int)] 5)) (by rw[E.o];exact c) d f);clear d f;obtain⟨V,W,rfl⟩:=OwnR.shape c;clear c))
     go_ret;have:=D.o.told;rw[X.o,←p.o,g.o];exact this
end Go.Proofs.YtapfnehdgailmaaGreat
