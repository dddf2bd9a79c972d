/- What the program's functions and the document's do, and plain laws, for PJournalKept. -/
import Derived.StillTailTactics
import Derived.Test.YtapfnehdgailmaaGreatMA
import Derived.Test.YtapfnehdgailmaaGreatMD
import Derived.Test.YtapfnehdgailmaaGreatME
import Derived.Test.YtapfnehdgailmaaGreatMG
import Derived.Test.YtapfnehdgailmaaGreatMH
import Derived.Test.YtapfnehdgailmaaGreatMI
open Go.Proofs.Tryz
set_option maxRecDepth 100000
set_option maxHeartbeats 64000000
namespace Go.Proofs.YtapfnehdgailmaaGreat
open Go.RowKit Go.Sat Go.Maps
/-! ### Where names stand -/
section
variable {α:Type}
theorem key_ne {n m:Bs}(h:n≠m):(n==m)=false:=by simpa using h
theorem zGC (n m:Bs)(a:α)(r:List (Bs×α)):Sat.get n ((m,a)::r)=if m=n then some a else Sat.get n r:=by
 unfold Sat.get;rw[List.find?_cons]
 by_cases e:m=n
 ·rw[if_pos e];simp[e]
 ·rw[if_neg e];simp[key_ne e]
theorem del_cons (n m:Bs)(a:α)(r:List (Bs×α)):del n ((m,a)::r)=if m=n then del n r else(m,a)::del n r:=by
 unfold del;rw[List.filter_cons]
 by_cases e:m=n
 ·rw[if_pos e];simp[e]
 ·rw[if_neg e];simp[key_ne e]
theorem srt_after {n m:Bs}{a:α}{r:List (Bs×α)}(h:Srt ((m,a)::r))(f:bytesBefore m n=false):∀p∈r,p.1≠n∧bytesBefore n p.1=true:=by
 intro p g;have b:=(List.pairwise_cons.1 h).1 p g;have b:bytesBefore m p.1=true:=b
 by_cases e:m=n
 ·subst e;exact⟨(bb_ne b).symm,b⟩
 ·rcases bb_total m n e with c|c
  ·rw[f]at c;cases c
  ·have d:=zF2 c b;exact⟨(bb_ne d).symm,d⟩
theorem zGd (n:Bs):∀{L:List (Bs×α)},Srt L→isAt n (L.map (·.1))=(Sat.get n L).isSome∧∀a,Sat.get n L=some a→L[zA3 n (L.map (·.1))]?=some (n,a)
 | [],_=>⟨rfl,fun a h=>by cases h⟩
 | (m,a)::r,h=>by
  have j:Srt r:=(List.pairwise_cons.1 h).2;obtain⟨d,f⟩:=zGd n j;cases c:bytesBefore m n with
  | true =>
   have e:m≠n:=bb_ne c;have es:zA3 n (((m,a)::r).map (·.1))=zA3 n (r.map (·.1))+1:=zEF c;rw[zGC,if_neg e];refine⟨?_,fun x b=>?_⟩
   ·rw[←d];unfold isAt;rw[es];rfl
   ·rw[es];exact f x b
  | false =>
   have es:zA3 n (((m,a)::r).map (·.1))=0:=zFZ c
   by_cases e:m=n
   ·subst e;rw[zGC,if_pos rfl];refine⟨?_,fun x b=>?_⟩
    ·unfold isAt;rw[es];simp
    ·rw[es];cases b;rfl
   ·have g:Sat.get n r=none:=zCh.2 fun p i=>(srt_after h c p i).1;rw[zGC,if_neg e,g];refine⟨?_,fun x b=>by cases b⟩;unfold isAt;rw[es];simp[e]
theorem del_after {n m:Bs}{a:α}{r:List (Bs×α)}(h:Srt ((m,a)::r))(b:bytesBefore m n=false):del n r=r:=zC1 (zCh.2 fun p c=>(srt_after h b p c).1)
theorem del_at (n:Bs):∀{L:List (Bs×α)},Srt L→isAt n (L.map (·.1))=true→del n L=L.take (zA3 n (L.map (·.1)))++L.drop (zA3 n (L.map (·.1))+1)
 | [],_,h=>by cases h
 | (m,a)::r,h,ha=>by
  have d:Srt r:=(List.pairwise_cons.1 h).2;cases b:bytesBefore m n with
  | true =>
   have es:zA3 n (((m,a)::r).map (·.1))=zA3 n (r.map (·.1))+1:=zEF b;have c:isAt n (r.map (·.1))=true:=by
    rw[←ha];unfold isAt;rw[es];rfl
   rw[del_cons,if_neg (bb_ne b),es,List.take_succ_cons,List.drop_succ_cons,del_at n d c];rfl
  | false =>
   have es:zA3 n (((m,a)::r).map (·.1))=0:=zFZ b;have e:m=n:=by
    unfold isAt at ha;rw[es]at ha;simpa using ha
   rw[del_cons,if_pos e,es,del_after h b];rfl
theorem ins_at (n:Bs)(f:α):∀{L:List (Bs×α)},Srt L→Sat.get n L=none→ins (n,f) L=L.take (zA3 n (L.map (·.1)))++(n,f)::L.drop (zA3 n (L.map (·.1)))
 | [],_,_=>rfl
 | (m,a)::r,h,i=>by
  have j:Srt r:=(List.pairwise_cons.1 h).2;have d:m≠n:=fun e=>by rw[zGC,if_pos e]at i;cases i
  cases g:bytesBefore m n with
  | true =>
   have es:zA3 n (((m,a)::r).map (·.1))=zA3 n (r.map (·.1))+1:=zEF g;have b:bytesBefore n m=false:=by
    cases c:bytesBefore n m with
    | false=>rfl
    | true =>
     have:=zF2 c g;rw[zF1]at this;cases this
   rw[zGC,if_neg d]at i
   show(if bytesBefore n m then _ else _)=_
   rw[if_neg (by simp[b]),es,List.take_succ_cons,List.drop_succ_cons,ins_at n f j i];rfl
  | false =>
   have es:zA3 n (((m,a)::r).map (·.1))=0:=zFZ g;have b:bytesBefore n m=true:=by
    rcases bb_total m n d with c|c
    ·rw[g]at c;cases c
    ·exact c
   show(if bytesBefore n m then _ else _)=_
   rw[if_pos b,es];rfl
theorem put_at (n:Bs)(f:α):∀{L:List (Bs×α)},Srt L→isAt n (L.map (·.1))=true→put n f L=L.set (zA3 n (L.map (·.1))) (n,f)
 | [],_,h=>by cases h
 | (m,a)::r,h,ha=>by
  have i:Srt r:=(List.pairwise_cons.1 h).2;cases b:bytesBefore m n with
  | true =>
   have es:zA3 n (((m,a)::r).map (·.1))=zA3 n (r.map (·.1))+1:=zEF b;have c:isAt n (r.map (·.1))=true:=by
    rw[←ha];unfold isAt;rw[es];rfl
   have d:bytesBefore n m=false:=by
    cases g:bytesBefore n m with
    | false=>rfl
    | true =>
     have:=zF2 g b;rw[zF1]at this;cases this
   rw[es,List.set_cons_succ,←put_at n f i c]
   show ins (n,f) (del n ((m,a)::r))=_
   rw[del_cons,if_neg (bb_ne b)]
   show(if bytesBefore n m then _ else _)=_
   rw[if_neg (by simp[d])];rfl
  | false =>
   have es:zA3 n (((m,a)::r).map (·.1))=0:=zFZ b;have e:m=n:=by
    unfold isAt at ha;rw[es]at ha;simpa using ha
   rw[es,List.set_cons_zero]
   show ins (n,f) (del n ((m,a)::r))=_
   rw[del_cons,if_pos e,del_after h b];cases r with
   | nil=>rfl
   | cons p q =>
    have:=(srt_after h b p (List.mem_cons_self ..)).2
    show(if bytesBefore n p.1 then _ else _)=_
    rw[if_pos this]
end
section
variable {w:World} {r:Nat} {v:Value} {L:List zAR} {own:Nat→Prop} {D:zAA}
theorem zAf.names (h:zAf w r v L own D):L.map zAR.n=D.files.map (·.1):=by
 rw[h.files,List.map_map];rfl
theorem zAf.is (h:zAf w r v L own D)(n:Bs):isAt n (L.map zAR.n)=(Sat.get n D.files).isSome:=by
 rw[h.names];exact(zGd n h.ok.srt).1
theorem zAf.hit (h:zAf w r v L own D){n:Bs}{f:zAS}(d:Sat.get n D.files=some f):∃x,L[zA3 n (L.map zAR.n)]?=some x∧x.n=n∧x.f=f:=by
 have b:=(zGd n h.ok.srt).2 f d;rw[h.names];rw[h.files]at b ⊢;rw[List.getElem?_map]at b;cases c:L[zA3 n (List.map (fun x=>x.fst) (List.map zAR.key L))]? with
 | none=>rw[c]at b;cases b
 | some x =>
  rw[c]at b;have:=Option.some.inj b;exact⟨x,rfl,congrArg Prod.fst this,congrArg Prod.snd this⟩
end
/-! ### may,did -/
theorem rmay_burnt (d:Nat)(p:Option Addr)(n c:Nat)(w:World)(b:w.cell? ⟨d,2,none⟩=some (.int .i64 0)) :
  Calls prog 69 #[.pointer (some ⟨d,0,none⟩),.slice p n c] w fun e w'=>e=.returned (.int .i64 9)∧w=w':=by
 go_enter func69,ntmps69
 go_wp2
 go_ret;exact⟨rfl,rfl⟩
theorem rmay_names (d:Nat)(p:Option Addr)(g:List ByteArray)(c:Nat)(w:World)(l:Int)(B:w.cell? ⟨d,2,none⟩=some (.int .i64 l))
  (D:(l==0)=false) (A:zEq w p g) (E:g.length≤140737488355328) (v:∀s∈g,s.size≤9223372036854775807) :
  Calls prog 69 #[.pointer (some ⟨d,0,none⟩),.slice p g.length c] w fun e w'=>e=.returned (.int .i64 (namesE g))∧w=w':=by
 go_enter func69,ntmps69
 go_wp2
 go_loop [5] (fun i=>∃k:Nat,k≤g.length∧i=.int .i64 k∧((g.take k).map nm).all okN=true) (fun i=>g.length-(intOf i).toNat)
 case atStart=>exact⟨0,Nat.zero_le _,rfl,rfl⟩
 case round =>
  obtain⟨k,C,rfl,f⟩:=hrel
  by_cases j:k<g.length
  ·have t:g[k]?=some g[k]:=List.getElem?_eq_getElem j;rcases A with h|⟨b,o,rfl,a⟩
   ·subst h;simp at j
   have y:=a k _ t;have F:g[k].size≤9223372036854775807:=v _ (List.getElem_mem j);have m:=zh (take_ok j f);have n:=zh (bad_at j);clear a v f t;rw[okN_nm]at m n;generalize g[k]=s at *
   by_cases z:1≤s.size
   ·by_cases r:s.size≤64
    ·go_wp2
     go_round
     case rel=>exact⟨k+1,by omega,by go_num,m.o (by simp[z,r])⟩
     case measure=>simp[intOf];omega
    ·go_wp2
     go_ret;exact⟨by rw[n.o (by simp[r])];rfl,rfl⟩
   ·go_wp2
    go_ret;exact⟨by rw[n.o (by simp[z])];rfl,rfl⟩
  ·have q:=zh f;clear f
   go_wp2
   go_ret;have h:=q.o;rw[List.take_of_length_le (by omega)]at h;exact⟨by simp[namesE,h],rfl⟩
section
variable {w:World} {r:Nat} {v:Value} {L:List zAR} {own:Nat→Prop} {D:zAA}
theorem left_zero {f:Option Nat}(h:f≠some 0):(leftOf f==0)=false:=by
 cases f with
 | none=>rfl
 | some k =>
  have:k≠0:=fun e=>h (by rw[e]);simp[leftOf];omega
theorem zCY (h:zAf w r v L own D)(p:Option Addr)(b:List ByteArray)(c:Nat)(j:zEq w p b)(i:b.length≤140737488355328)(g:∀s∈b,s.size≤9223372036854775807) :
  Calls prog 69 #[.pointer (some ⟨r,0,none⟩),.slice p b.length c] w fun e w'=>e=.returned (.int .i64 (D.may (b.map nm):Int))∧w=w':=by
 have f:=h.c2
 by_cases d:D.fuse=some 0
 ·rw[d]at f;refine(rmay_burnt r p b.length c w f).mono ?_;rintro e w' ⟨rfl,rfl⟩;exact⟨by simp[zAA.may,d],rfl⟩
 ·refine(rmay_names r p b c w _ f (left_zero d) j i g).mono ?_;rintro e w' ⟨rfl,rfl⟩;refine⟨?_,rfl⟩;unfold namesE zAA.may;rw[if_neg d]
  split<;>rfl
theorem zAf.fuse_set (h:zAf w r v L own D)(f:Option Nat)(d:∀k,f=some k→k≤9223372036854775807):zAf (w.setCell ⟨r,2,none⟩ (.int .i64 (leftOf f))) r v L own {D with fuse:=f} where
 cells:=zAD h.cells 2 _
 row:=h.row.keep fun k b=>set_other _ (h.ov k b).2
 files:=h.files
 data:=fun x c=>OwnR.keep (h.data x c) fun k b=>set_other _ (h.ob x c k b).2.1
 or:=h.or
 ov:=h.ov
 ob:=h.ob
 olt:=fun k b=>by
  have:=h.olt k b;simpa[World.setCell]using this
 ok:={h.ok with fuse:=d}
theorem zEK {a:Addr}{u:Value}(h:own a.block):Chg own w (w.setCell a u):=(Chg.setCell w a u).mono fun k _ e=>by rw[e];exact h
theorem zCw (h:zAf w r v L own D)(l:D.fuse≠some 0) :
  Calls prog 72 #[.pointer (some ⟨r,0,none⟩)] w fun e w'=>e=.returned (.int .i64 0)∧zAf w' r v L own D.done∧Chg own w w':=by
 have c:=h.c2;have q:=zAE h.cells 2;cases b:D.fuse with
 | none =>
  rw[b]at c;have d:D.done=D:=by unfold zAA.done;rw[b];cases D;simp at b;subst b;rfl
  have f:=zW (zAf w r v L own D.done∧Chg own w w) (⟨by rw[d];exact h,Chg.refl _ _⟩);have g:w.cell? ⟨r,2,none⟩=some (.int .i64 (-1)):=c;clear h l b d c
  go_enter func72,ntmps72
  go_wp2
  go_ret;exact⟨rfl,f.o⟩
 | some k =>
  rw[b]at c;have n:k≠0:=fun e=>l (by rw[b,e]);have p:k≤9223372036854775807:=h.ok.fuse k b;have d:D.done={D with fuse:=some (k-1) }:=by unfold zAA.done;rw[b];rfl
  have i:=h.fuse_set (some (k-1)) (fun j e=>by have:=Option.some.inj e;omega);have m:leftOf (some (k-1))=(k:Int)-1:=by show((k-1:Nat):Int)=_;omega
  rw[m,←d]at i;have f:=zh (And.intro i (zEK (w:=w) (a:=⟨r,2,none⟩) (u:=.int .i64 ((k:Int)-1)) h.or));have g:w.cell? ⟨r,2,none⟩=some (.int .i64 (k:Int)):=c;clear h l b d c i m
  go_enter func72,ntmps72
  go_wp2
  go_ret;exact⟨rfl,f.o⟩
end
theorem rnew_calls (w:World)(n:Int)(d:0≤n)(f:n≤1073741824) :
  Calls prog 14 #[.int .i64 n] w fun e w'=>∃r,e=.returned (.tuple #[.pointer (some ⟨r,0,none⟩),.int .i64 0])∧zAf w' r (.slice none 0 0) [] (fun k=>k=r) (zAA.fresh n.toNat)∧Below w.heap.size w w'∧w.heap.size≤r:=by
 obtain⟨m,rfl⟩:∃m:Nat,n=(m:Int):=⟨n.toNat,by omega⟩
 go_enter func14,ntmps14
 go_wp2
 go_ret2
 refine⟨w.heap.size,rfl,?_,(Below.refl _ _).alloc (Nat.le_refl _) _,Nat.le_refl _⟩;exact {
  cells:=zAJ w _
  row:=OwnR.nil _ _ _
  files:=rfl
  data:=fun x c=>by cases c
  or:=rfl
  ov:=fun k b=>by cases b
  ob:=fun x c=>by cases c
  olt:=fun k b=>by rw[b];simp
  ok:=ok_fresh _ (by rw[Int.toNat_natCast];omega) }
theorem OwnN.has {w:World}{v:Value}{ns:List Bs}(h:OwnN w v ns):HasN w v ns:=OwnR.holds h
theorem zA5 {d:World}{v v':Value}{B:Nat}(b:v'.ownBlock=v.ownBlock∨∃g,v'.ownBlock=some g∧d.heap.size≤g)(i:∀k,v.ownBlock=some k→B≤k)(j:B≤d.heap.size):∀k,v'.ownBlock=some k→B≤k:=fun k c=>by
 rcases b with e|⟨g,e,f⟩
 ·exact i k (by rw[←e];exact c)
 ·rw[e]at c;cases c;omega
theorem HasN.below {w w1:World}{v:Value}{l:List Bs}(h:HasN w v l)(b:Below w.heap.size w w1):HasN w1 v l:=zAM.chg h (Chg.of_below b) fun _ _=>id
theorem zF0 (w:World)(o:Obj){k:Nat}(h:k<w.heap.size):(w.alloc o).heap[k]?=w.heap[k]?:=((Below.refl w.heap.size w).alloc (Nat.le_refl _) o).block k h
def zGA (L:List zAR):Nat:=(L.map fun x=>x.f.data.length).sum
theorem flens_take (L:List zAR){k:Nat}{x:zAR}(h:L[k]?=some x):zGA (L.take (k+1))=zGA (L.take k)+x.f.data.length:=by
 obtain⟨b,rfl⟩:=List.getElem?_eq_some_iff.1 h;rw[List.take_succ_eq_append_getElem b];simp only[zGA,List.map_append,List.map_cons,List.map_nil,List.sum_append,List.sum_cons,List.sum_nil,Nat.add_zero]
theorem flens_le (L:List zAR)(k:Nat):zGA (L.take k)≤zGA L:=by
 have e:zGA L=zGA (L.take k)+zGA (L.drop k):=by
  conv=>lhs;rw[←List.take_append_drop k L]
  simp only[zGA,List.map_append,List.sum_append]
 omega
section
variable {w:World} {r:Nat} {v:Value} {L:List zAR} {own:Nat→Prop} {D:zAA}
theorem zAf.used (h:zAf w r v L own D):D.used=zGA L:=by
 unfold zAA.used zBM zGA;rw[h.files,List.map_map];rfl
theorem zAf.len_le (h:zAf w r v L own D){k:Nat}{x:zAR}(b:L[k]?=some x):x.f.data.length≤1073741824:=by
 have c:=flens_take L b;have d:=flens_le L (k+1);have g:=h.used;have i:=h.ok.used;have j:=h.ok.room;omega
theorem zFr (h:zAf w r v L own D) :
  Calls prog 71 #[.pointer (some ⟨r,0,none⟩)] w fun e w'=>e=.returned (.int .i64 (D.used:Int))∧w'=w:=by
 obtain⟨p,c,rfl⟩:=h.slice;have O:=h.c1;have q:=zh h.at
 have s:=zh h.data;have l:L.length≤4096:=by rw[h.len];exact h.ok.count
 have M:=zh h.used;have d:D.used≤1073741824:=Nat.le_trans h.ok.used h.ok.room;rw[h.used]at d ⊢;have t:=zh d;clear h d;generalize G:L.length=N at *;have E:=zh G;clear G
 go_enter func71,ntmps71
 go_wp2_with fail
 go_loop [3,4] (fun a i=>∃k:Nat,k≤N∧i=.int .i64 k∧a=.int .i64 (zGA (L.take k):Int)) (fun _ i=>N-(intOf i).toNat)
 case atStart=>exact⟨0,Nat.zero_le _,rfl,rfl⟩
 case round =>
  obtain⟨k,U,rfl,rfl⟩:=hrel
  by_cases A:k<N
  ·have b:k<L.length:=by rw[E.o];exact A
   obtain⟨y,n⟩:∃y,L[k]?=some y:=⟨_,List.getElem?_eq_getElem b⟩;have j:y∈L:=List.mem_of_getElem? n;rcases q.o with Q|⟨g,O,P,-,H⟩
   ·rw[Q]at b;simp at b
   cases P;obtain⟨-,B,-⟩:=H k y n;obtain⟨V,S,F⟩:=zAY.slice (s.o y j).has;rw[F]at B;have I:=flens_take L n;have z:=flens_le L (k+1);have J:=zh I;have R:zGA (L.take k)+y.f.data.length≤1073741824:=by have:=t.o;omega
   clear H b n j F I z;generalize y.f.data.length=m at *;generalize T:zGA (L.take k)=C at *;go_wp2_with fail
   go_round
   case rel=>exact⟨k+1,by omega,by go_num,by rw[J.o];go_num⟩
   case measure=>simp[intOf];omega
  ·have e:L.take k=L:=List.take_of_length_le (by rw[E.o];omega);rw[e];go_wp2_with fail;go_ret;exact⟨rfl,rfl⟩
theorem zCy (h:zAf w r v L own D)(s:ByteArray) :
  Calls prog 81 #[.pointer (some ⟨r,0,none⟩),.string s] w (ReadPost w (Sat.get (nm s) D.files)):=by
 have d:=zBu h s;rw[h.is]at d;have V:=h.c1;cases N:Sat.get (nm s) D.files with
 | none =>
  rw[N]at d;have C:=zh d;clear d V h
  go_enter func81,ntmps81
  go_wp2_with fail;refine C.o.mono ?_;rintro e w2 ⟨rfl,q,rfl⟩;go_wp2_with fail
  go_ret2
  exact⟨.slice none 0 0,rfl,OwnR.nil _ _ _,fun k Q=>(by cases Q),⟨rfl,rfl,rfl,Nat.le_refl _,fun _ _=>rfl⟩⟩
 | some f =>
  rw[N]at d;obtain⟨x,J,ad,rfl⟩:=h.hit N;have ac:=h.len_le J;have M:=(h.data x (List.mem_of_getElem? J)).has;have X:zA3 (nm s) (L.map zAR.n)<L.length:=(List.getElem?_eq_some_iff.1 J).1;generalize zA3 (nm s) (L.map zAR.n)=i at *;rcases h.at with h0|⟨g,c0,rfl,ab,Z⟩
  ·rw[h0]at X;simp at X
  obtain⟨-,H,-⟩:=Z i x J;obtain⟨pb,W,eb⟩:=zAY.slice M;rw[eb]at H M;have I:r<w.heap.size:=h.olt r h.or;have G:g<w.heap.size:=h.olt g (h.ov g rfl).1;have C:=zh d;have Hd:=zh M;have P:zDC (some x.f)=x.f.data:=rfl;generalize x.f.data=l at *;generalize a:l.length=m at *;have z:=zh a;obtain⟨i0,hi,R,S,T⟩:=info_parts (show(prog.info? 5).map (fun i=>(i.zero,i.size,i.bytes))=some (some (.int .u8 0),1,1) by kernel_rfl);clear d h Z J M N a
  go_enter func81,ntmps81
  go_wp2_with fail;refine C.o.mono ?_;rintro e w2 ⟨rfl,q,rfl⟩;have F:Below w.heap.size w (w.drewN q):=⟨rfl,rfl,rfl,Nat.le_refl _,fun _ _=>rfl⟩;have y:=zh (F.alloc (Nat.le_refl _) (.cells #[] 5));have O:=zW (zAM ((w.drewN q).alloc (.cells #[] 5)) 1 (.slice pb m W) m (zAQ l)) (by
   have h:=Hd.o.below y.o;unfold zAY at h;rw[z.o]at h;exact h)
  have aa:=(y.o.cell (p:=⟨r,1,none⟩) I).trans V;have K:=(y.o.cell (p:=⟨g,i*3+1,none⟩) G).trans H;clear F;go_wp2_with (at_builtin;refine zAP ((w.drewN q).alloc (.cells #[] 5)) rfl (.tmp 16) (.tmp 24) 22 rfl 5 i0 (.int .u8 0) 1 1 underlying22 hi R S T rfl (by decide) (.slice (some ⟨w.heap.size,0,none⟩) 0 0) 0 [] rfl (zBH (w.drewN q) _) (.slice pb m W) m (zAQ l) rfl O.o (zAO _) (by unfold maxLen;omega) (by omega) ?_;intro U ae b c t;rw[Nat.zero_add,List.nil_append]at b;have Y:=y.o.grown c y.o.size (fun j e=>by simp[Value.ownBlock]at e;omega);have A:=zA5 (B:=w.heap.size) t (fun k Q=>by simp[Value.ownBlock]at Q;omega) y.o.size;have E:=zh (And.intro Y (And.intro b A));clear b c t Y A)
  go_ret2
  refine⟨U,rfl,?_,E.o.2.2,E.o.1⟩;unfold zAk;rw[P,z.o];exact E.o.2.1
end
structure RRIn (w:World)(r:Nat)(R:Rd)(p:Option Addr)(n c:Nat):Prop where
 cells:w.heap[r]?=some (.cells #[.slice p n c,.bool R.bad] 148 (0,0))
 has:zAY w (.slice p n c) R.rest
 cap:n≤c
 ne:(Value.slice p n c).ownBlock≠some r
 len:R.rest.length≤140737488355328
 inv:R.bad=true→R.rest=[]
def RdY (A:Nat→Prop)(w:World)(r:Nat)(R:Rd):Prop:=∃p n c,RRIn w r R p n c∧∀k,(Value.slice p n c).ownBlock=some k→A k
theorem RRIn.n_eq {w:World}{r:Nat}{R:Rd}{p:Option Addr}{n c:Nat}(h:RRIn w r R p n c):R.rest.length=n:=by obtain⟨_,_,e⟩:=h.has.slice;simp only[Value.slice.injEq]at e;exact e.2.1.symm
theorem RRIn.rlt {w:World}{r:Nat}{R:Rd}{p:Option Addr}{n c:Nat}(h:RRIn w r R p n c):r<w.heap.size:=zAB h.cells
theorem RdY.lt {A:Nat→Prop}{w:World}{r:Nat}{R:Rd}(h:RdY A w r R):r<w.heap.size:=let ⟨_,_,_,h,_⟩:=h;h.rlt
theorem RdY.len {A:Nat→Prop}{w:World}{r:Nat}{R:Rd}(h:RdY A w r R):R.rest.length≤140737488355328:=let ⟨_,_,_,h,_⟩:=h;h.len
theorem RdY.inv {A:Nat→Prop}{w:World}{r:Nat}{R:Rd}(h:RdY A w r R):R.bad=true→R.rest=[]:=let ⟨_,_,_,h,_⟩:=h;h.inv
theorem RdY.chg {A S:Nat→Prop}{w w':World}{r:Nat}{R:Rd}(h:RdY A w r R)(d:Chg S w w')(i:¬S r)(f:∀k,A k→¬S k):RdY A w' r R:=by
 obtain⟨p,n,c,h,b⟩:=h;exact⟨p,n,c,⟨(d.block r h.rlt i).trans h.cells,zAY.chg h.has d fun k g=>f k (b k g),h.cap,h.ne,h.len,h.inv⟩,b⟩
theorem RdY.below {A:Nat→Prop}{w w':World}{r:Nat}{R:Rd}(h:RdY A w r R)(b:Below w.heap.size w w'):RdY A w' r R:=h.chg (Chg.of_below b) id fun _ _=>id
theorem RdY.c1 {A:Nat→Prop}{w:World}{r:Nat}{R:Rd}(h:RdY A w r R):w.cell? ⟨r,1,none⟩=some (.bool R.bad):=let ⟨_,_,_,h,_⟩:=h;zAG h.cells rfl
def RStepY (A:Nat→Prop)(w:World)(r:Nat)(b:Rd)(v:Value)(e:Ending)(w':World):Prop:=e=.returned v∧RdY A w' r b∧Chg (fun k=>k=r) w w'
def NumY (A:Nat→Prop)(w:World)(r:Nat)(R:Rd)(e:Ending)(w':World):Prop:=e=.returned (.int .i64 (R.num.1:Int))∧RdY A w' r R.num.2∧Chg (fun k=>k=r) w w'
def RowY (A:Nat→Prop)(w:World)(r:Nat)(b:Bs)(c:Rd)(e:Ending)(w':World):Prop :=
 ∃v,e=.returned v∧zAk w' 5 v b∧(∀j,v.ownBlock=some j→w.heap.size≤j)∧RdY A w' r c∧Chg (fun j=>j=r) w w'
theorem copy_new {w w':World}{e:TypeId}{v:Value}{l:Bs}{m:Nat}(j:l.length=m)(b:OwnR w' e 1 v (0+m) ([]++zAQ l))(f:(w.alloc (.cells #[] e)).grownBy w' (some w.heap.size))(i:v.ownBlock=some w.heap.size∨∃g,v.ownBlock=some g∧(w.alloc (.cells #[] e)).heap.size≤g) :
  zAk w' e v l∧(∀k,v.ownBlock=some k→w.heap.size≤k)∧Below w.heap.size w w':=by
 subst j;rw[Nat.zero_add,List.nil_append]at b;refine⟨b,fun k c=>?_,(zAC w _).trans ((Chg.of_grown f).below (by simp) fun k c e=>?_)⟩
 ·rcases i with h|⟨g,h,d⟩
  ·rw[h]at c;cases c;exact Nat.le_refl _
  ·rw[h]at c;cases c;simp at d;omega
 ·have:=Option.some.inj e;omega
section
variable {w:World} {r:Nat} {R:Rd} {p:Option Addr} {n c:Nat} {A:Nat→Prop}
theorem zEc (h:RdY A w r R) :
  Calls prog 164 #[.pointer (some ⟨r,0,none⟩)] w (RStepY A w r Rd.fail (.tuple #[])):=by
 obtain⟨p,n,c,h,l⟩:=h;have j:w.cell? ⟨r,0,none⟩=some (.slice p n c):=zAG h.cells rfl;have b:w.cell? ⟨r,1,none⟩=some (.bool R.bad):=zAG h.cells rfl;have m:=fun i=>zAE h.cells i;have d:=zW (RStepY A w r Rd.fail (.tuple #[]) (.returned (.tuple #[])) ((w.setCell ⟨r,1,none⟩ (.bool true)).setCell ⟨r,0,none⟩ (.slice none 0 0))) (⟨rfl,⟨none,0,0,⟨by
  have b:=zAD h.cells 1 (.bool true);have f:=zAD b 0 (.slice none 0 0);simpa[Rd.fail]using f,zAk.has (e:=0) (OwnR.nil _ _ _),Nat.le_refl _,fun h=>(by cases h),Nat.zero_le _,fun _=>rfl⟩,fun k g=>(by cases g)⟩,(Chg.setCell w ⟨r,1,none⟩ _).trans (Chg.setCell _ ⟨r,0,none⟩ _) fun _ _ e=>e⟩)
 clear h
 go_enter func164,ntmps164
 go_wp2_with fail
 go_end0
 exact d.o
theorem zEe (h:RdY A w r R)(m:Nat)(ad:m≤9223372036854775807) :
  Calls prog 163 #[.pointer (some ⟨r,0,none⟩),.int .i64 (m:Int)] w (RowY A w r (R.raw m).1 (R.raw m).2):=by
 obtain⟨i0,M,U,G,V⟩:=info_parts (show(prog.info? 5).map (fun i=>(i.zero,i.size,i.bytes))=some (some (.int .u8 0),1,1) by kernel_rfl);have J:=zh (zEc h);obtain⟨p,n,c,h,H⟩:=h;have hn:=h.n_eq;have ab:=h.len;have c0:w.cell? ⟨r,0,none⟩=some (.slice p n c):=zAG h.cells rfl;have K:w.cell? ⟨r,1,none⟩=some (.bool R.bad):=zAG h.cells rfl;have d0:decide ((m:Int)<0)=false:=decide_eq_false (by omega)
 by_cases hm:m≤n
 ·have d1:decide ((n:Int)<(m:Int))=false:=decide_eq_false (by omega);have t:R.raw m=(R.rest.take m,⟨R.rest.drop m,R.bad⟩):=by unfold Rd.raw;rw[if_pos (by omega)]
  rw[t];cases g:R.bad with
  | true =>
   have d:=h.inv g;have Q:m=0:=by rw[d]at hn;simp at hn;omega
   subst Q;rw[g]at K;have I:=zW (RowY A w r (R.rest.take 0) ⟨R.rest.drop 0,true⟩ (.returned (.slice none 0 0)) w) (⟨_,rfl,OwnR.nil _ _ _,fun j N=>(by cases N),⟨p,n,c,⟨by rw[←g];exact h.cells,h.has,h.cap,h.ne,h.len,fun _=>d⟩,H⟩,Chg.refl _ _⟩);clear h t H d
   go_enter func163,ntmps163
   go_wp2_with fail;go_ret;exact I.o
  | false =>
   rw[g]at K;obtain⟨p',Z,ag,hh,C,E,D⟩:=run_tailX (P:=prog) underlying22 M G h.has h.cap r m h.ne hm;have ah:∀W,(Instr.slice 22 (.slice p n c) none (some (.int .i64 (m:Int))) none).run prog W=.ok (.slice p m c) W:=fun W=>zCO W underlying22 M p n c m (by have:=h.cap;omega);have s:=zAC w (.cells #[] 5);have y:=zW (zAM (w.alloc (.cells #[] 5)) 1 (.slice p m c) m (zAQ (R.rest.take m))) (by
    have a:=zAY.cut (h.has.below s) (k:=m) (by omega) c;unfold zAY at a;rwa[List.length_take,Nat.min_eq_left (by omega)]at a)
   have L:=zh h;have z:=zh (And.intro hh (And.intro C (And.intro E D)));have T:=h.rlt;have HA:=zh H;have af:=zAI c0 s;have v:=zh g;have Hn:=zh hn;clear hh C E h t H D s
   go_enter func163,ntmps163
   go_wp2_with (at_builtin;refine zAP (w.alloc (.cells #[] 5)) rfl (.tmp 23) (.tmp 29) 22 rfl 5 i0 (.int .u8 0) 1 1 underlying22 M U G V rfl (by decide) (.slice (some ⟨w.heap.size,0,none⟩) 0 0) 0 [] rfl (zBH w _) (.slice p m c) m (zAQ (R.rest.take m)) rfl y.o (zAO _) (by unfold maxLen;omega) (by omega) ?_;intro v3 w3 q f l;go_loud (have Y:=zh (copy_new (by rw[List.length_take,Nat.min_eq_left (by have:=Hn.o;omega)]) q f l);have b:w3.heap[r]?=some (.cells #[.slice p n c,.bool R.bad] 148 (0,0)):=(Y.o.2.2.block r T).trans L.o.cells;have ae:=zAd b;have aa:=fun i=>zAE b i;have X:=zh b;clear q f l b))
   go_ret;obtain⟨hv,F,B⟩:=Y.o;have ac:r<w3.heap.size:=zAB X.o;refine⟨v3,rfl,?_,F,⟨p',n-m,Z,⟨?_,?_,z.o.2.1,z.o.2.2.1,?_,fun e=>(by cases e)⟩,fun k O=>HA.o k (z.o.2.2.2 k O)⟩,?_⟩
   ·exact OwnR.keep hv fun k O=>set_other _ fun e=>by
     have:=F k O;have e:k=r:=e;omega
   ·have a:=zAD X.o 0 (.slice p' (n-m) Z);rw[v.o]at a;simpa using a
   ·exact zAY.set (zAY.below z.o.1 B) _ z.o.2.2.1
   ·show(R.rest.drop m).length≤_
    rw[List.length_drop];omega
   ·exact((Chg.of_below B).mono fun _ _ h=>h.elim).trans (Chg.setCell _ ⟨r,0,none⟩ _) fun _ _ e=>e
 ·have d1:decide ((n:Int)<(m:Int))=true:=decide_eq_true (by omega);have t:R.raw m=([],Rd.fail):=by unfold Rd.raw;rw[if_neg (by omega)]
  rw[t];clear h t
  go_enter func163,ntmps163
  go_wp2_with fail;refine J.o.mono ?_;rintro e w1 ⟨rfl,S,C⟩;have e1:=S.c1;have I:=zh (And.intro S C);clear S C;have e1:w1.cell? ⟨r,1,none⟩=some (.bool true):=e1;go_wp2_with fail;go_ret;exact⟨_,rfl,OwnR.nil _ _ _,fun j N=>(by cases N),I.o⟩
theorem zCk (h:RdY A w r R) :
  Calls prog 87 #[.pointer (some ⟨r,0,none⟩)] w fun e w'=>e=.returned (.bool R.whole)∧w'=w:=by
 obtain⟨p,n,c,h,j⟩:=h;have hn:=h.n_eq;have i:w.cell? ⟨r,0,none⟩=some (.slice p n c):=zAG h.cells rfl;have d:w.cell? ⟨r,1,none⟩=some (.bool R.bad):=zAG h.cells rfl;have g:=zW (R.rest.isEmpty=((n:Int)==0)) (by
  rw[Bool.eq_iff_iff,List.isEmpty_iff,←List.length_eq_zero_iff,hn];simp)
 have b:=zW (R.whole=(!R.bad&&R.rest.isEmpty)) rfl;clear h hn;cases f:R.bad with
 | true =>
  rw[f]at d b
  go_enter func87,ntmps87
  go_wp2_with fail;go_ret;exact⟨by rw[b.o];rfl,rfl⟩
 | false =>
  rw[f]at d b
  go_enter func87,ntmps87
  go_wp2_with fail;go_ret;exact⟨by rw[b.o,g.o];rfl,rfl⟩
end
theorem take_one {l:Bs}{x:UInt8}{t:Bs}(h:l=x::t)(b:Bool):Rd.raw ⟨l,b⟩ 1=([x],⟨t,b⟩):=by
 subst h;unfold Rd.raw;rw[if_pos (by simp)];rfl
theorem raw_nil (b:Bool):Rd.raw ⟨[],b⟩ 1=([],Rd.fail):=rfl
theorem or_big (a:Nat)(b:a<9223372036854775808):∃Z:Nat,bits .or .u64 (a:Int) (IntKind.u64.wrap (IntKind.u64.wrap (bits .and .u8 1 127)*9223372036854775808))=(Z:Int)∧4611686018427387904<Z:=by
 have e:(IntKind.u64.wrap (IntKind.u64.wrap (bits .and .u8 1 127)*9223372036854775808))=((9223372036854775808:Nat):Int):=by rfl
 rw[e];refine⟨a ||| 9223372036854775808,u64_or_nat a 9223372036854775808 (by omega) (by decide),?_⟩;have:=@Nat.right_le_or a 9223372036854775808;omega
theorem zBE {w:World}{r:Nat}{R:Rd}{A:Nat→Prop}(h:RdY A w r R) :
  Calls prog 84 #[.pointer (some ⟨r,0,none⟩)] w (NumY A w r R):=by
 have y:=zW (zCo 0 0 R.rest=none→R.num=(0,Rd.fail)) (fun e=>by unfold Rd.num;rw[e]);have N:=zW (∀v t,zCo 0 0 R.rest=some (v,t)→R.num=(v,⟨t,R.bad⟩)) (fun v t e=>by unfold Rd.num;rw[e]);have Q:=zh h;clear h
 go_enter func84,ntmps84
 go_wp2_with fail
 go_loopw [3,4] (fun u i wr=>∃k a:Nat,k≤9∧i=.int .i64 k∧u=.int .u64 a∧a<128 ^ k∧∃S,zCo 0 0 R.rest=zCo k a S∧RdY A wr r ⟨S,R.bad⟩∧Chg (fun k=>k=r) w wr) (fun _ i _=>10-(intOf i).toNat)
 case atStart=>exact⟨0,0,by omega,rfl,rfl,by simp,R.rest,rfl,Q.o,Chg.refl _ _⟩
 case round =>
  obtain⟨k,a,ac,rfl,rfl,ha,S,z,C,F⟩:=hrel;have n:=zh (zEe C 1 (by decide));have I:=zh F;have Y:decide ((k:Int)<10)=true:=decide_eq_true (by omega);cases S with
  | nil =>
   rw[raw_nil]at n;have l:=zh (y.o z);clear z C F;go_wp2_with fail;refine n.o.mono ?_;rintro e w1 ⟨v,rfl,-,-,b,d⟩;have e1:w1.cell? ⟨r,1,none⟩=some (.bool true):=b.c1;have m:=zW (NumY A w r R (.returned (.int .i64 0)) w1) (⟨by rw[l.o];rfl,by rw[l.o];exact b,I.o.trans d fun _ _ e=>e⟩);clear b d;go_wp2_with fail;go_ret;exact m.o
  | cons x0 S =>
   rw[take_one rfl]at n;have V:R.bad=false:=by
    cases hb:R.bad with
    | false=>rfl
    | true=>have:=C.inv hb;cases this
   have hx:=x0.toNat_lt;have s:=zh z;have q:=zW (9≤k∨(0<k∧x0.toNat=0)→zCo k a (x0::S)=none) (fun e=>by
    unfold zCo;rw[if_pos (e.imp id fun e=>⟨e.1,UInt8.toNat.inj (by rw[e.2];rfl)⟩)])
   have L:=zW (¬(9≤k∨(0<k∧x0.toNat=0))→x0.toNat<128→zCo k a (x0::S)=if 4611686018427387904<a+x0.toNat*128 ^ k then none else some (a+x0.toNat*128 ^ k,S)) (fun e h=>by
    rw[zCo,if_neg (fun h=>e (h.imp id fun h=>⟨h.1,by rw[h.2];rfl⟩)),if_pos h])
   have M:=zW (¬(9≤k∨(0<k∧x0.toNat=0))→¬x0.toNat<128→zCo k a (x0::S)=zCo (k+1) (a+x0.toNat%128*128 ^ k) S) (fun e h=>by
    rw[zCo,if_neg (fun h=>e (h.imp id fun h=>⟨h.1,by rw[h.2];rfl⟩)),if_neg h])
   clear z C F;go_wp2_with fail;refine n.o.mono ?_;rintro e w1 ⟨v,rfl,hv,aa,b,d⟩;have e1:w1.cell? ⟨r,1,none⟩=some (.bool false):=by rw[←V];exact b.c1
   obtain⟨g,cc,rfl,W⟩:∃g cc,v=.slice (some ⟨g,0,none⟩) 1 cc∧w1.cell? ⟨g,0,none⟩=some (.int .u8 (x0.toNat:Int)):=by
    have hh:=hv.has;obtain⟨ad,⟨rfl,h0⟩|⟨g,T,cur,rfl,hg⟩⟩:=hv
    ·simp at h0
    ·refine⟨g,T,rfl,?_⟩;obtain⟨_,p,c,e,_,X⟩:=hh;cases e;have:=X _ rfl 0 (.int .u8 (x0.toNat:Int)) (by simp[zAQ]);rwa[add_zero]at this
   have j:=zh (And.intro b (I.o.trans d fun _ _ e=>e));have f:=zh (zEc b);clear hv aa b d;generalize x0.toNat=x at *
   by_cases h9:9≤k
   ·obtain rfl:k=9:=by omega
    have l:=zh (y.o (s.o.trans (q.o (.inl (Nat.le_refl _)))))
    by_cases ai:127<x
    ·go_wp2_with fail;refine f.o.mono ?_;rintro e w2 ⟨rfl,b,d⟩;have m:=zW (NumY A w r R (.returned (.int .i64 0)) w2) (⟨by rw[l.o];rfl,by rw[l.o];exact b,j.o.2.trans d fun _ _ e=>e⟩);clear b d;go_wp2_with fail;go_ret;exact m.o
    ·by_cases aj:1<x
     ·go_wp2_with fail;refine f.o.mono ?_;rintro e w2 ⟨rfl,b,d⟩;have m:=zW (NumY A w r R (.returned (.int .i64 0)) w2) (⟨by rw[l.o];rfl,by rw[l.o];exact b,j.o.2.trans d fun _ _ e=>e⟩);clear b d;go_wp2_with fail;go_ret;exact m.o
     ·by_cases ab:x=0
      focus subst ab
      rotate_left
      focus
       obtain rfl:x=1:=by omega
       obtain⟨Z,ae,af⟩:=or_big a (by
        have h9:(128:Nat) ^ 9=9223372036854775808:=by decide
        omega)
       have ag:decide ((4611686018427387904:Int)<(Z:Int))=true:=decide_eq_true (by omega)
      all_goals
       go_wp2_with fail;refine f.o.mono ?_;rintro e w2 ⟨rfl,b,d⟩;have m:=zW (NumY A w r R (.returned (.int .i64 0)) w2) (⟨by rw[l.o];rfl,by rw[l.o];exact b,j.o.2.trans d fun _ _ e=>e⟩);clear b d;go_wp2_with fail;go_ret;exact m.o
   ·by_cases hz:0<k∧x=0
    ·have l:=zh (y.o (s.o.trans (q.o (.inr hz))));obtain⟨B,rfl⟩:=hz;have K:((k:Int)==9)=false:=by simp;omega
     go_wp2_with fail;refine f.o.mono ?_;rintro e w2 ⟨rfl,b,d⟩;have m:=zW (NumY A w r R (.returned (.int .i64 0)) w2) (⟨by rw[l.o];rfl,by rw[l.o];exact b,j.o.2.trans d fun _ _ e=>e⟩);clear b d;go_wp2_with fail;go_ret;exact m.o
    ·have hs:¬(9≤k∨(0<k∧x=0)):=fun e=>e.elim h9 hz;have K:((k:Int)==9)=false:=by simp;omega
     by_cases D:x<128
     ·have G:=zh (s.o.trans (L.o hs D));have P:=zGg ha (by omega) (show x<256 by omega);rw[show x%128=x by omega]at P;obtain⟨P,-,U⟩:=P;generalize a+x*128 ^ k=Z at *
      by_cases hA:4611686018427387904<Z
      ·have l:=zh (y.o (G.o.trans (if_pos hA)));rcases Nat.lt_or_ge 0 k with B|B
       rotate_left
       rotate_left
       focus have ah:0<x:=by omega
       all_goals
        go_wp2_with fail;refine f.o.mono ?_;rintro e w2 ⟨rfl,b,d⟩;have m:=zW (NumY A w r R (.returned (.int .i64 0)) w2) (⟨by rw[l.o];rfl,by rw[l.o];exact b,j.o.2.trans d fun _ _ e=>e⟩);clear b d;go_wp2_with fail;go_ret;exact m.o
      ·have H:=zh (N.o _ _ (G.o.trans (if_neg hA)));have m:=zW (NumY A w r R (.returned (.int .i64 (Z:Int))) w1) (⟨by rw[H.o],by rw[H.o];exact j.o.1,j.o.2⟩);rcases Nat.lt_or_ge 0 k with B|B
       rotate_left
       ·go_wp2_with fail;go_ret;exact m.o
       ·have ak:((x:Int)==0)=false:=by simp;omega
        go_wp2_with fail;go_ret;exact m.o
     ·have E:=s.o.trans (M.o hs D);obtain⟨P,O,U⟩:=zGg ha (by omega) (show x<256 by omega);have J:=zh (And.intro E O);clear E O;generalize a+x%128*128 ^ k=Z at *;go_wp2_with fail;go_roundw
      case rel=>exact⟨k+1,Z,by omega,by go_num,rfl,J.o.2,S,J.o.1,j.o.1,j.o.2⟩
      case measure=>simp[intOf];omega
theorem num_bad {R:Rd}(b:R.bad=true→R.rest=[])(c:R.num.2.bad=true):R.num=(0,Rd.fail):=by
 cases h:zCo 0 0 R.rest with
 | none=>unfold Rd.num;rw[h]
 | some x =>
  obtain⟨n,t⟩:=x;have e:R.num=(n,⟨t,R.bad⟩):=by unfold Rd.num;rw[h]
  rw[e]at c;rw[b c]at h;cases h
theorem zGa {w:World}{r:Nat}{R:Rd}{A:Nat→Prop}(h:RdY A w r R) :
  Calls prog 86 #[.pointer (some ⟨r,0,none⟩)] w (RowY A w r R.bytes.1 R.bytes.2):=by
 have y:=zh (zBE h);have a:=Rd.num_le R;have b:=num_bad h.inv;have n:=zW (R.bytes=R.num.2.raw R.num.1) rfl;clear h
 go_enter func86,ntmps86
 go_wp2_with fail;refine y.o.mono ?_;rintro e w1 ⟨rfl,c,l⟩;have d:=c.c1;have s:=zh l;cases k:R.num.2.bad with
 | true =>
  rw[k]at d;have hn:=b k;have p:=zW (RowY A w r R.bytes.1 R.bytes.2 (.returned (.slice none 0 0)) w1) (by
   rw[n.o,hn];rw[hn]at c;exact⟨_,rfl,OwnR.nil _ _ _,fun j q=>(by cases q),c,l⟩)
  clear c l hn b;go_wp2_with fail;go_ret;exact p.o
 | false =>
  rw[k]at d;have z:=zh (zEe c R.num.1 (by omega));clear c l b k;generalize R.num.1=m at *;generalize R.num.2=B at *;go_wp2_with fail;refine z.o.mono ?_;rintro e w2 ⟨v,rfl,t,i,g,f⟩;have p:=zW (RowY A w r R.bytes.1 R.bytes.2 (.returned v) w2) (⟨v,rfl,by rw[n.o];exact t,fun j q=>Nat.le_trans s.o.size (i j q),by rw[n.o];exact g,s.o.trans f fun _ _ e=>e⟩);clear t i g f;go_wp2_with fail;go_ret;exact p.o
def RLst (R:Rd)(l:List Int)(b:Rd):Prop :=
 (R.num.1≤17∧(Rd.ints R.num.1 R.num.2).2.bad=false∧l=(Rd.ints R.num.1 R.num.2).1∧b=(Rd.ints R.num.1 R.num.2).2) ∨
 (¬(R.num.1≤17∧(Rd.ints R.num.1 R.num.2).2.bad=false)∧b.bad=true)
theorem num_stays {R:Rd}(h:R.bad=true):R.num.2.bad=true:=by
 unfold Rd.num
 split
 ·exact h
 ·rfl
theorem ints_stays:∀(n k:Nat) (R:Rd),k≤n→(Rd.ints k R).2.bad=true→(Rd.ints n R).2.bad=true
 | 0,k,R,hk,h=>by
  obtain rfl:k=0:=by omega
  exact h
 | n+1,k,R,hk,h=>by
  by_cases e:k=n+1
  ·rw[←e];exact h
  ·rw[zD1];exact num_stays (ints_stays n k R (by omega) h)
def LstTold (A:Nat→Prop)(w:World)(r:Nat)(R:Rd)(e:Ending)(w':World):Prop :=
 ∃v l R',e=.returned v∧RLst R l R'∧zCp w' v l∧(∀k,v.ownBlock=some k→w.heap.size≤k)∧l.length≤18∧(∀z∈l,0≤z∧z≤4611686018427387904)∧RdY A w' r R'∧Chg (fun k=>k=r) w w'
theorem lst_round {A:Nat→Prop}{w wr w3 c:World}{r k v:Nat}{m l:Value}{zs:List Int}{s:Rd}{o:Obj}(h:∀k,A k→k<w.heap.size∧k≠r)(D:r<w.heap.size)(b:∀y,m.ownBlock=some y→w.heap.size≤y∧y≠r)(f:Chg (fun k=>k=r) w wr)
  (p:RdY A w3 r s) (d:Chg (fun k=>k=r) wr w3) (n:zs.length=k) (j:OwnR c 3 1 l (k+1) (intsV zs++[.int .i64 (v:Int)])) (B:(w3.alloc o).grownBy c m.ownBlock) (i:l.ownBlock=m.ownBlock∨∃g,l.ownBlock=some g∧(w3.alloc o).heap.size≤g) :
  zCp c l (zs++[(v:Int)])∧(∀y,l.ownBlock=some y→w.heap.size≤y∧y≠r)∧RdY A c r s∧Chg (fun k=>k=r) w c:=by
 have E:=f.size;have F:=d.size;have z:=zAv w3 o;have G:=z.size;have t:Chg (fun k=>some k=m.ownBlock) w3 c:=((Chg.of_below z).mono fun _ _ e=>e.elim).trans (Chg.of_grown B) fun _ _ e=>e;refine⟨?_,fun y q=>?_,p.chg t (fun e=>(b r e.symm).2 rfl) (fun x a e=>by have H:=(b x e.symm).1;have I:=(h x a).1;omega),(f.trans d fun _ _ e=>e).trans t fun x a e=>by have:=(b x e.symm).1;omega⟩
 ·unfold zCp intsV;rw[List.length_append,List.map_append,n];exact j
 ·rcases i with e|⟨g,e,C⟩
  ·exact b y (e▸q)
  ·rw[e]at q;cases q;exact⟨by omega,by omega⟩
theorem rlst_calls {w:World}{r:Nat}{R:Rd}{A:Nat→Prop}(h:RdY A w r R)(hA:∀k,A k→k<w.heap.size∧k≠r) :
  Calls prog 85 #[.pointer (some ⟨r,0,none⟩)] w (LstTold A w r R):=by
 obtain⟨i0,hi,aa,ab,ac⟩:=info_parts (show(prog.info? 3).map (fun i=>(i.zero,i.size,i.bytes))=some (some (.int .i64 0),1,8) by kernel_rfl);have Hn:=zh (zBE h);have K:=h.lt;have HA:=zh hA;have HR:=zW (∀l J,((R.num.1≤17∧(Rd.ints R.num.1 R.num.2).2.bad=false∧l=(Rd.ints R.num.1 R.num.2).1∧J=(Rd.ints R.num.1 R.num.2).2)∨(¬(R.num.1≤17∧(Rd.ints R.num.1 R.num.2).2.bad=false)∧J.bad=true))→RLst R l J) fun _ _ h=>h;have an:=Rd.num_le R;clear h hA
 go_enter func85,ntmps85
 go_wp2_with fail;refine Hn.o.mono ?_;rintro e w1 ⟨rfl,X,V⟩;have ag:=zh X;have ae:=zh V;clear X V;generalize R.num.1=n at *;generalize R.num.2=a at *;go_wp2_with fail
 go_loopw [4,5] (fun x i wr=>∃(k:Nat) (E:Value) (p:Rd),k≤n∧k≤18∧i=.int .i64 k∧E=x∧(k≤17∧p=(Rd.ints k a).2∨k=18∧p=Rd.fail)∧zCp wr E (Rd.ints k a).1∧(∀y,E.ownBlock=some y→w.heap.size≤y∧y≠r)∧RdY A wr r p∧Chg (fun k=>k=r) w wr) (fun _ i _=>n-(intOf i).toNat)
 case atStart=>exact⟨0,_,a,Nat.zero_le _,by omega,rfl,rfl,.inl ⟨by omega,rfl⟩,OwnR.nil _ _ _,fun y F=>(by cases F),ag.o,ae.o⟩
 case round =>
  obtain⟨k,E,p,hk,al,rfl,rfl,q,f,j,t,C⟩:=hrel;have O:=t.c1;have P:=zC2 k a;have L:=zW ((∀J,(k=n∧k≤17∧p.bad=false∧J=p)∨(p.bad=true∧J=p)→LstTold A w r R (.returned E) wr)) (fun J ai=>by
   refine⟨E,(Rd.ints k a).1,p,rfl,HR.o _ _ ?_,f,fun y F=>(j y F).1,by omega,ints_mem k a,t,C⟩;rcases ai with⟨rfl,ah,s,-⟩|⟨s,-⟩
   ·rcases q with⟨-,rfl⟩|⟨e,-⟩
    ·exact .inl ⟨ah,s,rfl,rfl⟩
    ·omega
   ·refine .inr ⟨fun h2=>?_,s⟩;rcases q with⟨-,rfl⟩|⟨e,-⟩
    ·have:=ints_stays n k a hk s;rw[h2.2]at this;cases this
    ·omega)
  by_cases ao:k<n
  ·cases s:p.bad with
   | true =>
    rw[s]at O;have m:=zh (L.o p (.inr ⟨s,rfl⟩));clear f j t C;go_wp2_with fail;go_ret;exact m.o
   | false =>
    rw[s]at O;have ak:k≤17:=by
     rcases q with⟨h,-⟩|⟨-,rfl⟩
     ·exact h
     ·cases s
    obtain rfl:p=(Rd.ints k a).2:=by
     rcases q with⟨-,h⟩|⟨h,-⟩
     ·exact h
     ·omega
    have af:=zh (zBE t);have I:=zh (zD1 k a);have T:=zh (And.intro f (And.intro j C));have G:=zW (OwnR wr 3 1 E k (intsV (Rd.ints k a).1)) (by have:=f;unfold zCp at this;rwa[P]at this);have U:=zh P;have am:=Rd.num_le (Rd.ints k a).2;clear f j t C P q;generalize hv:(Rd.ints k a).2.num.1=v at *;have Hv:=zh hv;clear hv;go_wp2_with fail;refine af.o.mono ?_;rintro e w3 ⟨rfl,Y,M⟩;have S:=zh Y;have Q:=zh M;rw[Hv.o];have g:=zh (G.o.keep fun y F=>M.block y (OwnR.lt G.o F) fun e=>(T.o.2.1 y F).2 e);clear Y M
    by_cases aj:16<k
    ·have W:decide ((16:Int)<(k:Int))=true:=decide_eq_true (by omega);go_wp2_with (at_builtin;have B:=g.o.keep (w':=w3.alloc (.cells #[.int .i64 (v:Int)] 3)) (fun z hz=>(zAv w3 _).block z (OwnR.lt g.o hz));have D:=zDn w3 (.int .i64 (v:Int)) 3 (0,0);refine zAP _ rfl (.tmp 20) (.tmp 23) 38 rfl 3 i0 (.int .i64 0) 1 8 underlying38 hi aa ab ac rfl (by decide) E k _ rfl B (.slice (some ⟨w3.heap.size,0,none⟩) 1 1) 1 _ rfl D (by simp[Value.oneCell']) (by unfold maxLen;omega) (by omega) ?_;clear B D;intro v4 w4 b c d;go_loud (have m:=zh (lst_round (v:=v) HA.o K T.o.2.1 T.o.2.2 S.o Q.o U.o b c d);have ad:=zh (zEc m.o.2.2.1);clear c d;obtain⟨p4,q4,rfl⟩:=OwnR.shape b;clear b))
     refine ad.o.mono ?_;rintro e w5 ⟨rfl,Z,N⟩;have H:=zh (And.intro Z (And.intro (m.o.2.2.2.trans N fun _ _ e=>e) (show zCp w5 (.slice p4 (k+1) q4) _ from OwnR.keep m.o.1 fun y F=>N.block y (OwnR.lt m.o.1 F) fun e=>(m.o.2.1 y F).2 e)));clear Z N;go_wp2_with fail;go_roundw
     case rel=>exact⟨k+1,_,_,by omega,by omega,by go_num,rfl,.inr ⟨by omega,rfl⟩,by rw[I.o];exact H.o.2.2,m.o.2.1,H.o.1,H.o.2.1⟩
     case measure=>simp[intOf];omega
    ·have W:decide ((16:Int)<(k:Int))=false:=decide_eq_false (by omega);go_wp2_with (at_builtin;have B:=g.o.keep (w':=w3.alloc (.cells #[.int .i64 (v:Int)] 3)) (fun z hz=>(zAv w3 _).block z (OwnR.lt g.o hz));have D:=zDn w3 (.int .i64 (v:Int)) 3 (0,0);refine zAP _ rfl (.tmp 20) (.tmp 23) 38 rfl 3 i0 (.int .i64 0) 1 8 underlying38 hi aa ab ac rfl (by decide) E k _ rfl B (.slice (some ⟨w3.heap.size,0,none⟩) 1 1) 1 _ rfl D (by simp[Value.oneCell']) (by unfold maxLen;omega) (by omega) ?_;clear B D;intro v4 w4 b c d;go_loud (have m:=zh (lst_round (v:=v) HA.o K T.o.2.1 T.o.2.2 S.o Q.o U.o b c d);clear c d;obtain⟨p4,q4,rfl⟩:=OwnR.shape b;clear b))
     go_roundw
     case rel=>exact⟨k+1,_,_,by omega,by omega,by go_num,rfl,.inl ⟨by omega,by rw[I.o]⟩,by rw[I.o];exact m.o.1,m.o.2.1,m.o.2.2.1,m.o.2.2.2⟩
     case measure=>simp[intOf];omega
  ·obtain rfl:k=n:=by omega
   have m:=zW (LstTold A w r R (.returned E) wr) (by
    cases s:p.bad with
    | true=>exact L.o p (.inr ⟨s,rfl⟩)
    | false =>
     refine L.o p (.inl ⟨rfl,?_,s,rfl⟩);rcases q with⟨h,-⟩|⟨-,rfl⟩
     ·exact h
     ·cases s)
   clear f j t C q O;go_wp2_with fail;go_ret;exact m.o
theorem zDe {R:Rd}:R.whole=true↔R.bad=false∧R.rest=[]:=by
 unfold Rd.whole;rw[Bool.and_eq_true,List.isEmpty_iff];simp
theorem grp7 {l:List Int}(h:zAX l=true):l.length≤7:=by
 unfold zAX at h;rw[Bool.and_eq_true,decide_eq_true_eq]at h;exact h.2.2
theorem ent_nodes7 {e:Ent}(h:zAt e=true):e.nodes.length≤7:=by
 by_cases b:e.kind=0
 ·rw[ent_zero b,Bool.and_eq_true,decide_eq_true_eq]at h;omega
 ·by_cases c:e.kind=1
  ·rw[ent_one c,Bool.and_eq_true,decide_eq_true_eq]at h;omega
  ·by_cases d:e.kind=2
   ·rw[ent_two d,Bool.and_eq_true,Bool.and_eq_true]at h;exact grp7 h.2.2
   ·rw[ent_none b c d]at h;cases h
theorem lst_any {R b:Rd}{l:List Int}(h:RLst R l b)(c:b.bad=false)(d:l.length≤7):R.grp anyG=(l,b):=by
 rcases h with⟨-,-,rfl,rfl⟩|⟨-,h⟩
 ·rw[zC2]at d;rw[zDY (by omega)];rfl
 ·rw[h]at c;cases c
theorem lst_grp {R b:Rd}{l:List Int}(h:RLst R l b)(c:b.bad=false)(d:zAX l=true):R.grp zAX=(l,b):=by
 have f:=grp7 d;rcases h with⟨-,-,rfl,rfl⟩|⟨-,h⟩
 ·rw[zC2]at f;rw[zDY (by omega),if_pos d]
 ·rw[h]at c;cases c
theorem any_lst {R c:Rd}{l:List Int}(h:RLst R l c)(b:(R.grp anyG).2.bad=false):R.grp anyG=(l,c):=by
 by_cases d:7<R.num.1
 ·rw[grp_big d]at b;cases b
 ·rw[zDY d]at b ⊢;rcases h with⟨-,-,rfl,rfl⟩|⟨h,-⟩
  ·rfl
  ·exact absurd ⟨by omega,b⟩ h
theorem grp_lst {R d:Rd}{l:List Int}(h:RLst R l d)(b:(R.grp zAX).2.bad=false):R.grp zAX=(l,d):=by
 have c:=grp_bad b
 by_cases f:7<R.num.1
 ·rw[grp_big f]at b;cases b
 ·rw[zDY f]at b c ⊢;have c:zAX (Rd.ints R.num.1 R.num.2).1=true:=c;rw[c]at b ⊢;have b:(Rd.ints R.num.1 R.num.2).2.bad=false:=b;rcases h with⟨-,-,rfl,rfl⟩|⟨h,-⟩
  ·rfl
  ·exact absurd ⟨by omega,b⟩ h
theorem lst_first {R b:Rd}{l:List Int}(h:RLst R l b):(b.whole&&zAX l)=(R.grp zAX).2.whole∧((R.grp zAX).2.whole=true→R.grp zAX=(l,b)):=by
 have c:(R.grp zAX).2.whole=true→R.grp zAX=(l,b):=fun e=>grp_lst h (zDe.1 e).1;refine⟨?_,c⟩;rw[Bool.eq_iff_iff,Bool.and_eq_true];refine⟨fun e=>?_,fun e=>?_⟩
 ·rw[lst_grp h (zDe.1 e.1).1 e.2];exact e.1
 ·have f:=c e;have d:=grp_bad (zDe.1 e).1;rw[f]at e d;exact⟨e,d⟩
def REntR (R:Rd)(e:Ent)(b:Rd):Prop :=
 ∃l R5,RLst R.num.2.num.2.bytes.2 l R5∧e=⟨(R.num.1:Int),(R.num.2.num.1:Int),R.num.2.num.2.bytes.1,l⟩∧b=if R5.bad=false∧zAt e=false then Rd.fail else R5
theorem rent_whole {R j:Rd}{e:Ent}(h:REntR R e j) :
  (j.whole=true↔((R.num.2.num.2.bytes.2.grp anyG).2.whole=true∧zAt ⟨(R.num.1:Int),(R.num.2.num.1:Int),R.num.2.num.2.bytes.1,(R.num.2.num.2.bytes.2.grp anyG).1⟩=true)) ∧
  (j.whole=true→e=⟨(R.num.1:Int),(R.num.2.num.1:Int),R.num.2.num.2.bytes.1,(R.num.2.num.2.bytes.2.grp anyG).1⟩):=by
 obtain⟨l,i,m,rfl,rfl⟩:=h;generalize R.num.2.num.2.bytes.2=n at *;generalize R.num.2.num.2.bytes.1=d at *;have g:(if i.bad=false∧zAt ⟨(R.num.1:Int),(R.num.2.num.1:Int),d,l⟩=false then Rd.fail else i).whole=true→n.grp anyG=(l,i)∧i.whole=true∧zAt ⟨(R.num.1:Int),(R.num.2.num.1:Int),d,l⟩=true:=by
  intro b
  split at b
  ·cases b
  ·rename_i hn
   have k:=(zDe.1 b).1;have f:zAt ⟨(R.num.1:Int),(R.num.2.num.1:Int),d,l⟩=true:=by
    cases q:zAt ⟨(R.num.1:Int),(R.num.2.num.1:Int),d,l⟩with
    | true=>rfl
    | false=>exact absurd ⟨k,q⟩ hn
   exact⟨lst_any m k (ent_nodes7 f),b,f⟩
 refine⟨⟨fun b=>?_,fun⟨b,f⟩=>?_⟩,fun b=>?_⟩
 ·obtain⟨c,o,p⟩:=g b;rw[c];exact⟨o,p⟩
 ·have c:=any_lst m (zDe.1 b).1;rw[c]at b f;rw[if_neg (fun hn=>by rw[f]at hn;exact absurd hn.2 (by simp))];exact b
 ·obtain⟨c,-⟩:=g b;rw[c]
theorem rsnap_is {b:Bs}{l:List Int}{d:Rd}(h:RLst (Rd.num ⟨b,false⟩).2.num.2 l d)(k:d.bad=false→d.bytes.1.length≤524288) :
  zDD b=if d.bytes.2.whole=true∧zAX l=true∧1≤(Rd.num ⟨b,false⟩).1∧(Rd.num ⟨b,false⟩).1≤1099511627776∧(Rd.num ⟨b,false⟩).2.num.1≤1099511627776 then some ⟨(Rd.num ⟨b,false⟩).1,(Rd.num ⟨b,false⟩).2.num.1,l,d.bytes.1⟩else none:=by
 unfold zDD;dsimp only;generalize (Rd.num ⟨b,false⟩).2.num.2=m at *;generalize (Rd.num ⟨b,false⟩).1=n at *;generalize (Rd.num ⟨b,false⟩).2.num.1=t at *
 by_cases c:d.bytes.2.whole=true∧zAX l=true
 ·have g:=lst_grp h (zF3 c.1) c.2;rw[g];dsimp only
  by_cases f:1≤n∧n≤1099511627776∧t≤1099511627776
  ·rw[if_pos ⟨c.1,f.1,f.2.1,f.2.2,k (zF3 c.1)⟩,if_pos ⟨c.1,c.2,f⟩]
  ·rw[if_neg (fun e=>f ⟨e.2.1,e.2.2.1,e.2.2.2.1⟩),if_neg (fun e=>f e.2.2)]
 ·refine(if_neg fun e=>?_).trans (if_neg (fun e=>c ⟨e.1,e.2.1⟩)).symm;have i:=zF3 e.1;have g:=grp_lst h i;have j:=grp_bad i;rw[g]at e j;exact c ⟨e.1,j⟩
def b12':Bs:=[49,50]
def b3':Bs:=[51]
def b123:Bs:=[49,50,51]
def Q0:zAA:=zAA.fresh 1000
def Q1:zAA:=⟨1000,[([97],⟨zAK b123,(zAK b123).length⟩)],none⟩
theorem q1:Q0.save (nm sA) [b12',b3'].flatten=(Q1,0) :=
 save_all (D:=Q0) (n:=[97]) (l:=b123) (ok_fresh 1000 (by decide)) (fun j h=>by cases h) (by decide) (by decide) rfl (by decide) (by decide)
theorem q2 (k:Int):Sat.get (nm sA) (Q1.crash k).files=some ⟨zAK b123,(zAK b123).length⟩:=get_crash_whole (D:=Q1) (n:=[97]) rfl k
def fl (x:Bs):zAS:=⟨zAK x,(zAK x).length⟩
theorem each_one (g:Bs→zAS→List (Bs×zAS)→List (Bs×zAS))(D:zAA)(n:Bs):D.each g [n]=D.each1 g n:=by
 cases h:D.each1 g n with
 | mk D1 e1 =>
  unfold zAA.each;rw[h]
  by_cases b:e1=0
  ·subst b;rw[if_pos rfl];rfl
  ·rw[if_neg b]
section
variable {a b c:Bs}
end
end Go.Proofs.YtapfnehdgailmaaGreat
namespace Go.Sat
open Go.RowKit
theorem OwnR.set {w:World}{e:TypeId}{size:Nat}{v:Value}{n:Nat}{xs:List Value}(h:OwnR w e size v n xs){g:Nat}(k:v.ownBlock=some g)(j:Nat)(u:Value):OwnR (w.setCell ⟨g,j,none⟩ u) e size v n (xs.set j u):=by
 refine⟨by rw[List.length_set];exact h.1,?_⟩;rcases h.2 with⟨rfl,_⟩|⟨l,b,cur,rfl,f,i,c,d,m⟩
 ·cases k
 ·cases k;refine .inr ⟨l,b,cur.setIfInBounds j u,rfl,zAD f j u,i,c,by simpa using d,?_⟩;rw[←m,Array.toList_setIfInBounds,List.take_set]
end Go.Sat
namespace Go.Proofs.YtapfnehdgailmaaGreat
open Go.RowKit Go.Sat Go.Maps
theorem cells_set (L:List zAR)(i:Nat)(x b:zAR)(h:L[i]?=some x)(j:Nat)(d:j<3)(u:Value)(c:b.cells=x.cells.set j u):(L.flatMap zAR.cells).set (i*3+j) u=(L.set i b).flatMap zAR.cells:=by
 induction L generalizing i with
 | nil=>simp at h
 | cons y r ih =>
  have f:y.cells.length=3:=rfl;rw[List.flatMap_cons];cases i with
  | zero =>
   simp at h;subst h;rw[List.set_cons_zero,List.flatMap_cons,c,List.set_append_left _ _ (by omega),Nat.zero_mul,Nat.zero_add]
  | succ i =>
   rw[List.set_cons_succ,List.flatMap_cons,List.set_append_right _ _ (by omega),←ih i (by simpa using h)]
   congr 2
   omega
structure zAy (w:World)(r:Nat)(v:Value)(L:List zAR)(own:Nat→Prop)(room:Nat)(fuse:Option Nat):Prop where
 cells:w.heap[r]?=some (.cells #[.int .i64 (room:Int),v,.int .i64 (leftOf fuse)] 118 (0,0))
 row:OwnR w 127 3 v L.length (L.flatMap zAR.cells)
 data:∀x∈L,zAk w 5 x.b x.f.data
 or:own r
 ov:∀k,v.ownBlock=some k→own k∧k≠r
 ob:∀x∈L,∀k,x.b.ownBlock=some k→own k∧k≠r∧v.ownBlock≠some k
 olt:∀k,own k→k<w.heap.size
section
variable {w:World} {r:Nat} {v:Value} {L:List zAR} {own:Nat→Prop} {D:zAA} {room:Nat} {fuse:Option Nat}
theorem zAf.core (h:zAf w r v L own D):zAy w r v L own D.room D.fuse:=⟨h.cells,h.row,h.data,h.or,h.ov,h.ob,h.olt⟩
theorem zAy.full (h:zAy w r v L own room fuse)(d:D.room=room)(c:D.fuse=fuse)(b:D.files=L.map zAR.key)(f:D.OK):zAf w r v L own D:=by
 subst d;subst c;exact⟨h.cells,h.row,b,h.data,h.or,h.ov,h.ob,h.olt,f⟩
theorem zAy.at (h:zAy w r v L own room fuse){g:Nat}(j:v.ownBlock=some g){i:Nat}{x:zAR}(d:L[i]?=some x):w.cell? ⟨g,i*3,none⟩=some (encStr x.n)∧w.cell? ⟨g,i*3+1,none⟩=some x.b∧w.cell? ⟨g,i*3+2,none⟩=some (.int .i64 (x.f.lasts:Int)):=by
 have c:=h.row.cells j;refine⟨?_,?_,?_⟩
 ·have:=c (i*3+0) (encStr x.n) ((zFH L i x d 0 (by omega)).trans rfl);rwa[add_zero]at this
 ·have:=c (i*3+1) x.b ((zFH L i x d 1 (by omega)).trans rfl);rwa[add_zero]at this
 ·have:=c (i*3+2) _ ((zFH L i x d 2 (by omega)).trans rfl);rwa[add_zero]at this
theorem mem_set {α:Type}{L:List α}{i:Nat}{b y:α}(h:y∈L.set i b):y∈L∨y=b:=List.mem_or_eq_of_mem_set h
theorem zAy.store (h:zAy w r v L own room fuse){g:Nat}(p:v.ownBlock=some g){i:Nat}{x:zAR}(z:L[i]?=some x)(j:Nat)(t:j<3)(u:Value)(m:zAR)(q:m.cells=x.cells.set j u)
  {own':Nat→Prop} (d:∀k,own k→own' k) (s:zAk w 5 m.b m.f.data) (o:∀k,m.b.ownBlock=some k→own' k∧k≠r∧k≠g) (n:∀k,own' k→k<w.heap.size) :
  zAy (w.setCell ⟨g,i*3+j,none⟩ u) r v (L.set i m) own' room fuse where
 cells:=(set_other u (h.ov g p).2.symm).trans h.cells
 row:=by
  rw[List.length_set,←cells_set L i x m z j t u q];exact h.row.set p _ _
 data:=fun y l=>by
  rcases mem_set l with l|rfl
  ·exact OwnR.keep (h.data y l) fun k c=>set_other u (fun e=>(h.ob y l k c).2.2 (by rw[p];exact congrArg some e.symm))
  ·exact OwnR.keep s fun k c=>set_other u (o k c).2.2
 or:=d r h.or
 ov:=fun k c=>⟨d k (h.ov k c).1,(h.ov k c).2⟩
 ob:=fun y l k c=>by
  rcases mem_set l with l|rfl
  ·exact⟨d k (h.ob y l k c).1,(h.ob y l k c).2⟩
  ·exact⟨(o k c).1,(o k c).2.1,fun e=>(o k c).2.2 (Option.some.inj (e.symm.trans p))⟩
 olt:=fun k c=>by
  have:=n k c;simpa[World.setCell]using this
theorem zAy.free (h:zAy w r v L own room fuse){g:Nat}(c:v.ownBlock=some g)(j:Nat):w.frozen? ⟨g,j,none⟩=false:=by
 rcases h.row.2 with⟨rfl,_⟩|⟨f,d,cur,rfl,b,_⟩
 ·cases c
 ·cases c;exact zAE b j
def zCn (w:World)(r:Nat)(own:Nat→Prop)(R:zAA×Nat)(e:Ending)(w':World):Prop :=
 e=.returned (.int .i64 (R.2:Int))∧∃own',RefAt w' r R.1 own'∧Chg own w w'∧∀k,own' k→own k∨w.heap.size≤k
theorem zAf.below (h:zAf w r v L own D){w':World}(b:Below w.heap.size w w'):zAf w' r v L own D:=h.keep b.size fun k c=>b.block k (h.olt k c)
theorem zCd {w' b:World}(c:Below w.heap.size w w')(d:Chg own w' b):Chg own w b :=
 ((Chg.of_below c).mono fun _ _ h=>h.elim).trans d fun _ _ h=>h
theorem zBY (h:zAf w r v L own D){w':World}(b:Below w.heap.size w w')(k:Nat):zCn w r own (D,k) (.returned (.int .i64 (k:Int))) w' :=
 ⟨rfl,own,⟨v,L,h.below b⟩,(Chg.of_below b).mono fun _ _ h=>h.elim,fun _ h=>.inl h⟩
theorem zAu (w:World)(o:Obj)(q:Nat):Below w.heap.size w ((w.alloc o).drewN q):=((Below.refl _ _).alloc (Nat.le_refl _) o).trans ⟨rfl,rfl,rfl,Nat.le_refl _,fun _ _=>rfl⟩
theorem zFS {ns:List Bs}(h:D.may ns=0):D.fuse≠some 0:=fun e=>by
 unfold zAA.may at h;rw[if_pos e]at h;cases h
theorem zDb {c:zAA}{v':Value}{L':List zAR}{own':Nat→Prop}{w1 w2:World}{e:Ending}(i:Chg own w w1)(d:∀k,own' k→own k∨w.heap.size≤k)(_ho:w.heap.size≤w1.heap.size)
  (h:e=.returned (.int .i64 0)∧zAf w2 r v' L' own' c.done∧Chg own' w1 w2):zCn w r own (c.done,0) e w2:=by
 obtain⟨rfl,f,b⟩:=h;refine⟨rfl,own',⟨v',L',f⟩,i.trans b fun k j g=>?_,d⟩;rcases d k g with h|h
 ·exact h
 ·omega
theorem map_set_key (L:List zAR)(i:Nat)(x:zAR):(L.set i x).map zAR.key=(L.map zAR.key).set i x.key:=List.map_set ..
theorem zAf.put (h:zAf w r v L own D){n:Bs}{f:zAS}(d:Sat.get n D.files=some f)(b:zAR)(hn:b.n=n):put n b.f D.files=(L.set (zA3 n (L.map zAR.n)) b).map zAR.key:=by
 have c:isAt n (D.files.map (·.1))=true:=by rw[(zGd n h.ok.srt).1,d];rfl
 rw[put_at n b.f h.ok.srt c,map_set_key,←h.files,h.names];unfold zAR.key;rw[hn]
theorem zDc (h:zAf w r v L own D)(s:ByteArray)(hs:s.size≤9223372036854775807) :
  Calls prog 91 #[.pointer (some ⟨r,0,none⟩),.string s] w (zCn w r own (D.sync [nm s])):=by
 have R:zAf (w.alloc (.cells #[.string s] 9)) r v L own D:=h.below ((Below.refl _ _).alloc (Nat.le_refl _) _);have c:=zCY R (some ⟨w.heap.size,0,none⟩) [s] 1 (zBc w s) (by simp) (by simpa using hs);simp only[List.map_cons,List.map_nil]at c;unfold zAA.sync;rw[each_one]
 by_cases M:D.may [nm s]=0
 ·have p:=zBu R s;rw[h.is]at p;rw[M]at c;cases a:Sat.get (nm s) D.files with
  | none =>
   rw[a]at p;have G:zAA.each1 zAA.gSync D (nm s)=(D,7):=by unfold zAA.each1;rw[if_neg (by rw[M];simp),a]
   rw[G];have U:=zh (fun q=>zBY h (zAu w (.cells #[.string s] 9) q) 7);have j:=zh c;have J:=zh p;clear h R c p M G a
   go_enter func91,ntmps91
   go_wp2_with fail;refine j.o.mono ?_;rintro e w2 ⟨rfl,rfl⟩;go_wp2_with fail;refine J.o.mono ?_;rintro e w3 ⟨rfl,q,rfl⟩;go_wp2_with fail;go_ret;exact U.o q
  | some f =>
   rw[a]at p;obtain⟨x,N,aa,rfl⟩:=h.hit a;have ac:=h.len_le N;have I:=h.put a ⟨x.n,x.b,⟨x.f.data,x.f.data.length⟩⟩ aa;have t:=List.mem_of_getElem? N;have hN:zA3 (nm s) (L.map zAR.n)<L.length:=(List.getElem?_eq_some_iff.1 N).1;have G:zAA.each1 zAA.gSync D (nm s)=(zAA.done {D with files:=zAA.gSync (nm s) x.f D.files},0):=by unfold zAA.each1;rw[if_neg (by rw[M];simp),a]
   rw[G];have T:=ok_sync h.ok a;generalize zA3 (nm s) (L.map zAR.n)=i at *;have F:∀W g,Below w.heap.size w W→v.ownBlock=some g→zAf (W.setCell ⟨g,i*3+2,none⟩ (.int .i64 (x.f.data.length:Int))) r v (L.set i ⟨x.n,x.b,⟨x.f.data,x.f.data.length⟩⟩) own {D with files:=zAA.gSync (nm s) x.f D.files}:=fun W g d A=>by
    have H:=(h.below d).core;exact(H.store A N 2 (by omega) _ ⟨x.n,x.b,⟨x.f.data,x.f.data.length⟩⟩ rfl (fun _ h=>h) (H.data x t) (fun k K=>⟨(h.ob x t k K).1,(h.ob x t k K).2.1,fun e=>(h.ob x t k K).2.2 (by rw[A,e])⟩) H.olt).full rfl rfl I T
   have S:∀W g,Below w.heap.size w W→v.ownBlock=some g→Chg own w (W.setCell ⟨g,i*3+2,none⟩ (.int .i64 (x.f.data.length:Int))):=fun W g d A=>zCd d (zEK (h.ov g A).1);rcases h.at with h0|⟨g,c0,rfl,ab,-⟩
   ·rw[h0]at hN;simp at hN
   have E:=fun W d=>zCw (F W g d rfl) (zFS M);have C:=fun W d=>S W g d rfl;have l:∀W,Below w.heap.size w W→(W.cell? ⟨r,1,none⟩=some (.slice (some ⟨g,0,none⟩) L.length c0)∧W.cell? ⟨g,i*3+1,none⟩=some x.b∧W.cell? ⟨g,i*3+2,none⟩=some (.int .i64 (x.f.lasts:Int))∧W.frozen? ⟨g,i*3+2,none⟩=false):=fun W d=>by
    have H:=h.below d;exact⟨H.c1,(H.core.at rfl N).2.1,(H.core.at rfl N).2.2,H.core.free rfl _⟩
   obtain⟨pb,cb,eb⟩:=zAY.slice (h.data x t).has;rw[eb]at l;generalize x.f.data.length=m at *;have B:=zh (And.intro E C);have y:=zh l;have j:=zh c;have J:=zh p;clear h R c p M G a I T F S E C l N t eb
   go_enter func91,ntmps91
   go_wp2_with fail;refine j.o.mono ?_;rintro e w2 ⟨rfl,rfl⟩;go_wp2_with fail;refine J.o.mono ?_;rintro e w3 ⟨rfl,q,rfl⟩;have O:=zh (zAu w (.cells #[.string s] 9) q);generalize (w.alloc (.cells #[.string s] 9)).drewN q=W at *;obtain⟨V,X,Y,Z⟩:=y.o W O.o;go_wp2_with fail
   go_still_tail 14,(by kernel_rfl)
   change wpList _ _ _ _ _ W.drew;have z:Below w.heap.size w W.drew:=O.o.trans ⟨rfl,rfl,rfl,Nat.le_refl _,fun _ _=>rfl⟩;obtain⟨V,X,Y,Z⟩:=y.o _ z;have Q:=zh (B.o.1 _ z);have P:=zh (B.o.2 _ z);clear z;generalize W.drew=Wd at *;go_wp2_with fail;refine Q.o.mono ?_;intro e w4 h4;have hE:=zDb P.o (fun _ h=>.inl h) P.o.size h4;obtain⟨rfl,-⟩:=h4;have HE:=zh hE;clear hE;go_wp2_with fail;go_ret;exact HE.o
 ·have G:zAA.each1 zAA.gSync D (nm s)=(D,D.may [nm s]):=by unfold zAA.each1;rw[if_pos M]
  rw[G];have U:=zh (zBY h ((Below.refl _ _).alloc (Nat.le_refl _) (.cells #[.string s] 9)) (D.may [nm s]));have j:=zh c;generalize D.may [nm s]=m at *;have ad:((m:Int) != 0)=true:=by simp;omega
  clear h R c G
  go_enter func91,ntmps91
  go_wp2_with fail;refine j.o.mono ?_;rintro e w2 ⟨rfl,rfl⟩;go_wp2_with fail;go_ret;exact U.o
end
end Go.Proofs.YtapfnehdgailmaaGreat
namespace Go.Sat
open Go Go.RowKit
theorem zDB {P:Program}{l:List Oper}{Q:Exit→Act→World→Prop}{d:Region.Mode}{S:World→Prop}{c:Nat}{b:Array Bool}{a:Act}{w:World}(i j:Nat){o p:Oper}{t v:List Oper}(g:l.drop i=o::t)(k:l.drop j=p::v)(s:Region.ready d l.toArray b=[i,j])
  (m:Region.wanted o (yielded l.toArray a.tmps)=true) (n:Region.wanted p (yielded l.toArray a.tmps)=true)
  (q:∀K:Act→World→Prop,Shut (∀a w,S w→(S w→wpAnyH P d l.toArray Q S c (b.setIfInBounds i true) a w)→K a w)→Oper.wp P o a w K Q)
  (r:∀K:Act→World→Prop,Shut (∀a w,S w→(S w→wpAnyH P d l.toArray Q S c (b.setIfInBounds j true) a w)→K a w)→Oper.wp P p a w K Q):wpAnyH P d l.toArray Q S (c+1) b a w :=
 wpAnyH_ready s (by simp) (AllReadyH.cons (zBx g) (fun K f=>by rw[if_pos m];exact q K f) (AllReadyH.cons (zBx k) (fun K f=>by rw[if_pos n];exact r K f) AllReadyH.nil))
end Go.Sat
namespace Go.Proofs.YtapfnehdgailmaaGreat
open Go.RowKit Go.Sat Go.Maps
theorem ok_cut {D:zAA}(h:D.OK){n:Bs}{f:zAS}(d:Sat.get n D.files=some f)(k:Nat):zAA.OK {D with files:=put n ⟨f.data.take k,min f.lasts k⟩ D.files} where
 srt:=zBr h.srt
 room:=h.room
 used:=by
  show zBM zAA.size (put n _ D.files)≤D.room
  rw[sum_put];have c:D.used=zAA.size f+zBM zAA.size (del n D.files):=zC0 h.srt d;have:=h.used;simp only[zAA.size,List.length_take]at c ⊢;omega
 count:=by
  show(put n _ D.files).length≤4096
  rw[zFm];have:=len_del h.srt d;have:=h.count;omega
 names p b:=by
  rcases zBl.1 b with rfl|⟨b,_⟩
  ·exact(h.names (n,f) (zBv d):okN n=true)
  ·exact h.names p b
 lasts p b:=by
  rcases zBl.1 b with rfl|⟨b,_⟩
  ·have c:=h.lasts (n,f) (zBv d)
   show min f.lasts k≤(f.data.take k).length
   rw[List.length_take];have c:f.lasts≤f.data.length:=c;omega
  ·exact h.lasts p b
 fuse:=h.fuse
section
variable {w:World} {r:Nat} {v:Value} {L:List zAR} {own:Nat→Prop} {D:zAA} {room:Nat} {fuse:Option Nat}
theorem zAy.keep {w':World}(h:zAy w r v L own room fuse)(f:w.heap.size≤w'.heap.size)(c:∀k,own k→w'.heap[k]?=w.heap[k]?):zAy w' r v L own room fuse where
 cells:=(c r h.or).trans h.cells
 row:=h.row.keep fun k b=>c k (h.ov k b).1
 data:=fun x d=>OwnR.keep (h.data x d) fun k b=>c k (h.ob x d k b).1
 or:=h.or
 ov:=h.ov
 ob:=h.ob
 olt:=fun k b=>Nat.lt_of_lt_of_le (h.olt k b) f
theorem zAy.c1 (h:zAy w r v L own room fuse):w.cell? ⟨r,1,none⟩=some v:=zAG h.cells rfl
theorem rtrunc_calls (h:zAf w r v L own D)(s:ByteArray)(hs:s.size≤9223372036854775807)(z:Int)(hz:-9223372036854775808≤z)(aQ:z≤9223372036854775807) :
  Calls prog 90 #[.pointer (some ⟨r,0,none⟩),.string s,.int .i64 z] w (zCn w r own (D.truncate (nm s) z)):=by
 have h1:zAf (w.alloc (.cells #[.string s] 9)) r v L own D:=h.below ((Below.refl _ _).alloc (Nat.le_refl _) _);have p:=zCY h1 (some ⟨w.heap.size,0,none⟩) [s] 1 (zBc w s) (by simp) (by simpa using hs);simp only[List.map_cons,List.map_nil]at p
 by_cases hm:D.may [nm s]=0
 ·have V:=zBu h1 s;rw[h.is]at V;rw[hm]at p;cases hg:Sat.get (nm s) D.files with
  | none =>
   rw[hg]at V;have hR:D.truncate (nm s) z=(D,7):=by unfold zAA.truncate;rw[if_neg (by rw[hm];simp),hg]
   rw[hR];have Hf:=zh (fun q=>zBY h (zAu w (.cells #[.string s] 9) q) 7);have E:=zh p;have ad:=zh V;clear h h1 p V hm hR hg
   go_enter func90,ntmps90
   go_wp2_with fail;refine E.o.mono ?_;rintro e w2 ⟨rfl,rfl⟩;go_wp2_with fail;refine ad.o.mono ?_;rintro e w3 ⟨rfl,q,rfl⟩;go_wp2_with fail;go_ret;exact Hf.o q
  | some f =>
   rw[hg]at V;obtain⟨x,hx,aK,rfl⟩:=h.hit hg;have aM:=h.len_le hx;have ap:=List.mem_of_getElem? hx;have hN:zA3 (nm s) (L.map zAR.n)<L.length:=(List.getElem?_eq_some_iff.1 hx).1;rcases h.at with h0|⟨g,c0,al,aA,-⟩
   ·rw[h0]at hN;simp at hN
   have H:v.ownBlock=some g:=by rw[al];rfl
   by_cases aR:0≤z∧z≤(x.f.data.length:Int)
   ·obtain⟨y,rfl⟩:∃y:Nat,z=(y:Int):=⟨z.toNat,by omega⟩;have aD:y≤x.f.data.length:=by omega
    have hR:D.truncate (nm s) (y:Int)=(zAA.done {D with files:=put (nm s) ⟨x.f.data.take y,min x.f.lasts y⟩ D.files},0):=by
     unfold zAA.truncate;rw[if_neg (by rw[hm];simp),hg]
     show(if(y:Int)<0∨(x.f.data.length:Int)<y then _ else _)=_
     rw[if_neg (by omega),Int.toNat_natCast]
    rw[hR];have au:∀v',put (nm s) ⟨x.f.data.take y,min x.f.lasts y⟩ D.files=(L.set (zA3 (nm s) (L.map zAR.n)) ⟨x.n,v',⟨x.f.data.take y,min x.f.lasts y⟩⟩).map zAR.key:=fun v'=>h.put hg ⟨x.n,v',⟨x.f.data.take y,min x.f.lasts y⟩⟩ aK;have aC:=ok_cut h.ok hg y;have aH:=zFS hm;generalize zA3 (nm s) (L.map zAR.n)=i at *;have c:=zW (∀W,Below w.heap.size w W→W.cell? ⟨r,1,none⟩=some (.slice (some ⟨g,0,none⟩) L.length c0)∧W.cell? ⟨g,i*3+1,none⟩=some x.b∧W.frozen? ⟨g,i*3+1,none⟩=false) (fun W hb=>by
     have hW:=h.below hb;refine⟨hW.c1.trans (by rw[al]),(hW.core.at H hx).2.1,hW.core.free H _⟩)
    obtain⟨pb,cb,eb,ar⟩:=zEA (h.data x ap)
    -- behind both stores
    have aq:=zh (show ∀W v' ,Below w.heap.size w W→zAk W 5 v' (x.f.data.take y)→(∀k,v'.ownBlock=some k→w.heap.size≤k∧k<W.heap.size) →
      zAy (W.setCell ⟨g,i*3+1,none⟩ v') r v (L.set i ⟨x.n,v',⟨x.f.data.take y,x.f.lasts⟩⟩) (fun k=>own k∨v'.ownBlock=some k) D.room D.fuse from fun W v' hb hv hn =>
     (h.below hb).core.store H hx 1 (by omega) v' ⟨x.n,v',⟨x.f.data.take y,x.f.lasts⟩⟩ rfl (fun _ h=>.inl h) hv (fun k A=>⟨.inr A,fun e=>by have:=h.olt r h.or;have:=(hn k A).1;omega,fun e=>by have:=h.olt g (h.ov g H).1;have:=(hn k A).1;omega⟩)
      (fun k A=>by
       rcases A with A|A
       ·exact Nat.lt_of_lt_of_le (h.olt k A) hb.size
       ·exact(hn k A).2))
    have ag:=zh (show ∀W v',zAy W r v (L.set i ⟨x.n,v',⟨x.f.data.take y,x.f.lasts⟩⟩) (fun k=>own k∨v'.ownBlock=some k) D.room D.fuse→zAk W 5 v' (x.f.data.take y) →
      zAf (W.setCell ⟨g,i*3+2,none⟩ (.int .i64 ((min x.f.lasts y:Nat):Int))) r v (L.set i ⟨x.n,v',⟨x.f.data.take y,min x.f.lasts y⟩⟩) (fun k=>own k∨v'.ownBlock=some k) {D with files:=put (nm s) ⟨x.f.data.take y,min x.f.lasts y⟩ D.files}from fun W v' hc hv=>by
     have hi:(L.set i ⟨x.n,v',⟨x.f.data.take y,x.f.lasts⟩⟩)[i]?=some ⟨x.n,v',⟨x.f.data.take y,x.f.lasts⟩⟩:=by rw[List.getElem?_set_self (by omega)]
     have aB:=List.mem_of_getElem? hi;have h2:=hc.store H hi 2 (by omega) (.int .i64 ((min x.f.lasts y:Nat):Int)) ⟨x.n,v',⟨x.f.data.take y,min x.f.lasts y⟩⟩ rfl (fun _ h=>h) hv (fun k A=>⟨.inr A,(hc.ob _ aB k A).2.1,fun e=>(hc.ob _ aB k A).2.2 (by rw[H,e])⟩) hc.olt;rw[List.set_set]at h2;exact h2.full rfl rfl (au v') aC)
    have F:=zW (own r∧own g∧r≠g∧g<w.heap.size) (⟨h.or,(h.ov g H).1,(h.ov g H).2.symm,h.olt g (h.ov g H).1⟩);have Hd:=zW (∀W,Below w.heap.size w W→zAY W (.slice pb y cb) (x.f.data.take y)) (fun W hb=>zAY.cut (by rw[←eb];exact((h.below hb).data x ap).has) aD cb);have ac:=zW ((x.f.data.take y).length=y) (by rw[List.length_take];omega);have ay:=zh aH;rw[eb]at c;obtain⟨i0,hi,aw,aE,aF⟩:=info_parts (show(prog.info? 5).map (fun i=>(i.zero,i.size,i.bytes))=some (some (.int .u8 0),1,1) by kernel_rfl);have aG:y≤cb:=Nat.le_trans aD ar;have aP:∀W,(Instr.slice 22 (.slice pb x.f.data.length cb) none (some (.int .i64 (y:Int))) none).run prog W=.ok (.slice pb y cb) W:=fun W=>zCO W underlying22 hi pb _ cb y aG;have aL:min (x.f.lasts:Int) (y:Int)=((min x.f.lasts y:Nat):Int):=by omega
    generalize aJ:x.f.data.length=m at *;generalize aI:x.f.lasts=la at *;have E:=zh p;have ad:=zh V;clear h h1 p V hm hR hg au aC hx ap eb H aJ aI aA ar;subst al
    go_enter func90,ntmps90
    go_wp2_with fail;refine E.o.mono ?_;rintro e w2 ⟨rfl,rfl⟩;go_wp2_with fail;refine ad.o.mono ?_;rintro e w3 ⟨rfl,q,rfl⟩;have ax:=zh (zAu w (.cells #[.string s] 9) q);generalize (w.alloc (.cells #[.string s] 9)).drewN q=W at *;obtain⟨G,S,aa⟩:=c.o W ax.o;go_wp2_with fail;have X0:=zW (Below w.heap.size w W.drew) (ax.o.trans ⟨rfl,rfl,rfl,Nat.le_refl _,fun _ _=>rfl⟩);clear G S aa;have hS:=(c.o _ X0.o).1;refine ost (fun W':World=>W'.cell? ⟨r,1,none⟩=some (.slice (some ⟨g,0,none⟩) L.length c0)) 20 hS fun d=>?_;clear hS;generalize W.drew=Wd at *;refine Pl [0,1,2,3,4,6,7,8,9,10,11,12,14] ?_
    iterate 13 (refine Pc rfl ?_;simp only[uZ])
    refine Pn ?_;refine zDB 5 13 rfl rfl (by kernel_rfl) (by rfl) (by rfl) (fun K J=>?_) (fun K J=>?_)
    focus
     go_wp2_with fail;have X1:=zh (X0.o.alloc X0.o.size (.cells #[] 5));refine J.o _ _ ((c.o _ X1.o).1) fun d=>?_;clear J;try simp only[uZ]
     refine oon 13 rfl fun K J=>?_;have S:=(c.o _ X1.o).2.1;go_wp2_with fail;clear S;refine J.o _ _ ((c.o _ X1.o).1) fun d=>?_;clear J;try simp only[uZ]
     refine otk 15 (v:=?v1x15) rfl ?_;simp only[uZ]
    rotate_left
    focus
     have S:=(c.o _ X0.o).2.1;go_wp2_with fail;clear S;refine J.o _ _ ((c.o _ X0.o).1) fun d=>?_;clear J;try simp only[uZ]
     refine otk 15 (v:=?v2x15) rfl ?_;simp only[uZ];refine oon 5 rfl fun K J=>?_;go_wp2_with fail;have X1:=zh (X0.o.alloc X0.o.size (.cells #[] 5));refine J.o _ _ ((c.o _ X1.o).1) fun d=>?_;clear J;try simp only[uZ]
    all_goals
     refine oon 16 rfl fun K J=>?_;have Q:=zBH Wd 5;have X:=Hd.o _ X1.o;unfold zAY at X;rw[ac.o]at X;refine zAq (.tmp 45) (.tmp 55) 22 (by rfl) 5 i0 (.int .u8 0) 1 1 underlying22 hi aw aE aF rfl (by decide) (.slice (some ⟨Wd.heap.size,0,none⟩) 0 0) 0 [] (by rfl) Q (.slice pb y cb) y _ (by rfl) X (zAO _) (by unfold maxLen;omega) (by omega) ?_;clear Q X;intro v6 w6 l C O;have X6:=zh (X1.o.grown C X1.o.size (fun j e=>by have:=X0.o.size;simp[Value.ownBlock]at e;omega));have P:=zA5 (B:=w.heap.size) O (fun k A=>by have:=X0.o.size;simp[Value.ownBlock]at A;omega) X1.o.size;rw[Nat.zero_add,List.nil_append]at l;obtain⟨R,I,rfl⟩:=OwnR.shape l;have ab:=zW (zAk w6 5 (.slice R y I) (x.f.data.take y)) (by unfold zAk;rw[ac.o];exact l);have t:=zh P;clear C O l P;refine J.o _ _ ((c.o _ X6.o).1) fun d=>?_;clear J;try simp only[uZ]
     refine Pl [17,18] ?_;iterate 2 (refine Pc rfl ?_;simp only[uZ])
     refine Pn ?_;refine oon 19 rfl fun K J=>?_;obtain⟨G,S,aa⟩:=c.o _ X6.o;go_wp2_with fail;have av:(w6.setCell ⟨g,i*3+1,none⟩ (.slice R y I)).cell? ⟨r,1,none⟩=some (.slice (some ⟨g,0,none⟩) L.length c0):=(World.cell?_of_block (set_other _ F.o.2.2.1)).trans G;clear G S aa;refine J.o _ _ (av) fun d=>?_;clear J;try simp only[uZ]
     refine odn ?_;clear d;have N:=aq.o w6 (.slice R y I) X6.o ab.o (fun k A=>⟨t.o k A,OwnR.lt ab.o A⟩);have an:zAk (w6.setCell ⟨g,i*3+1,none⟩ (.slice R y I)) 5 (.slice R y I) (x.f.data.take y):=OwnR.keep ab.o fun k A=>set_other _ (fun e=>by have h1:k=g:=e;have:=t.o k A;have:=F.o.2.2.2;omega);have aj:=zCd X6.o (zEK (own:=own) (w:=w6) (a:=⟨g,i*3+1,none⟩) (u:=.slice R y I) F.o.2.1);have ak:w.heap.size≤(w6.setCell ⟨g,i*3+1,none⟩ (.slice R y I)).heap.size:=by have:=X6.o.size;simpa[World.setCell]using this
     have H7:=zh (And.intro N (And.intro an (And.intro aj ak)));clear N an aj ak;generalize w6.setCell ⟨g,i*3+1,none⟩ (.slice R y I)=T at *;have am:(L.set i ⟨x.n,.slice R y I,⟨x.f.data.take y,la⟩⟩)[i]?=some ⟨x.n,.slice R y I,⟨x.f.data.take y,la⟩⟩:=by rw[List.getElem?_set_self (by omega)]
     have ah:=zh am;clear am;obtain⟨-,-,ai⟩:=H7.o.1.at rfl ah.o;have G:=H7.o.1.c1;go_wp2_with fail;go_still_tail 15,(by kernel_rfl);clear G ai;change wpList _ _ _ _ _ T.drew;have U:zAy T.drew r _ _ _ _ _:=H7.o.1.keep (Nat.le_refl _) (fun _ _=>rfl);have ao:zAk T.drew 5 (.slice R y I) (x.f.data.take y):=OwnR.keep H7.o.2.1 (fun _ _=>rfl);have Z:=ag.o _ _ U ao;obtain⟨-,-,ai⟩:=U.at rfl ah.o;have az:=U.free rfl (i*3+2);have Y:Chg own w T.drew:=H7.o.2.2.1.trans (Chg.drew T) (fun _ _ h=>h.elim);have M:Chg own w (T.drew.setCell ⟨g,i*3+2,none⟩ (.int .i64 ((min la y:Nat):Int))):=Y.trans (zEK (own:=own) (w:=T.drew) (a:=⟨g,i*3+2,none⟩) F.o.2.1) (fun _ _ h=>h);have af:=zh (zCw Z ay.o);have ae:=zh (And.intro M (show w.heap.size≤(T.drew.setCell ⟨g,i*3+2,none⟩ (.int .i64 ((min la y:Nat):Int))).heap.size from M.size));clear U ao Z Y M H7;generalize T.drew=Wt at *;go_wp2_with fail;refine af.o.mono ?_;intro e w8 h8;have hE:=zDb ae.o.1 (fun k A=>A.imp id (fun e=>t.o k e)) ae.o.2 h8;obtain⟨rfl,-⟩:=h8;have HE:=zh hE;clear hE;go_wp2_with fail;go_ret;exact HE.o
   ·have hR:D.truncate (nm s) z=(D,1):=by
     unfold zAA.truncate;rw[if_neg (by rw[hm];simp),hg]
     show(if z<0∨(x.f.data.length:Int)<z then _ else _)=_
     rw[if_pos (by omega)]
    rw[hR];generalize zA3 (nm s) (L.map zAR.n)=i at *;have Hf:=zh (fun q=>zBY h (zAu w (.cells #[.string s] 9) q) 1);have c:=zW (∀W,Below w.heap.size w W→W.cell? ⟨r,1,none⟩=some (.slice (some ⟨g,0,none⟩) L.length c0)∧W.cell? ⟨g,i*3+1,none⟩=some x.b) (fun W hb=>by
     have hW:=h.below hb;exact⟨hW.c1.trans (by rw[al]),(hW.core.at H hx).2.1⟩)
    obtain⟨pb,cb,eb⟩:=zAY.slice (h.data x ap).has;rw[eb]at c;generalize x.f.data.length=m at *;have E:=zh p;have ad:=zh V;clear h h1 p V hm hR hg hx ap eb H aA;subst al
    by_cases aw:z<0
    ·go_enter func90,ntmps90
     go_wp2_with fail;refine E.o.mono ?_;rintro e w2 ⟨rfl,rfl⟩;go_wp2_with fail;refine ad.o.mono ?_;rintro e w3 ⟨rfl,q,rfl⟩;go_wp2_with fail;go_ret;exact Hf.o q
    ·obtain⟨y,rfl⟩:∃y:Nat,z=(y:Int):=⟨z.toNat,by omega⟩;have aN:m<y:=by omega
     go_enter func90,ntmps90
     go_wp2_with fail;refine E.o.mono ?_;rintro e w2 ⟨rfl,rfl⟩;go_wp2_with fail;refine ad.o.mono ?_;rintro e w3 ⟨rfl,q,rfl⟩;obtain⟨G,S⟩:=c.o _ (zAu w (.cells #[.string s] 9) q);go_wp2_with fail;go_ret;exact Hf.o q
 ·have hR:D.truncate (nm s) z=(D,D.may [nm s]):=by unfold zAA.truncate;rw[if_pos hm]
  rw[hR];have Hf:=zh (zBY h ((Below.refl _ _).alloc (Nat.le_refl _) (.cells #[.string s] 9)) (D.may [nm s]));have E:=zh p;generalize D.may [nm s]=m at *;have aO:((m:Int) != 0)=true:=by simp;omega
  clear h h1 p hR
  go_enter func90,ntmps90
  go_wp2_with fail;refine E.o.mono ?_;rintro e w2 ⟨rfl,rfl⟩;go_wp2_with fail;go_ret;exact Hf.o
end
theorem zDw (w:World)(a b:Nat):(w.drewN a).drewN b=w.drewN (a+b):=by
 simp[World.drewN,Nat.add_assoc]
theorem zC7 {w:World}{p:Option Addr}{n c:Nat}{l:List Int}(h:zBg w (.slice p n c) l)(hl:l.length≤1099511627776) :
  Calls prog 36 #[.slice p n c] w fun e w'=>e=.returned (.bool (zAX l))∧∃q,w'=w.drewN q:=by
 have hn:l.length=n:=by obtain⟨_,_,e⟩:=h.slice;simp only[Value.slice.injEq]at e;exact e.2.1.symm
 rw[hn]at hl;have H:=zh h;have C:=zh hn;clear h hn
 go_enter func36,ntmps36
 go_wp2_with fail
 go_loopw [3] (fun i wr=>∃k q:Nat,k≤n∧i=.int .i64 k∧zFi (-1) l=zFi (zEB l k) (l.drop k)∧-1≤zEB l k∧wr=w.drewN q) (fun i _=>n-(intOf i).toNat)
 case atStart=>exact⟨0,0,Nat.zero_le _,rfl,rfl,Int.le_refl _,rfl⟩
 case round =>
  obtain⟨k,q0,hk,rfl,j,ac,s⟩:=hrel;have d:=zh s;have W:=zh (show zBg wr (.slice p n c) l by rw[s];exact zAM.chg H.o (Chg.of_below (⟨rfl,rfl,rfl,Nat.le_refl _,fun _ _=>rfl⟩:Below w.heap.size w (w.drewN q0))) fun _ _=>id);clear s
  by_cases P:k<n
  ·have f:k<l.length:=by rw[C.o];exact P
   have D:=zW (¬(zEB l k<l[k]∧l[k]<7)→zAX l=false) (fun I=>by
    unfold zAX;rw[j,List.drop_eq_getElem_cons f];unfold zFi;rw[decide_eq_false I];rfl)
   have Q:=zW (zEB l k<l[k]∧l[k]<7→zFi (-1) l=zFi (zEB l (k+1)) (l.drop (k+1))) (fun I=>by
    rw[j,List.drop_eq_getElem_cons f,zGQ f]
    show(decide _&&_)=_
    rw[decide_eq_true I,Bool.true_and])
   have R:=zh (zGQ f);rcases W.o.at with v|⟨b,o,c1,G,J⟩
   ·rw[v]at f;simp at f
   rw[C.o]at G;simp only[Value.slice.injEq]at G;obtain⟨rfl,-,rfl⟩:=G;have Z:=J k _ (List.getElem?_eq_getElem f);have E:=zW (k≠0→wr.cell? ⟨b,o+(k-1),none⟩=some (.int .i64 (zEB l k))) (fun v=>by
    have r:k-1<l.length:=by omega
    have:=J (k-1) _ (List.getElem?_eq_getElem r);rw[this];unfold zEB;rw[if_neg v,List.getElem?_eq_getElem r];rfl)
   have F:=zW (k=0→zEB l k=-1) (fun v=>by rw[v];rfl);have aa:(k:Int)<(n:Int):=by omega
   clear J j;generalize l[k]=x at *;generalize zEB l k=q at *
   by_cases A:x<0
   ·have g:=zh (D.o (by omega));have L:decide (x<0)=true:=by simpa using A
    go_wp2_with fail
    go_quiet (fail)
    go_wp2_with fail;go_ret;exact⟨by rw[g.o];rfl,_,by rw[d.o];exact zDw _ _ _⟩
   ·have L:decide (x<0)=false:=by simpa using A
    by_cases B:7≤x
    ·have g:=zh (D.o (by omega));have M:decide (7≤x)=true:=by simpa using B
     go_wp2_with fail
     go_quiet (fail)
     go_wp2_with fail;go_ret;exact⟨by rw[g.o];rfl,_,by rw[d.o];exact zDw _ _ _⟩
    ·have M:decide (7≤x)=false:=by simpa using B
     by_cases m:k=0
     ·have g:=zh (Q.o (by rw[F.o m];omega));have N:decide ((0:Int)<(k:Int))=false:=by simp;omega
      have y:decide (0<k)=false:=by simp;omega
      clear m;go_wp2_with fail
      go_quiet (fail)
      go_wp2_with fail;go_roundw
      case rel=>exact⟨k+1,_,by omega,by go_num,g.o,by rw[R.o];omega,by rw[d.o];exact zDw _ _ _⟩
      case measure=>simp[intOf];omega
     ·have K:=E.o m;have r:(0:Int)<(k:Int):=by omega
      have N:decide ((0:Int)<(k:Int))=true:=by simp;omega
      have y:decide (0<k)=true:=by simp;omega
      have ad:IntKind.i64.wrap ((k:Int)-1)=((k-1:Nat):Int):=by rw[IntWalk.i64_in _ (by omega)];omega
      have U:((k-1:Nat):Int)<(n:Int):=by omega
      have V:k-1<n:=by omega
      clear m
      by_cases a:x≤q
      ·have g:=zh (D.o (by omega));have O:decide (x≤q)=true:=by simpa using a
       go_wp2_with fail
       go_quiet (fail)
       go_wp2_with fail;go_ret;exact⟨by rw[g.o];rfl,_,by rw[d.o];exact zDw _ _ _⟩
      ·have O:decide (x≤q)=false:=by simpa using a
       have g:=zh (Q.o (by omega));go_wp2_with fail
       go_quiet (fail)
       go_wp2_with fail;go_roundw
       case rel=>exact⟨k+1,_,by omega,by go_num,g.o,by rw[R.o];omega,by rw[d.o];exact zDw _ _ _⟩
       case measure=>simp[intOf];omega
  ·have ab:k=n:=by omega
   have z:zFi (-1) l=true:=by rw[j,List.drop_of_length_le (by rw[C.o];omega)];rfl
   have g:=zW (zAX l=decide (1≤n∧n≤7)) (by unfold zAX;rw[z,C.o,Bool.true_and]);clear j z
   by_cases S:1≤n
   ·have X:decide ((1:Int)≤(n:Int))=true:=by simp;omega
    by_cases T:n≤7
    ·have Y:decide ((n:Int)≤7)=true:=by simp;omega
     have t:=zW (zAX l=true) (g.o.trans (decide_eq_true ⟨S,T⟩));go_wp2_with fail;go_ret;exact⟨by rw[t.o];rfl,_,d.o⟩
    ·have Y:decide ((n:Int)≤7)=false:=by simp;omega
     have t:=zW (zAX l=false) (g.o.trans (decide_eq_false fun e=>T e.2));go_wp2_with fail;go_ret;exact⟨by rw[t.o];rfl,_,d.o⟩
   ·have X:decide ((1:Int)≤(n:Int))=false:=by simp;omega
    have t:=zW (zAX l=false) (g.o.trans (decide_eq_false fun e=>S e.1));go_wp2_with fail;go_ret;exact⟨by rw[t.o];rfl,_,d.o⟩
end Go.Proofs.YtapfnehdgailmaaGreat
