/- What the program's functions and the document's do, and plain laws, for PJournalKept. -/
import Derived.Test.YtapfnehdgailmaaGreatMA
import Derived.Test.YtapfnehdgailmaaGreatME
open Go.Proofs.Tryz
set_option maxRecDepth 100000
set_option maxHeartbeats 64000000
namespace Go.Proofs.YtapfnehdgailmaaGreat
open Go.RowKit Go.Sat Go.Maps
section
variable {w w1 wc:World} {j d:Nat} {pre:ByteArray} {D:zAA} {M:zAH} {F:Nat→Prop}
theorem jou_append (h:zAj w w1 j d pre D M F)(c:Below w1.heap.size w1 wc)(s:ByteArray)(x:Value)(ls:List Bs)(g:zBF wc x ls)(hn:ls.length≤140737488355328)(f:ls.flatten.length≤140737488355328)(b:s.size≤9223372036854775807) :
  Calls prog 15 #[.pointer (some ⟨d,0,none⟩),.string s,x] wc fun e w'=>e=.returned (.int .i64 ((D.append (nm s) ls.flatten).2:Int))∧zAj w w' j d pre (D.append (nm s) ls.flatten).1 M F∧Same F w1 w'∧w'.heap[j]?=w1.heap[j]? :=
 zFQ h c fun _ hS=>st_append (hS.next c) s x ls g hn f b
theorem jou_sync (h:zAj w w1 j d pre D M F)(s:ByteArray)(b:s.size≤9223372036854775807) :
  Calls prog 130 #[.pointer (some ⟨d,0,none⟩),.slice (some ⟨w1.heap.size,0,none⟩) 1 1] (w1.alloc (.cells #[.string s] 9)) fun e w'=>e=.returned (.int .i64 ((D.sync [nm s]).2:Int))∧zAj w w' j d pre (D.sync [nm s]).1 M F∧Same F w1 w'∧w'.heap[j]?=w1.heap[j]? :=
 zFQ h (zAC _ _) fun _ hS=>st_sync hS [s] w1.heap.size 1 rfl (0,0) (by simp) (by simpa using b)
theorem jou_remove (h:zAj w w1 j d pre D M F)(s:ByteArray)(b:s.size≤9223372036854775807) :
  Calls prog 76 #[.pointer (some ⟨d,0,none⟩),.slice (some ⟨w1.heap.size,0,none⟩) 1 1] (w1.alloc (.cells #[.string s] 9)) fun e w'=>e=.returned (.int .i64 ((D.remove [nm s]).2:Int))∧zAj w w' j d pre (D.remove [nm s]).1 M F∧Same F w1 w'∧w'.heap[j]?=w1.heap[j]? :=
 zFQ h (zAC _ _) fun _ hS=>st_remove hS [s] w1.heap.size 1 rfl (0,0) (by simp) (by simpa using b)
theorem jou_trunc (h:zAj w w1 j d pre D M F)(s:ByteArray)(c:s.size≤9223372036854775807)(z:Int)(f:-9223372036854775808≤z)(b:z≤9223372036854775807) :
  Calls prog 156 #[.pointer (some ⟨d,0,none⟩),.string s,.int .i64 z] w1 fun e w'=>e=.returned (.int .i64 ((D.truncate (nm s) z).2:Int))∧zAj w w' j d pre (D.truncate (nm s) z).1 M F∧Same F w1 w'∧w'.heap[j]?=w1.heap[j]? :=
 zFQ h (Below.refl _ _) fun _ hS=>st_trunc hS s c z f b
def zEH (w w1:World)(j d:Nat)(pre:ByteArray)(F:Nat→Prop)(r:zDS)(e:Ending)(w':World):Prop :=
 e=.returned (.int .i64 (r.err:Int))∧zAj w w' j d pre r.disk r.jou F∧Same F w1 w'
def zEs (M:zAH)(k:Nat):zAH:={M with dead:=M.dead||decide (k≠0) }
theorem zBo (M:zAH):zEs M 0=M:=by unfold zEs;simp
theorem zB3 (M:zAH){k:Nat}(h:k≠0):zEs M k=M.die:=by unfold zEs zAH.die;simp[h]
theorem zFl (h:zAj w w1 j d pre D M F){p:Option Addr}{n c:Nat}{ls:List Bs}(S:zBF w1 (.slice p n c) ls)(hn:n≤1099511627776)(h1:∀l∈ls,l.length≤1048576)(hl:(zAL ls).length≤1099511627776) :
  Calls prog 101 #[.pointer (some ⟨j,0,none⟩),.slice p n c] w1 fun e w'=>e=.returned (.int .i64 ((layOn D (zAm (nm pre)) (zAL ls)).2:Int))∧zAj w w' j d pre (layOn D (zAm (nm pre)) (zAL ls)).1 (zEs M (layOn D (zAm (nm pre)) (zAL ls)).2) F∧Same F w1 w':=by
 have af:=h.psz;obtain⟨c3,c4,-⟩:=h.jc;have P:(zCS pre).size=pre.size+4:=zFY pre;have Y:=zh (fun W (hb:Below w1.heap.size w1 W)=>zEx (zCx S hb) hn h1 hl);have R:=zW (layOn D (zAm (nm pre)) (zAL ls)=if(D.append (zAm (nm pre)) (zAL ls)).2≠0 then D.append (zAm (nm pre)) (zAL ls)else(D.append (zAm (nm pre)) (zAL ls)).1.sync [zAm (nm pre)]) rfl;have H:=zh h;have ad:=hl;clear S h1 hl h;cases q:D.append (zAm (nm pre)) (zAL ls)with
 | mk D1 e1 =>
  have V:=zh (fun W (hb:Below w1.heap.size w1 W) x (S:zBF W x [zAL ls])=>show Calls prog 15 #[.pointer (some ⟨d,0,none⟩),.string (zCS pre),x] W fun e w'=>e=.returned (.int .i64 (e1:Int))∧zAj w w' j d pre D1 M F∧Same F w1 w'∧w'.heap[j]?=w1.heap[j]? by
   have:=jou_append H.o hb (zCS pre) x [zAL ls] S (by simp) (by simp;omega) (by rw[P];omega);rw[show [zAL ls].flatten=zAL ls by simp,zBy,q]at this;exact this)
  rw[q]at R;dsimp only at R;clear q;generalize layOn D (zAm (nm pre)) (zAL ls)=Z at *;generalize (zAL ls).length=L at *
  go_enter func101,ntmps101
  go_wp2_with fail;refine ost (fun w':World=>w'.cell? ⟨j,3,none⟩=some (.pointer (some ⟨d,0,none⟩))) 10 (c3) fun b=>?_;refine Pl [0,1,2,3,4,5] ?_
  iterate 6 (refine Pc rfl ?_;simp only[uZ])
  refine Pn ?_;refine oon 6 rfl fun K k=>?_;have y:=zh (zAU w1);go_wp2_with fail;refine(Y.o w1.drew y.o).mono ?_;rintro e w3 ⟨v,rfl,hv,-,r⟩;have z:=zh (y.o.trans r);have aa:=zh (zAI b r);have HV:=zh (zAk.has hv);obtain⟨pv,cv,rfl,-⟩:=zAN hv;clear hv r;go_wp2_with fail;refine k.o _ _ (aa.o) fun b=>?_;clear k
  try simp only[uZ]
  refine oon 7 rfl fun K k=>?_;have ab:=zh (zBX b (.cells #[.slice pv (zAL ls).length cv] 22));go_wp2_with fail;refine k.o _ _ (ab.o) fun b=>?_;clear k
  try simp only[uZ]
  refine oon 8 rfl fun K k=>?_;have X:=zh (V.o _ (z.o.trans ((zAC w3 (.cells #[.slice pv (zAL ls).length cv] 22)).mono z.o.size)) _ (zCN HV.o 22 (0,0) w3.heap.size 1 rfl (Nat.le_refl _)));go_wp2_with fail;refine X.o.mono ?_;rintro e w5 ⟨rfl,I,N,G⟩;have A:=zh I;have B:=zh N;have E:=zh ((World.cell?_of_block (a:=⟨j,3,none⟩) G).trans c3);clear I N G;go_wp2_with fail;refine k.o _ _ (E.o) fun b=>?_;clear k
  try simp only[uZ]
  refine otk 9 (v:=?v1x9) rfl ?_;simp only[uZ];refine odn ?_
  by_cases s:e1=0
  ·subst s;cases t:D1.sync [zAm (nm pre)]with
   | mk D2 e2 =>
    have C:=zW (Z=(D2,e2)) (by rw[R.o,if_neg (by simp),t]);have i:=jou_sync A.o (zCS pre) (by rw[P];omega);rw[zBy,t]at i;have ac:=zh i;have c3:w5.cell? ⟨j,3,none⟩=some (.pointer (some ⟨d,0,none⟩)):=E.o;clear i t;go_wp2_with fail;refine ac.o.mono ?_;rintro e w6 ⟨rfl,J,O,-⟩;have m:=zh (zDi J e2);have U:=zh (B.o.trans O);clear J O;go_wp2_with fail;refine m.o.mono ?_;rintro e Q ⟨rfl,f,g⟩;have T:=zW (zAj w Q j d pre Z.1 (zEs M Z.2) F∧Same F w1 Q) (⟨by rw[C.o];exact f,U.o.trans g⟩);clear f g;go_wp2_with fail;go_ret;exact⟨by rw[C.o];rfl,T.o⟩
  ·have C:=zW (Z=(D1,e1)) (by rw[R.o,if_pos s]);have ae:((e1:Int)==0)=false:=by simp;omega
   have m:=zh (zDi A.o e1);clear s;go_wp2_with fail;refine m.o.mono ?_;rintro e Q ⟨rfl,f,g⟩;have T:=zW (zAj w Q j d pre Z.1 (zEs M Z.2) F∧Same F w1 Q) (⟨by rw[C.o];exact f,B.o.trans g⟩);clear f g;go_wp2_with fail;go_ret;exact⟨by rw[C.o];rfl,T.o⟩
end
section
variable {pre:Bs} {D:zAA} {M M':zAH} {rows:List Bs}
theorem laysJ_ok {D':zAA}(h:layOn D (zAm pre) (zAL rows)=(D',0)):zBw pre D M rows M'=⟨D',M',0⟩:=by
 unfold zBw;rw[h,if_neg (by simp)]
theorem laysJ_err {D':zAA}{e:Nat}(h:layOn D (zAm pre) (zAL rows)=(D',e))(b:e≠0):zBw pre D M rows M'=⟨D',M.die,e⟩:=by
 unfold zBw;rw[h,if_pos b]
end
theorem zDJ (t v:Int):(zCV t v).length≤19:=by
 unfold zCV;rw[List.length_cons,List.length_append];have b:=zBK t;have c:=zBK (v+1);omega
theorem zDl (l:Bs):(zAL [l]).length=l.length+12:=by rw[zCJ,zAe]
section
variable {w w1:World} {j d:Nat} {pre:ByteArray} {D:zAA} {M:zAH} {F:Nat→Prop}
theorem zD5 (h:zAj w w1 j d pre D M F){w2:World}(b:Below w1.heap.size w1 w2){r:zDS}{k:Nat}(c:r=⟨D,M,k⟩):zEH w w1 j d pre F r (.returned (.int .i64 (k:Int))) w2:=by
 subst c;exact⟨rfl,h.next b,h.same b⟩
theorem jou_set56 (h:zAj w w1 j d pre D M F)(t v:Int)(l:zDG t=true)(m:-1≤v∧v<7):zAj w ((w1.setCell ⟨j,5,none⟩ (.int .i64 t)).setCell ⟨j,6,none⟩ (.int .i64 v)) j d pre D {M with now:=t,vote:=v} F∧Same F w1 ((w1.setCell ⟨j,5,none⟩ (.int .i64 t)).setCell ⟨j,6,none⟩ (.int .i64 v)):=by
 obtain⟨own,o,dv,n,vs,b,hS,hn,i⟩:=h;refine zAj.turned (M':={M with now:=t,vote:=v}) hS hn i (b.set ?_ (fun k c=>(set_other _ c).trans (set_other _ c)) (by simp[World.setCell]) rfl rfl rfl ⟨b.ok.last,b.ok.term,b.ok.group,l,m,b.ok.data,b.ok.ents⟩) (((Chg.setCell w1 ⟨j,5,none⟩ _).trans (Chg.setCell _ ⟨j,6,none⟩ _) fun _ _ e=>e).mono fun k _ e=>by rw[e];exact b.ol) fun _ h=>.inl h;have f:=zAD b.cells 5 (.int .i64 t);have g:=zAD f 6 (.int .i64 v);simpa using g
theorem zGK {t v:Int}(h:M.mayVote t v=true):M.now≤t∧t≤1099511627776∧-1≤v∧v<7:=by
 unfold zAH.mayVote at h;simp only[Bool.and_eq_true,decide_eq_true_eq]at h;exact h.1
theorem jsetTerm_calls (h:zAj w w1 j d pre D M F)(t v:Int)(ht:-9223372036854775808≤t∧t≤9223372036854775807)(hv:-9223372036854775808≤v∧v≤9223372036854775807) :
  Calls prog 27 #[.pointer (some ⟨j,0,none⟩),.int .i64 t,.int .i64 v] w1 (zEH w w1 j d pre F (zA2 (nm pre) D M t v)):=by
 have f:=zh (zD4 h);have G:=zh (fun k (hr:zA2 (nm pre) D M t v=⟨D,M,k⟩)=>zD5 h (Below.refl _ _) hr);have U:=zW (zA2 (nm pre) D M t v=if M.dead then⟨D,M,9⟩else if M.mayVote t v=false then⟨D,M,1⟩else if t=M.now∧v=M.vote then⟨D,M,0⟩else zBw (nm pre) D M [zCV t v] {M with now:=t,vote:=v}) rfl;cases N:M.dead with
 | true =>
  rw[N]at f;have O:=zh (G.o 9 (by rw[U.o,N];rfl));clear h
  go_enter func27,ntmps27
  go_wp2_with fail;refine f.o.mono ?_;rintro e w2 ⟨rfl,rfl⟩;go_wp2_with fail;go_ret;exact O.o
 | false =>
  rw[N]at f;have i:=zh (jmv_calls h t v);cases n:M.mayVote t v with
  | false =>
   rw[n]at i;have O:=zh (G.o 1 (by rw[U.o,N,n];rfl));clear h
   go_enter func27,ntmps27
   go_wp2_with fail;refine f.o.mono ?_;rintro e w2 ⟨rfl,rfl⟩;go_wp2_with fail;refine i.o.mono ?_;rintro e w2 ⟨rfl,rfl⟩;go_wp2_with fail;go_ret;exact O.o
  | true =>
   rw[n]at i;have A:=zGK n;have C:=zAl.1 h.okM.now;have J:zDG t=true:=zAl.2 (by omega);have L:-1≤v∧v<7:=⟨A.2.2.1,A.2.2.2⟩;obtain⟨own,gv,dv,ev,vs,Z,hS,hn,hl⟩:=id h;have c5:=Z.c 5 rfl;have c6:=Z.c 6 rfl;clear Z hS hn hl
   by_cases b:t=M.now∧v=M.vote
   ·have O:=zh (G.o 0 (by rw[U.o,N,n];simp[b]));have T:(t==M.now)=true:=by simpa using b.1
    have e2:(v==M.vote)=true:=by simpa using b.2
    clear h b
    go_enter func27,ntmps27
    go_wp2_with fail;refine f.o.mono ?_;rintro e w2 ⟨rfl,rfl⟩;go_wp2_with fail;refine i.o.mono ?_;rintro e w2 ⟨rfl,rfl⟩;go_wp2_with fail;go_ret;exact O.o
   ·have Q:=zW (zA2 (nm pre) D M t v=zBw (nm pre) D M [zCV t v] {M with now:=t,vote:=v}) (by rw[U.o,N,n];simp[b]);have R:=zh (zGf w1 t v ht (by omega));have q:=zh (fun W (hb:Below w1.heap.size w1 W) (x:Value) pv m cv (_:x=.slice pv m cv) (B:zAk W 5 x (zCV t v))=>zFl ((h.next hb).next (zAC W (.cells #[x] 22))) (zCN (zAk.has B) 22 (0,0) W.heap.size 1 rfl (Nat.le_refl _)) (by decide) (by simpa using Nat.le_trans (zDJ t v) (by decide)) (by rw[zDl];have:=zDJ t v;omega));cases s:layOn D (zAm (nm pre)) (zAL [zCV t v])with
    | mk D1 T =>
     rw[s]at q;have K:=zh (fun W (hb:Below w1.heap.size w1 W) (o:Obj)=>(h.same (hb.trans ((zAC W o).mono hb.size))))
     by_cases a:T=0
     ·subst a;have X:=zh (Q.o.trans (laysJ_ok s));rw[zBo]at q;have S:=zh (And.intro J L);clear h s A C J L;have I:(t==M.now)=false∨(t==M.now)=true∧(v==M.vote)=false:=by
       by_cases H:t=M.now
       ·exact .inr ⟨by simpa using H,by simpa using fun Y=>b ⟨H,Y⟩⟩
       ·exact .inl (by simpa using H)
      clear b;rcases I with T|⟨T,e2⟩
      all_goals
       go_enter func27,ntmps27
       go_wp2_with fail;refine f.o.mono ?_;rintro e w2 ⟨rfl,rfl⟩;go_wp2_with fail;refine i.o.mono ?_;rintro e w2 ⟨rfl,rfl⟩;go_wp2_with fail;refine R.o.mono ?_;rintro e w3 ⟨x,rfl,B,-,g⟩;obtain⟨pv,cv,z,-⟩:=zAN B;have p:=zh (q.o w3 g x pv _ cv z B);have E:=zh (K.o w3 g (.cells #[x] 22));subst z;clear B g;go_wp2_with fail;refine p.o.mono ?_;rintro e w4 ⟨rfl,l,y⟩;have P:=zh (jou_set56 l t v S.o.1 S.o.2);obtain⟨own,gv,dv,ev,vs,r,-⟩:=id l;have d5:=r.c 5 rfl;have d6:=r.c 6 rfl;have f5:=r.fr 5;have f6:=r.fr 6;have V:=zh (E.o.trans y);clear l y r p;go_wp2_with fail;go_ret;rw[X.o];exact⟨rfl,P.o.1,V.o.trans P.o.2⟩
     ·have X:=zh (Q.o.trans (laysJ_err s a));rw[zB3 M a]at q;have aa:((T:Int) != 0)=true:=by simp;omega
      clear h s A C J L a;have I:(t==M.now)=false∨(t==M.now)=true∧(v==M.vote)=false:=by
       by_cases H:t=M.now
       ·exact .inr ⟨by simpa using H,by simpa using fun Y=>b ⟨H,Y⟩⟩
       ·exact .inl (by simpa using H)
      clear b;rcases I with e3|⟨e3,e4⟩
      all_goals
       go_enter func27,ntmps27
       go_wp2_with fail;refine f.o.mono ?_;rintro e w2 ⟨rfl,rfl⟩;go_wp2_with fail;refine i.o.mono ?_;rintro e w2 ⟨rfl,rfl⟩;go_wp2_with fail;refine R.o.mono ?_;rintro e w3 ⟨x,rfl,B,-,g⟩;obtain⟨pv,cv,z,-⟩:=zAN B;have p:=zh (q.o w3 g x pv _ cv z B);have E:=zh (K.o w3 g (.cells #[x] 22));subst z;clear B g;go_wp2_with fail;refine p.o.mono ?_;rintro e w4 ⟨rfl,l,y⟩;have P:=zh (And.intro l (E.o.trans y));clear l y p;go_wp2_with fail;go_ret;rw[X.o];exact⟨rfl,P.o.1,P.o.2⟩
end
theorem ownR_cut {w:World}{e:TypeId}{s n y b:Nat}{p:Option Addr}{c:Nat}{xs:List Value}(h:OwnR w e s (.slice p n c) n xs)(t:y≤n)(v:b=y∨b=c):OwnR w e s (.slice p y b) y (xs.take (y*s)):=by
 have o:y*s≤n*s:=Nat.mul_le_mul_right _ t;refine⟨by rw[List.length_take,h.1];omega,?_⟩;rcases h.2 with⟨d,hn⟩|⟨g,j,cur,d,m,q,k,l,r⟩
 ·cases d;have i:y=0:=by omega
  subst i;have f:b=0:=by omega
  subst f;exact .inl ⟨rfl,rfl⟩
 ·cases d;refine .inr ⟨g,b,cur,rfl,m,by omega,by omega,?_,?_⟩
  ·have:b*s≤c*s:=Nat.mul_le_mul_right _ (by omega);omega
  ·rw[←r,List.take_take,Nat.min_eq_left o]
section
variable {w w1:World} {j d:Nat} {pre:ByteArray} {D:zAA} {M:zAH} {F:Nat→Prop}
theorem jouIn_cut {own:Nat→Prop}{t dv:Value}{p:Option Addr}{n c m k:Nat}{vs:List EV}(b:zBn w1 j d pre own M t dv (.slice p n c) vs)(hn:M.entries.length=n)(h:k≤n)(a:m=k∨m=c) :
  zBn (w1.setCell ⟨j,8,none⟩ (.slice p k m)) j d pre own {M with entries:=M.entries.take k} t dv (.slice p k m) (vs.take k):=by
 have r:∀x,x≠j→(w1.setCell ⟨j,8,none⟩ (.slice p k m)).heap[x]?=w1.heap[x]?:=fun x f=>set_other _ f;have o:(Value.slice p k m).ownBlock=(Value.slice p n c).ownBlock:=zCI _ _ _ _ _;have g:(M.entries.take k).length=k:=by rw[List.length_take];omega
 refine⟨?_,OwnR.keep b.group fun x f=>r x (b.og x f).2.1,OwnR.keep b.data fun x f=>r x (b.od x f).2.1,?_,⟨by rw[List.length_take,b.rows.1,g];omega,fun i e v l s=>?_⟩,b.ol,fun x f=>by rw[o];exact b.og x f,fun x f=>by rw[o];exact b.od x f,fun x f=>b.oe x (by rw[←o];exact f),fun u A x f=>by rw[o];exact b.ov u (List.mem_of_mem_take A) x f,fun x f=>by have:=b.olt x f;simpa[World.setCell]using this,b.psz,⟨?_,b.ok.term,b.ok.group,b.ok.now,b.ok.vote,b.ok.data,fun e l=>b.ok.ents e (List.mem_of_mem_take l)⟩⟩
 ·have:=zAD b.cells 8 (.slice p k m);simpa using this
 ·show OwnR _ _ 4 _ (M.entries.take k).length (zAz (M.entries.take k) (vs.take k))
  rw[g,zFK k _ _ b.rows.1];have q:=b.row;rw[hn]at q;refine(ownR_cut q h a).keep fun x f=>r x (b.oe x (by rw[←o];exact f)).2
 ·have z:M.entries[i]?=some e:=by
   have l:(M.entries.take k)[i]?=some e:=l;rw[List.getElem?_take]at l
   split at l
   ·exact l
   ·cases l
  have y:vs[i]?=some v:=by
   rw[List.getElem?_take]at s
   split at s
   ·exact s
   ·cases s
  exact(b.rows.2 i e v z y).keep fun x f=>r x (b.ov v (List.mem_of_getElem? y) x f).2.1
 ·have q:=b.ok.last;unfold zAH.last at q ⊢
  show M.number+(M.entries.take k).length≤_
  rw[g];omega
theorem cutB_len (n:Nat)(h:n≤4611686018427387904):(cutB n).length≤10:=by
 unfold cutB;have:=zAg h;rw[List.length_cons];omega
theorem jcut_calls (h:zAj w w1 j d pre D M F)(i:Int)(hi:-9223372036854775808≤i∧i≤9223372036854775807) :
  Calls prog 23 #[.pointer (some ⟨j,0,none⟩),.int .i64 i] w1 (zEH w w1 j d pre F (zBW (nm pre) D M i)):=by
 obtain⟨i0,ak,-,-,-⟩:=info_parts (show(prog.info? 50).map (fun i=>(i.zero,i.size,i.bytes))=some (some (.agg #[.int .i64 0,.int .i64 0,.slice none 0 0,.slice none 0 0]),4,64) by kernel_rfl);have f:=zh (zD4 h);have A:=zh (fun k w2 (hb:Below w1.heap.size w1 w2) (hr:zBW (nm pre) D M i=⟨D,M,k⟩)=>zD5 h hb hr);have Y:=zW (zBW (nm pre) D M i=if M.dead then⟨D,M,9⟩else if i≤(M.number:Int)then⟨D,M,1⟩else if(M.last:Int)<i then⟨D,M,0⟩else zBw (nm pre) D M [cutB i.toNat] {M with entries:=M.entries.take (i.toNat-M.number-1) }) rfl;obtain⟨own,gv,dv,ev,vs,l,hS,hn,hl⟩:=id h;have c0:=l.c 0 rfl;have C:=l.ok.last;clear l hS hn hl;cases B:M.dead with
 | true =>
  rw[B]at f;have G:=zh (A.o 9 w1 (Below.refl _ _) (by rw[Y.o,B];rfl));clear h
  go_enter func23,ntmps23
  go_wp2_with fail;refine f.o.mono ?_;rintro e w2 ⟨rfl,rfl⟩;go_wp2_with fail;go_ret;exact G.o
 | false =>
  rw[B]at f
  by_cases O:i≤(M.number:Int)
  ·have G:=zh (A.o 1 w1 (Below.refl _ _) (by rw[Y.o,B,if_neg (by simp),if_pos O]));clear h
   go_enter func23,ntmps23
   go_wp2_with fail;refine f.o.mono ?_;rintro e w2 ⟨rfl,rfl⟩;go_wp2_with fail;go_ret;exact G.o
  ·have d1:decide (i≤(M.number:Int))=false:=by simpa using O
   have t:=zh (zD3 h i hi)
   by_cases Z:(M.last:Int)<i
   ·rw[decide_eq_false (show ¬((M.number:Int)<i∧i≤(M.last:Int)) by omega)]at t;have G:=zh (fun q=>A.o 0 (w1.drewN q) ⟨rfl,rfl,rfl,Nat.le_refl _,fun _ _=>rfl⟩ (by rw[Y.o,B,if_neg (by simp),if_neg O,if_pos Z]));clear h Z
    go_enter func23,ntmps23
    go_wp2_with fail;refine f.o.mono ?_;rintro e w2 ⟨rfl,rfl⟩;go_wp2_with fail;refine t.o.mono ?_;rintro e w2 ⟨rfl,q,rfl⟩;go_wp2_with fail;go_ret;exact G.o q
   ·rw[decide_eq_true (show(M.number:Int)<i∧i≤(M.last:Int) by omega)]at t;have H:=zW (zBW (nm pre) D M i=zBw (nm pre) D M [cutB i.toNat] {M with entries:=M.entries.take (i.toNat-M.number-1) }) (by rw[Y.o,B,if_neg (by simp),if_neg O,if_neg Z]);have am:(M.last:Int)=(M.number:Int)+(M.entries.length:Int):=by unfold zAH.last;omega
    have J:=zh (fun W (hb:Below w1.heap.size w1 W) (x:Value) (U:zAk W 5 x (cutB i.toNat))=>zFl ((h.next hb).next (zAC W (.cells #[x] 22))) (zCN (zAk.has U) 22 (0,0) W.heap.size 1 rfl (Nat.le_refl _)) (by decide) (by simpa using Nat.le_trans (cutB_len i.toNat (by omega)) (by decide)) (by rw[zDl];have:=cutB_len i.toNat (by omega);omega));have af:=zh (fun W (hb:Below w1.heap.size w1 W) (o:Obj)=>(h.same (hb.trans ((zAC W o).mono hb.size))));have aa:=zh (fun q=>(show Below w1.heap.size w1 (w1.drewN q)from⟨rfl,rfl,rfl,Nat.le_refl _,fun _ _=>rfl⟩));generalize hk:i.toNat-M.number-1=k at *;generalize hm:i.toNat=m at *;have an:i=(m:Int):=by omega
    subst an;have ag:=zW (k≤M.entries.length) (by omega);have ax:IntKind.i64.wrap ((m:Int)-(M.number:Int))=(k:Int)+1:=by rw[IntWalk.i64_in _ (by omega)];omega
    have ay:IntKind.i64.wrap (k:Int)=(k:Int):=IntWalk.i64_in _ (by omega);cases z:layOn D (zAm (nm pre)) (zAL [cutB m])with
    | mk D1 N =>
     rw[z]at J;have a:=zW (∀q,WrB (w1.drewN q).heap.size ((w1.drewN q).alloc (.cells #[.slice none 0 0] 163)) (w1.drewN q).heap.size []) fun q=>wrB_new _;have ao:m≤4611686018427387904:=by omega
     have aq:decide (m≤M.number)=false:=by simp;omega
     clear h hm hk B O Z am C hi
     go_enter func23,ntmps23
     go_wp2_with fail;refine f.o.mono ?_;rintro e w2 ⟨rfl,rfl⟩;go_wp2_with fail;refine t.o.mono ?_;rintro e w2 ⟨rfl,q,rfl⟩;have p:=zh (aa.o q);have HH:=zh (a.o q);generalize hW:w2.drewN q=W0 at *;clear hW;go_wp2_with fail;have ab:=zh (p.o.trans ((zAC W0 (.cells #[.slice none 0 0] 163)).mono p.o.size));refine(wrB_raw HH.o [4] #[.int .u8 4] rfl (by decide) (W0.heap.size+1) 1 1 (by simp) rfl (0,0)).mono ?_;rintro e w3 ⟨rfl,S,P⟩;have ac:=zh (ab.o.trans (P.mono p.o.size));have H3:=zh (zFb S [(m:Int)] #[.int .i64 (m:Int)] rfl (by simp;omega) (by simp) w3.heap.size 1 1 rfl rfl (0,0));clear S P;go_wp2_with fail;refine H3.o.mono ?_;rintro e w4 ⟨rfl,T,Q⟩;have ad:=zh (ac.o.trans (Q.mono p.o.size));have H4:=zh (wrB_out T (by have:=zA9 [(m:Int)];simp at this ⊢;omega));clear T Q;go_wp2_with fail;refine H4.o.mono ?_;rintro e w5 ⟨x,rfl,U,-,R⟩;have r:=ad.o.trans (R.mono p.o.size);have V:zAk w5 5 x (cutB m):=by
      have:[]++[4]++zAp [(m:Int)]=cutB m:=by simp[cutB,zAp,zB8 (show m≤4611686018427387904 by omega)]
      rw[←this];exact U
     have ah:=zh (J.o w5 r x V);have ae:=zh (af.o w5 r (.cells #[x] 22));obtain⟨pv,cv,rfl,-⟩:=zAN U;clear U V R r;go_wp2_with fail;refine ah.o.mono ?_;rintro e w6 ⟨rfl,s,E⟩;have I:=zh (ae.o.trans E)
     by_cases y:N=0
     ·subst y;have HZ:=zh (H.o.trans (laysJ_ok z));rw[zBo]at s;obtain⟨own,gv,dv,ev,vs,l,hS,hn,hl⟩:=s;obtain⟨X,L,rfl⟩:=l.row.shape;have al:=ag.o;have aj:M.entries.length≤L:=by
       rcases l.row.2 with⟨N,e2⟩|⟨g,ap,cur,N,-,e3,-⟩
       ·rw[e2];exact Nat.zero_le _
       ·simp only[Value.slice.injEq]at N;omega
      have HJ:=zh (zAj.turned (D:=D1) (F:=F) hS hn hl (jouIn_cut l rfl al (.inl rfl)) ((Chg.setCell w6 ⟨j,8,none⟩ _).mono fun x _ e=>by rw[e];exact l.ol) fun _ h=>.inl h);have d0:=l.c 0 rfl;have d8:=l.c 8 rfl;have f8:=l.fr 8;have aw:∀W,(Instr.slice 78 (.slice X M.entries.length L) none (some (.int .i64 (k:Int))) (some (.int .i64 (k:Int)))).run prog W=.ok (.slice X k k) W:=fun W=>run_cut W underlying78 ak X _ L k (by omega);clear l hS hn hl E z c0 aj;generalize M.entries.length=n at *;generalize M.number=b at *;go_wp2_with fail;refine zDX [24] (fun w':World=>w'.cell? ⟨j,8,none⟩=some (.slice X n L)∧w'.cell? ⟨j,0,none⟩=some (.int .i64 (b:Int))) (n:=25) (by kernel_rfl) rfl (⟨d8,d0⟩) fun ai=>?_;refine Gl [0,1,2,3] ?_
      iterate 4 (refine Gp rfl ?_;simp only[uZ])
      refine Gn ?_;refine gtk 4 (v:=?v14x4) rfl ?_;simp only[uZ];refine Gl [5,6,7,8,9] ?_
      iterate 5 (refine Gp rfl ?_;simp only[uZ])
      refine Gn ?_;refine gtk 10 (v:=?v14x10) rfl ?_;simp only[uZ];refine Gl [11,12,13,14,15,16,17] ?_
      iterate 7 (refine Gp rfl ?_;simp only[uZ])
      refine Gn ?_;refine gtk 18 (v:=?v14x18) rfl ?_;simp only[uZ];refine Gl [19,20,21,22,23] ?_
      iterate 5 (refine Gp rfl ?_;simp only[uZ])
      refine Gn ?_;refine g_end 24 rfl (by kernel_rfl) (by rfl) (by kernel_rfl) (fun K hK=>?_);have au:w6.drew.frozen? ⟨j,8,none⟩=false:=f8;have ar:w6.drew.cell? ⟨j,8,none⟩=some (.slice X n L):=d8;go_wp2_with fail;refine hK.o _ _ ?_;clear hK
      try simp only[uZ]
      refine zEy (by kernel_rfl) ?_ _;go_wp2_with fail;go_ret;rw[HZ.o];exact⟨rfl,HJ.o.1.drewN 1,I.o.trans HJ.o.2⟩
     ·have HZ:=zh (H.o.trans (laysJ_err z y));rw[zB3 M y]at s;have av:((N:Int) != 0)=true:=by simp;omega
      have HF:=zh s;clear y s E;go_wp2_with fail;go_ret;rw[HZ.o];exact⟨rfl,HF.o,I.o⟩
end
structure zEl (w W:World)(v:Value)(vs:List Value)(ls:List Bs):Prop where
 rows:zBa W v vs ls
 new:zEI w.heap.size v vs
 bel:Below w.heap.size w W
theorem zEl.nil (w:World):zEl w w (.slice none 0 0) [] []:=⟨zBa.nil _,⟨fun k b=>(by cases b),fun u c=>(by simp at c)⟩,Below.refl _ _⟩
theorem zEl.next {w W b:World}{v:Value}{vs:List Value}{ls:List Bs}(h:zEl w W v vs ls)(c:Below W.heap.size W b):zEl w b v vs ls:=⟨h.rows.below c,h.new,h.bel.trans (c.mono h.bel.size)⟩
theorem zEl.push {w W d w3:World}{v m u:Value}{vs:List Value}{ls:List Bs}{x:Bs}{o:Obj}(h:zEl w W v vs ls)(q:Below W.heap.size W d)(t:zAk d 5 u x)(i:∀k,u.ownBlock=some k→W.heap.size≤k)
  (f:OwnR w3 22 1 m (ls.length+1) (vs++[u])) (r:(d.alloc o).grownBy w3 v.ownBlock) (c:m.ownBlock=v.ownBlock∨∃g,m.ownBlock=some g∧(d.alloc o).heap.size≤g):zEl w w3 m (vs++[u]) (ls++[x]):=by
 have n:=h.next q;have j:=zAv d o;have y:=q.size;have s:=j.size;have p:=h.bel.size;refine⟨zBa.push (n.rows.below j) (zCM t j) (fun k l e=>by have a:=i k l;have b:=OwnR.lt h.rows.row e;omega) f r c,zEI.push h.new (fun k l=>Nat.le_trans p (i k l)) c (by omega),?_⟩;exact((Chg.of_below (n.bel.trans (j.mono n.bel.size))).trans (Chg.of_grown r) fun k l e=>by have:=h.new.1 k e.symm;omega:Chg (fun _=>False) w w3).below (Nat.le_refl _) fun _ _=>id
theorem zBa.at {w:World}{p:Option Addr}{n c:Nat}{vs:List Value}{ls:List Bs}(h:zBa w (.slice p n c) vs ls):zBF w (.slice p n c) ls:=by
 have b:=h.len;rcases h.row.2 with⟨e,k⟩|⟨g,j,cur,e,q,d,-⟩
 ·simp only[Value.slice.injEq]at e;obtain⟨rfl,rfl,rfl⟩:=e;have l:ls=[]:=List.eq_nil_of_length_eq_zero k;subst l;exact⟨none,0,rfl,Nat.le_refl _,fun h=>absurd rfl h⟩
 ·simp only[Value.slice.injEq]at e;obtain⟨rfl,rfl,rfl⟩:=e;refine⟨_,c,rfl,d,fun _=>⟨g,0,vs,rfl,b,fun i u f=>?_,fun i u m f o=>(h.has i u m f o).has.kit⟩⟩;exact h.row.cells (g:=g) rfl i u f
theorem holds_at4 {w:World}{p:Option Addr}{n c s:Nat}{xs:List Value}(h:zAM w s (.slice p n c) n xs)(f:xs≠[]):∃b o,p=some ⟨b,o,none⟩∧∀i u,xs[i]?=some u→w.cell? ⟨b,o+i,none⟩=some u:=by
 obtain⟨d,y,v,e,k,j⟩:=h;simp only[Value.slice.injEq]at e;obtain⟨rfl,-,rfl⟩:=e;cases p with
 | none =>
  have:=k rfl;subst this;exact absurd (List.eq_nil_of_length_eq_zero (by simpa using d)) f
 | some a =>
  obtain⟨b,o,t⟩:=a;cases xs with
  | nil=>exact absurd rfl f
  | cons x r =>
   have l:=j _ rfl 0 x rfl;have g:t=none:=by
    have:=World.cell?_spot l;simpa[Addr.add]using this
   subst g;refine⟨b,o,rfl,fun i u q=>?_⟩;have m:=j _ rfl i u q;have e:(⟨b,o,none⟩:Addr).add i=⟨b,o+i,none⟩:=by unfold Addr.add;split<;>simp_all
   rw[←e];exact m
def zCb (w:World)(x:Value)(es:List Ent)(vs:List EV):Prop:=vs.length=es.length∧zAM w 4 x es.length (zAz es vs)∧∀(i:Nat) e v,es[i]?=some e→vs[i]?=some v→zBS w e v
theorem zCb.len {w:World}{p:Option Addr}{n c:Nat}{es:List Ent}{vs:List EV}(h:zCb w (.slice p n c) es vs):es.length=n:=by
 obtain⟨-,⟨-,_,_,e,-⟩,-⟩:=h;simp only[Value.slice.injEq]at e;exact e.2.1.symm
theorem zCb.ent {w:World}{p:Option Addr}{n c:Nat}{es:List Ent}{vs:List EV}(h:zCb w (.slice p n c) es vs){i:Nat}(s:i<es.length):∃b o v,p=some ⟨b,o,none⟩∧zBS w es[i] v ∧
  w.cell? ⟨b,o+i*4,none⟩=some (.int .i64 es[i].term)∧w.cell? ⟨b,o+i*4+1,none⟩=some (.int .i64 es[i].kind)∧w.cell? ⟨b,o+i*4+2,none⟩=some v.1∧w.cell? ⟨b,o+i*4+3,none⟩=some v.2:=by
 have hn:=h.len;obtain⟨f,m,q⟩:=h;rw[hn]at m;have j:vs[i]?=some (vs[i]'(by omega)):=List.getElem?_eq_getElem _;generalize vs[i]'(by omega)=v at j;have l:=List.getElem?_eq_getElem s;have g:zAz es vs≠[]:=fun e=>by
  have:=zDy es vs f;rw[e]at this;simp at this;omega
 obtain⟨b,o,rfl,r⟩:=holds_at4 m g;have d:∀(k:Nat) u,(zEm es[i] v)[k]?=some u→w.cell? ⟨b,o+(i*4+k),none⟩=some u:=fun k u t=>r _ _ (zEM _ _ i _ v l j k u t);exact⟨b,o,v,rfl,q i _ v l j,d 0 _ rfl,d 1 _ rfl,d 2 _ rfl,d 3 _ rfl⟩
theorem entB_len {n:Nat}{e:Ent}(hn:n≤4611686018427387904)(h:zAt e=true):(zEt n e).length≤65800:=by
 have i:=zBN h;unfold zEt zE5;simp only[List.length_cons,List.length_append];have b:=zAg hn;have c:=zBK e.term;have d:=zBK e.kind;have f:=zAg (n:=e.data.length) (by omega);have g:=zER e.nodes (by omega);omega
theorem zCe:∀(n:Nat) (es:List Ent),(zAx n es).length=es.length
 | _,[]=>rfl
 | n,e::r=>by
  show(zAx (n+1) r).length+1=_
  rw[zCe (n+1) r];rfl
theorem entsB_app:∀(n:Nat) (es b:List Ent),zAx n (es++b)=zAx n es++zAx (n+es.length) b
 | _,[],_=>rfl
 | n,e::r,b=>by
  show zEt (n+1) e::zAx (n+1) (r++b)=_
  rw[entsB_app (n+1) r b]
  show _=zEt (n+1) e::(zAx (n+1) r++zAx (n+(r.length+1)) b)
  rw[show n+1+r.length=n+(r.length+1) by omega]
theorem zFJ {n k:Nat}{es:List Ent}(b:k<es.length):zAx n (es.take (k+1))=zAx n (es.take k)++[zEt (n+k+1) es[k]]:=by
 rw[List.take_succ_eq_append_getElem b,entsB_app,List.length_take,Nat.min_eq_left (by omega)];rfl
theorem zCq:∀(n:Nat) (es:List Ent),(∀e∈es,zAt e=true)→n+es.length≤4611686018427387904→∀l∈zAx n es,l.length≤65800
 | _,[],_,_,l,b=>by cases b
 | n,e::r,h,hn,l,b=>by
  simp only[List.length_cons]at hn;cases b with
  | head=>exact entB_len (by omega) (h e (by simp))
  | tail _ b=>exact zCq (n+1) r (fun x c=>h x (by simp[c])) (by omega) l b
theorem zDk {c:Nat}:∀(ls:List Bs),(∀l∈ls,l.length≤c)→(zAL ls).length≤(c+12)*ls.length
 | [],_=>by simp[zAL]
 | l::ls,h=>by
  have d:=zDk ls fun x b=>h x (by simp[b]);have f:=h l (by simp);rw[zBD,List.length_append,zAe,List.length_cons,Nat.mul_add];omega
theorem jouIn_push {w1 N w2:World}{j d:Nat}{pre:ByteArray}{M:zAH}{own:Nat→Prop}{O dv z v':Value}{vs:List EV}{u:EV}{e:Ent}(f:zBn w1 j d pre own M O dv z vs)(I:zDg w1 e u)(G:∀k,(u.1.ownBlock=some k∨u.2.ownBlock=some k)→¬own k)(B:zAt e=true)(L:M.last+1≤1099511627776)
  (q:Below w1.heap.size w1 N) (t:OwnR w2 50 4 v' (M.entries.length+1) (zAz M.entries vs++zEm e u)) (H:N.grownBy w2 z.ownBlock) (E:v'.ownBlock=z.ownBlock∨∃g,v'.ownBlock=some g∧N.heap.size≤g) :
  zBn (w2.setCell ⟨j,8,none⟩ v') j d pre (fun k=>own k∨(u.1.ownBlock=some k∨u.2.ownBlock=some k)∨v'.ownBlock=some k) {M with entries:=M.entries++[e] } O dv v' (vs++[u])∧Chg own w1 (w2.setCell ⟨j,8,none⟩ v')∧(∀k,v'.ownBlock=some k→own k∨w1.heap.size≤k) ∧
  w2.heap[j]?=w1.heap[j]?:=by
 have U:=q.size;have Q:=H.size;have D:w2.heap[j]?=w1.heap[j]?:=(H.block j (by have:=f.olt j f.ol;omega) fun e=>(f.oe j e.symm).2 rfl).trans (q.block j (f.olt j f.ol));have p:∀k,v'.ownBlock=some k→z.ownBlock=some k∨w1.heap.size≤k:=fun k b=>by
  rcases E with e|⟨g,e,R⟩
  ·exact .inl (e▸b)
  ·rw[b]at e;cases e;exact .inr (by omega)
 have y:∀k,v'.ownBlock=some k→k≠j:=fun k b e=>by
  rcases p k b with h|h
  ·exact(f.oe k h).2 e
  ·have:=f.olt j f.ol;omega
 have F:∀k,(u.1.ownBlock=some k∨u.2.ownBlock=some k)→k≠j:=fun k b e=>G k b (e▸f.ol);have l:∀k,k<w1.heap.size→z.ownBlock≠some k→k≠j→(w2.setCell ⟨j,8,none⟩ v').heap[k]?=w1.heap[k]?:=fun k b B J =>
  (set_other v' J).trans ((H.block k (by omega) fun e=>B e.symm).trans (q.block k b))
 have n:∀k,k<w1.heap.size→z.ownBlock≠some k→v'.ownBlock≠some k:=fun k b B e=>by
  rcases p k e with h|h
  ·exact B h
  ·omega
 have v:∀k,(u.1.ownBlock=some k∨u.2.ownBlock=some k)→z.ownBlock≠some k:=fun k b e=>G k b (f.oe k e).1;have A:=f.rows.1;have s:(M.entries++[e]).length=M.entries.length+1:=by simp
 refine⟨⟨?_,?_,?_,?_,⟨by simp[A],?_⟩,.inl f.ol,?_,?_,fun k b=>⟨.inr (.inr b),y k b⟩,?_,?_,f.psz,⟨?_,f.ok.term,f.ok.group,f.ok.now,f.ok.vote,f.ok.data,?_⟩⟩,?_,fun k b=>(p k b).imp (fun h=>(f.oe k h).1) id,D⟩
 ·have P:=zAD (D.trans f.cells) 8 v';simpa using P
 ·exact OwnR.keep f.group fun k b=>l k (OwnR.lt f.group b) (f.og k b).2.2 (f.og k b).2.1
 ·exact OwnR.keep f.data fun k b=>l k (OwnR.lt f.data b) (f.od k b).2.2 (f.od k b).2.1
 ·show OwnR _ _ _ _ (M.entries++[e]).length (zAz (M.entries++[e]) (vs++[u]))
  rw[s,zEv _ _ _ _ A];exact t.keep fun k b=>set_other v' (y k b)
 ·intro i x c m r;have o:(M.entries++[e])[i]?=some x:=m
  by_cases S:i<vs.length
  ·rw[List.getElem?_append_left S]at r;rw[List.getElem?_append_left (by omega)]at o;have a:=List.mem_of_getElem? r;exact(f.rows.2 i x c o r).keep fun k b=>l k (f.olt k (f.ov c a k b).1) (f.ov c a k b).2.2 (f.ov c a k b).2.1
  ·rw[List.getElem?_append_right (by omega)]at r;rw[List.getElem?_append_right (by omega)]at o;have C:i-vs.length=0:=by
    have:=(List.getElem?_eq_some_iff.1 r).1;simp at this;omega
   rw[C]at r;rw[←A,C]at o;simp only[List.getElem?_cons_zero,Option.some.injEq]at r o;subst r;subst o;exact I.keep fun k b=>l k (I.lt b) (v k b) (F k b)
 ·exact fun k b=>⟨.inl (f.og k b).1,(f.og k b).2.1,n k (OwnR.lt f.group b) (f.og k b).2.2⟩
 ·exact fun k b=>⟨.inl (f.od k b).1,(f.od k b).2.1,n k (OwnR.lt f.data b) (f.od k b).2.2⟩
 ·intro x m k b;rcases List.mem_append.1 m with m|m
  ·exact⟨.inl (f.ov x m k b).1,(f.ov x m k b).2.1,n k (f.olt k (f.ov x m k b).1) (f.ov x m k b).2.2⟩
  ·obtain rfl:x=u:=by simpa using m
   exact⟨.inr (.inl b),F k b,n k (I.lt b) (v k b)⟩
 ·intro k b;have T:(w2.setCell ⟨j,8,none⟩ v').heap.size=w2.heap.size:=by simp[World.setCell]
  rw[T];rcases b with b|b|b
  ·have:=f.olt k b;omega
  ·have:=I.lt b;omega
  ·exact t.lt b
 ·show M.number+(M.entries++[e]).length≤_
  rw[s];unfold zAH.last at L;omega
 ·intro x m;rcases List.mem_append.1 m with m|m
  ·exact f.ok.ents x m
  ·obtain rfl:x=e:=by simpa using m
   exact B
 ·exact((((Chg.of_below q).mono fun _ _ h=>h.elim).trans (Chg.of_grown H) fun k _ e=>(f.oe k e.symm).1).trans (Chg.setCell w2 ⟨j,8,none⟩ v') fun k _ e=>e▸f.ol:Chg own w1 _)
structure EntBox (w:World)(b:Nat):Prop where
 all:w.heap[b]?=some (.cells #[.int .i64 0,.int .i64 0,.slice none 0 0,.slice none 0 0] 50)
theorem entBox_new (w:World):EntBox (w.alloc (.cells #[.int .i64 0,.int .i64 0,.slice none 0 0,.slice none 0 0] 50)) w.heap.size:=⟨zAJ w _⟩
section
variable {w w1:World} {j d:Nat} {pre:ByteArray} {D:zAA} {M:zAH} {F:Nat→Prop}
theorem zGH (h:zAj w w1 j d pre D M F){p:Option Addr}{n c:Nat}{es:List Ent}{vs:List EV}(P:∀W,Below w.heap.size w W→Same F w1 W→zCb W (.slice p n c) es vs)(hn:n≤1000000) :
  Calls prog 22 #[.pointer (some ⟨j,0,none⟩),.slice p n c] w1 (zEH w w1 j d pre F (zAZ (nm pre) D M es)):=by
 obtain⟨i0,hi,bK,bL,bM⟩:=info_parts (show(prog.info? 22).map (fun i=>(i.zero,i.size,i.bytes))=some (some (.slice none 0 0),1,24) by kernel_rfl);obtain⟨i4,bH,bo,bp,bq⟩:=info_parts (show(prog.info? 50).map (fun i=>(i.zero,i.size,i.bytes))=some (some (.agg #[.int .i64 0,.int .i64 0,.slice none 0 0,.slice none 0 0]),4,64) by kernel_rfl);have J:=zh (zD4 h);have aW:=zh (zCr h);have ar:=zh (fun k w2 (hb:Below w1.heap.size w1 w2) (hr:zAZ (nm pre) D M es=⟨D,M,k⟩)=>zD5 h hb hr);have HR:=zW (zAZ (nm pre) D M es=if M.dead then⟨D,M,9⟩else if 1099511627776<M.last+es.length∨es.all zAt=false then⟨D,M,1⟩else if es=[]then⟨D,M,0⟩else zBw (nm pre) D M (zAx M.last es) {M with entries:=M.entries++es}) rfl;have bi:=h.okM.last;have aL:=(P w1 h.bel fun _ _=>rfl).len;cases hd:M.dead with
 | true =>
  rw[hd]at J;have HE:=zh (ar.o 9 w1 (Below.refl _ _) (by rw[HR.o,hd];rfl));clear h
  go_enter func22,ntmps22
  go_wp2_with fail;refine J.o.mono ?_;rintro e w2 ⟨rfl,rfl⟩;go_wp2_with fail;go_ret;exact HE.o
 | false =>
  rw[hd]at J;generalize hL:M.last=A at *;generalize bC:M.lastT=lt at *;have bR:IntKind.i64.wrap (1099511627776-(A:Int))=1099511627776-(A:Int):=IntWalk.i64_in _ (by omega)
  by_cases U:1099511627776<A+n
  ·have HE:=zh (fun q=>ar.o 1 (w1.drewN q) ⟨rfl,rfl,rfl,Nat.le_refl _,fun _ _=>rfl⟩ (by rw[HR.o,hd,if_neg (by simp),if_pos (.inl (by rw[aL];exact U))]));have bG:(1099511627776:Int)-(A:Int)<(n:Int):=by omega
   clear h U
   go_enter func22,ntmps22
   go_wp2_with fail;refine J.o.mono ?_;rintro e w2 ⟨rfl,rfl⟩;go_wp2_with fail;refine aW.o.mono ?_;rintro e w2 ⟨rfl,q,rfl⟩;go_wp2_with fail;go_ret;exact HE.o q
  ·have bG:decide ((1099511627776:Int)-(A:Int)<(n:Int))=false:=by simp;omega
   have HD:=zh hd;have H:=zh h;have Hx:=zh P;have C:=zh aL;have ad:=zh U;have HL:=zh hL;have bI:A≤1099511627776:=bi;clear h P aL U hL bC bi hd
   go_enter func22,ntmps22
   go_wp2_with fail;refine J.o.mono ?_;rintro e w2 ⟨rfl,rfl⟩;go_wp2_with fail;refine aW.o.mono ?_;rintro e w3 ⟨rfl,q,rfl⟩;have aQ:=zW (Below w2.heap.size w2 (w2.drewN q)) (⟨rfl,rfl,rfl,Nat.le_refl _,fun _ _=>rfl⟩);generalize bD:w2.drewN q=W0 at *;clear bD;go_wp2_with fail
   go_loopw [8,31] (fun x i wr=>∃(k:Nat) (us:List Value) (xv:Value),k≤n∧i=.int .i64 k∧xv=x∧(∀e∈es.take k,zAt e=true)∧zEl W0 wr xv us (zAx A (es.take k))) (fun _ i _=>n-(intOf i).toNat)
   case atStart=>exact⟨0,[],_,Nat.zero_le _,rfl,rfl,fun e he=>(by simp at he),zEl.nil _⟩
   case round =>
    obtain⟨k,us,xv,hk,rfl,rfl,L,O⟩:=hrel;have s:Below w2.heap.size w2 wr:=aQ.o.trans (O.bel.mono aQ.o.size)
    by_cases aK:k<n
    ·have G:k<es.length:=by rw[C.o];exact aK
     obtain⟨b,o,v,rfl,B,k0,k1,k2,k3⟩:=(Hx.o wr (H.o.bel.trans (s.mono H.o.bel.size)) (H.o.same s)).ent G;have bu:=zh (zFJ (n:=A) G);have aB:=zh (List.take_succ_eq_append_getElem G);have aT:=zW (zAt es[k]=false→es.all zAt=false) (fun hf=>by
      rw[Bool.eq_false_iff];intro ht;have:=List.all_eq_true.1 ht _ (List.getElem_mem G);rw[hf]at this;cases this)
     generalize es[k]=e at *;obtain⟨v1,v2⟩:=v;obtain⟨X,R,e1⟩:=B.data.slice;obtain⟨Y,S,e2⟩:=B.nodes.slice;have aE:v1=.slice X e.data.length R:=e1;have aF:v2=.slice Y e.nodes.length S:=e2;subst aE;subst aF;have k2:wr.cell? ⟨b,o+k*4+2,none⟩=some (.slice X e.data.length R):=k2;have k3:wr.cell? ⟨b,o+k*4+3,none⟩=some (.slice Y e.nodes.length S):=k3;have aq:=zh B;have bF:=B.dl;have bJ:=B.nl;have aZ:=zh O;have aC:=zh L;have aN:=zh s;have hR:=(entBox_new wr).all;have r0:=zAd hR;have r1:=zAn hR;have r2:=zAo hR;have r3:=zBI hR;have fr:=zAE hR;clear G B e1 e2 O L s hR;go_wp2_with fail;have av:=zAC wr (.cells #[.int .i64 e.term,.int .i64 e.kind,.slice X e.data.length R,.slice Y e.nodes.length S] 50);have aP:=zh (zAJ wr (.cells #[.int .i64 e.term,.int .i64 e.kind,.slice X e.data.length R,.slice Y e.nodes.length S] 50));refine(isone_calls (aq.o.below av)).mono ?_;rintro r w4 ⟨rfl,aH⟩;have ab:=zW (Below wr.heap.size wr w4) (av.trans (aH.mono av.size));have Q:=(aH.block _ (zAB aP.o)).trans aP.o;have q0:=zAd Q;have q1:=zAn Q;have q2:=zAo Q;have q3:=zBI Q;have q0:w4.cell? ⟨wr.heap.size,0,none⟩=some (.int .i64 e.term):=q0;have q1:w4.cell? ⟨wr.heap.size,1,none⟩=some (.int .i64 e.kind):=q1;have q2:w4.cell? ⟨wr.heap.size,2,none⟩=some (.slice X e.data.length R):=q2;have q3:w4.cell? ⟨wr.heap.size,3,none⟩=some (.slice Y e.nodes.length S):=q3;clear av aH Q;cases N:zAt e with
     | false =>
      have HE:=zh (ar.o 1 w4 (aN.o.trans (ab.o.mono aN.o.size)) (by rw[HR.o,HD.o];simp[aT.o N]));clear N;go_wp2_with fail;go_ret;exact HE.o
     | true =>
      have bS:IntKind.i64.wrap ((A:Int)+1)=(A:Int)+1:=IntWalk.i64_in _ (by omega);have bT:IntKind.i64.wrap ((A:Int)+1+(k:Int))=(A:Int)+1+(k:Int):=IntWalk.i64_in _ (by omega);have bv:=zW (Calls prog 100 #[.int .i64 ((A:Int)+1+(k:Int)),.agg #[.int .i64 e.term,.int .i64 e.kind,.slice X e.data.length R,.slice Y e.nodes.length S]] w4 (zBf w4 (zEt (A+k+1) e))) (by
       have:=entRec_calls (A+k+1) (by omega) (aq.o.below ab.o) N;rwa[show((A+k+1:Nat):Int)=(A:Int)+1+(k:Int) by omega]at this)
      have aD:=zh N;clear N;go_wp2_with fail;refine bv.o.mono ?_;rintro r w5 ⟨y,rfl,hy,bn,bf⟩;have aO:=zW (Below wr.heap.size wr w5) (ab.o.trans (bf.mono ab.o.size));have HY:=zh (And.intro hy (show ∀z,y.ownBlock=some z→wr.heap.size≤z from fun z hz=>Nat.le_trans ab.o.size (bn z hz)));obtain⟨py,cy,rfl,-⟩:=zAN hy;clear hy bn bf;generalize bm:(zEt (A+k+1) e).length=yl at *;have bg:(zAx A (es.take k)).length=k:=by rw[zCe,List.length_take,C.o];omega
      have bO:=zh bm;have aU:=zh bg;have ay:=zW (OwnR w5 22 1 xv k us) (by
       have:=(aZ.o.next aO.o).rows.row;rwa[aU.o]at this)
      clear bm bg q0 q1 q2 q3;go_wp2_with (at_builtin;have Z:=ay.o.keep (w':=w5.alloc (.cells #[.slice py yl cy] 22)) (fun z hz=>(zAv w5 _).block z (OwnR.lt ay.o hz));have ao:=zDn w5 (.slice py yl cy) 22 (0,0);refine zAP _ rfl (.tmp 39) (.tmp 46) 108 rfl 22 i0 (.slice none 0 0) 1 24 underlying108 hi bK bL bM rfl (by decide) xv k _ rfl Z (.slice (some ⟨w5.heap.size,0,none⟩) 1 1) 1 _ rfl ao (by simp[Value.oneCell']) (by unfold maxLen;omega) (by omega) ?_;clear Z ao;intro v3 w3 t g E;go_loud (have HE:=zh (zEl.push aZ.o aO.o HY.o.1 HY.o.2 (by rw[aU.o];exact t) g E);clear g E;obtain⟨p3,q3,rfl⟩:=OwnR.shape t;clear t))
      go_roundw
      case rel =>
       refine⟨k+1,us++[.slice py yl cy],_,by omega,by go_num,rfl,?_,?_⟩
       ·intro z hz;rw[aB.o]at hz;rcases List.mem_append.1 hz with hz|hz
        ·exact aC.o z hz
        ·rw[show z=e by simpa using hz];exact aD.o
       ·rw[bu.o];exact HE.o
      case measure=>simp[intOf];omega
    ·have bh:k=n:=by omega
     have aa:es.take k=es:=List.take_of_length_le (by rw[C.o];omega);rw[aa]at L O;have T:es.all zAt=true:=List.all_eq_true.2 L;have V:=O.rows.row;have ax:(zAx A es).length=n:=by rw[zCe,C.o]
     rw[ax]at V;obtain⟨px,cx,rfl⟩:=V.shape
     by_cases bk:n=0
     ·have ag:es=[]:=List.eq_nil_of_length_eq_zero (by rw[C.o,bk]);have HE:=zh (ar.o 0 wr s (by rw[HR.o,HD.o,if_neg (by simp),if_neg (by rw[C.o,T];simp;have:=ad.o;omega),if_pos ag]));have e0:((n:Int)==0)=true:=by simp;omega
      clear L O T V ax ag s bh aa;go_wp2_with fail;go_ret;exact HE.o
     ·have ag:es≠[]:=fun e=>bk (by rw[←C.o,e];rfl);have e0:((n:Int)==0)=false:=by simp;omega
      have aR:=zW (zAZ (nm pre) D M es=zBw (nm pre) D M (zAx A es) {M with entries:=M.entries++es}) (by rw[HR.o,HD.o,if_neg (by simp),if_neg (by rw[C.o,T];simp;have:=ad.o;omega),if_neg ag]);have aM:=zCq A es L (by rw[C.o];omega);have aA:=zDk (c:=65800) (zAx A es) aM;have ae:=zh (zFl (H.o.next s) O.rows.at (by omega) (fun l hl=>Nat.le_trans (aM l hl) (by decide)) (by rw[ax]at aA;omega));have aS:=zh (H.o.same s);have aC:=zh L;have bN:=zh s;clear L O T V ax ag s bh aa aM aA;cases ak:layOn D (zAm (nm pre)) (zAL (zAx A es))with
      | mk D1 e1 =>
       rw[ak]at ae
       by_cases aw:e1=0
       ·subst aw;have HZ:=zh (aR.o.trans (laysJ_ok ak));rw[zBo]at ae;clear ak;go_wp2_with fail;refine ae.o.mono ?_;rintro r w6 ⟨rfl,ah,am⟩;have bs:=zh ah;have bt:=zh (aS.o.trans am);clear ah am;go_wp2_with fail
        go_loopw [60] (fun i wr=>∃k:Nat,k≤n∧i=.int .i64 k∧zAj w wr j d pre D1 {M with entries:=M.entries++es.take k} F∧Same F w2 wr) (fun i _=>n-(intOf i).toNat)
        case atStart=>exact⟨0,Nat.zero_le _,rfl,by rw[List.take_zero,List.append_nil];exact bs.o,bt.o⟩
        case round =>
         obtain⟨k,hk,rfl,ai,an⟩:=hrel
         by_cases aK:k<n
         ·have G:k<es.length:=by rw[C.o];exact aK
          obtain⟨b,o,v,rfl,B,k0,k1,k2,k3⟩:=(Hx.o wr ai.bel an).ent G;have N:=aC.o _ (List.getElem_mem G);have aB:=zh (List.take_succ_eq_append_getElem G);generalize es[k]=e at *;obtain⟨v1,v2⟩:=v;obtain⟨X,R,e1⟩:=B.data.slice;obtain⟨Y,S,e2⟩:=B.nodes.slice;have aE:v1=.slice X e.data.length R:=e1;have aF:v2=.slice Y e.nodes.length S:=e2;subst aE;subst aF;have k2:wr.cell? ⟨b,o+k*4+2,none⟩=some (.slice X e.data.length R):=k2;have k3:wr.cell? ⟨b,o+k*4+3,none⟩=some (.slice Y e.nodes.length S):=k3;have aq:=zh B;have bF:=B.dl;have bJ:=B.nl;have aD:=zh N;have aJ:({M with entries:=M.entries++es.take k}:zAH).last=A+k:=by
           show M.number+(M.entries++es.take k).length=A+k
           rw[List.length_append,List.length_take,←HL.o,Nat.min_eq_left (by omega)]
           show _=M.number+M.entries.length+k
           omega
          obtain⟨own,gv,dv,ev,us,hJ,hS,al,aj⟩:=ai;obtain⟨pe,ce,rfl⟩:=hJ.row.shape;have c8:=hJ.c 8 rfl;have bj:({M with entries:=M.entries++es.take k}:zAH).entries.length≤A+k:=by rw[←aJ];exact Nat.le_add_left _ _
          have HJ:=zh (And.intro hJ (And.intro hS (And.intro al aj)));have bx:=zh aJ;have bz:=zh an;have ac:=zW (A+k+1≤1099511627776) (by have:=ad.o;omega);generalize hm:({M with entries:=M.entries++es.take k}:zAH).entries.length=m at *;have Hm:=zh hm;have aX:=zh bj;clear G B e1 e2 N hJ hS al aj aJ hm bj an;go_wp2_with fail;refine zDX [11] (fun w':World=>w'.cell? ⟨j,8,none⟩=some (.slice pe m ce)∧w'.heap[wr.heap.size]?=some (.cells #[.int .i64 e.term,.int .i64 e.kind,.slice X e.data.length R,.slice Y e.nodes.length S] 50 (0,0))) (n:=12) (by kernel_rfl) rfl (⟨zBX c8 _,zAJ wr _⟩) fun f=>?_;have ap:=zW (Below wr.heap.size wr (wr.alloc (.cells #[.int .i64 e.term,.int .i64 e.kind,.slice X e.data.length R,.slice Y e.nodes.length S] 50)).drew) ((zAC wr _).trans ⟨rfl,rfl,rfl,by simp,fun _ _=>rfl⟩);generalize (wr.alloc (.cells #[.int .i64 e.term,.int .i64 e.kind,.slice X e.data.length R,.slice Y e.nodes.length S] 50)).drew=W1 at *;refine Gl [0,1,2,3] ?_
          iterate 4 (refine Gp rfl ?_;simp only[uZ])
          refine Gn ?_;refine gtk 4 (v:=?v23x4) rfl ?_;simp only[uZ];refine zEz 5 (v:=.agg #[.int .i64 e.term,.int .i64 e.kind,.slice X e.data.length R,.slice Y e.nodes.length S]) rfl (by kernel_rfl) (by kernel_rfl) (by kernel_rfl) (by kernel_rfl) (fun _ _ _ h=>h) (by rfl) (by assumption) (fun W au=>by have q0:=zAd au.2;have q1:=zAn au.2;have q2:=zAo au.2;have q3:=zBI au.2;go_simp;try with_reducible rfl) ?_;simp only[uZ];refine zEP 6 rfl (by kernel_rfl) (by rfl) (fun K hK=>?_);have aY:=zh (own_calls (aq.o.below ap.o));go_wp2_with fail;refine aY.o.mono ?_;rintro r w9 ⟨⟨u1,u2⟩,rfl,hu,bl,I⟩;have br:=zh (ap.o.trans (I.mono ap.o.size));have bw:=zh (And.intro (zAI f.1 I) ((I.block _ (zAB f.2)).trans f.2));have HU:=zh (And.intro hu (show ∀x,((u1,u2):EV).1.ownBlock=some x∨((u1,u2):EV).2.ownBlock=some x→wr.heap.size≤x from fun x P=>Nat.le_trans ap.o.size (bl x P)));obtain⟨pu,cu,eu,-⟩:=zAN hu.data;obtain⟨pn,cn,en,-⟩:=zAw hu.nodes;have bB:u1=.slice pu e.data.length cu:=eu;have bA:u2=.slice pn e.nodes.length cn:=en;subst bB;subst bA;clear hu bl I eu en;unfold zDx;go_wp2_with fail;refine hK.o _ _ (bw.o) fun f=>?_;clear hK
          try simp only[uZ]
          refine zEP 7 rfl (by kernel_rfl) (by rfl) (fun K hK=>?_);have aV:=zh (And.intro (zBX f.1 (.cells #[.int .i64 e.term,.int .i64 e.kind,.slice pu e.data.length cu,.slice pn e.nodes.length cn] 50)) ((zDU _ (.cells #[.int .i64 e.term,.int .i64 e.kind,.slice pu e.data.length cu,.slice pn e.nodes.length cn] 50) (zAB f.2)).trans f.2));go_wp2_with fail;refine hK.o _ _ (aV.o) fun f=>?_;clear hK
          try simp only[uZ]
          refine zEP 8 rfl (by kernel_rfl) (by rfl) (fun K hK=>?_);obtain⟨hJ,hS,al,aj⟩:=HJ.o;have I:=br.o;have af:=hJ.below I;have aI:=zAC w9 (.cells #[.int .i64 e.term,.int .i64 e.kind,.slice pu e.data.length cu,.slice pn e.nodes.length cn] 50);have Z:=(af.below aI).row;rw[Hm.o]at Z;have ao:zAM (w9.alloc (.cells #[.int .i64 e.term,.int .i64 e.kind,.slice pu e.data.length cu,.slice pn e.nodes.length cn] 50)) 4 (.slice (some ⟨w9.heap.size,0,none⟩) 1 1) 1 (zEm e (.slice pu e.data.length cu,.slice pn e.nodes.length cn)):=⟨rfl,some ⟨w9.heap.size,0,none⟩,1,rfl,fun e=>(by cases e),fun a ha i u hu=>by
           cases ha;rw[add_zero];refine zAG (zAJ w9 _) ?_;simpa[zEm]using hu⟩
          refine zAq (.tmp 68) (.tmp 71) 78 rfl 50 i4 (.agg #[.int .i64 0,.int .i64 0,.slice none 0 0,.slice none 0 0]) 4 64 underlying78 bH bo bp bq rfl (by decide) _ m _ rfl Z (.slice (some ⟨w9.heap.size,0,none⟩) 1 1) 1 _ rfl ao (by simp[zEm,Value.oneCell']) (by unfold maxLen;have:=aX.o;have:=ac.o;omega) (by have:=aX.o;have:=ac.o;omega) ?_;intro v3 w3 t g E;obtain⟨ba,bb,bc,aG⟩:=jouIn_push af HU.o.1 (fun x P ho=>by have h1:=HU.o.2 x P;have h2:=hJ.olt x ho;omega) aD.o (by rw[bx.o];exact ac.o) aI (by rw[Hm.o];exact t) g E;obtain⟨bd,be⟩:=zAj.turned hS al aj ba (((Chg.of_below I).mono fun _ _ h=>h.elim).trans bb fun _ _ h=>h) fun x P=>by
           rcases P with P|P|P
           ·exact .inl P
           ·exact .inr (HU.o.2 x P)
           ·exact(bc x P).imp id fun h=>Nat.le_trans I.size h
          have HE:=zW (zAj w (w3.setCell ⟨j,8,none⟩ v3) j d pre D1 {M with entries:=M.entries++es.take (k+1) } F∧Same F w2 (w3.setCell ⟨j,8,none⟩ v3)) (⟨by rw[aB.o,←List.append_assoc];exact bd,bz.o.trans be⟩);have az:∀x,(Value.slice pe m ce).ownBlock=some x→x≠wr.heap.size:=fun x P e=>by have:=hJ.olt x (hJ.oe x P).1;omega
          have bE:w3.cell? ⟨j,8,none⟩=some (.slice pe m ce):=zAG (aG.trans af.cells) (i:=8) rfl;have bP:w3.frozen? ⟨j,8,none⟩=false:=zAE (aG.trans af.cells) 8;have Q:w3.heap[wr.heap.size]?=some (.cells #[.int .i64 e.term,.int .i64 e.kind,.slice X e.data.length R,.slice Y e.nodes.length S] 50 (0,0)):=(g.block _ (zAB f.2) fun e=>az _ e.symm rfl).trans f.2;obtain⟨p3,q3,rfl⟩:=OwnR.shape t;clear hJ hS al aj af aI Z ao t g E ba bb bc aG bd be az I;refine hK.o _ _ ⟨bE,Q⟩ fun f=>?_;clear hK
          try simp only[uZ]
          refine Gl [9,10] ?_
          iterate 2 (refine Gp rfl ?_;simp only[uZ])
          refine Gn ?_;refine g_end 11 rfl (by kernel_rfl) (by rfl) (by kernel_rfl) (fun K hK=>?_);go_wp2_with fail;refine hK.o _ _ ?_;clear hK
          try simp only[uZ]
          refine zEy (by kernel_rfl) ?_ _;go_wp2_with fail;go_roundw
          case rel=>exact⟨k+1,by omega,by go_num,HE.o.1,HE.o.2⟩
          case measure=>simp[intOf];omega
         ·have aa:es.take k=es:=List.take_of_length_le (by rw[C.o];omega);rw[aa]at ai;have HF:=zh (And.intro ai an);clear ai an aa;go_wp2_with fail;go_ret;rw[HZ.o];exact⟨rfl,HF.o.1,HF.o.2⟩
       ·have HZ:=zh (aR.o.trans (laysJ_err ak aw));rw[zB3 M aw]at ae;have bQ:((e1:Int) != 0)=true:=by simp;omega
        clear ak aw;go_wp2_with fail;refine ae.o.mono ?_;rintro r w6 ⟨rfl,ah,am⟩;have HF:=zh (And.intro ah (aS.o.trans am));clear ah am;go_wp2_with fail;go_ret;rw[HZ.o];exact⟨rfl,HF.o.1,HF.o.2⟩
end
theorem rowsIn_keep {w w':World}{v:Value}{vs:List Value}{ls:List Bs}(h:zBa w v vs ls)(d:∀k,(v.ownBlock=some k∨∃u∈vs,u.ownBlock=some k)→w'.heap[k]?=w.heap[k]?):zBa w' v vs ls :=
 ⟨h.row.keep fun k c=>d k (.inl c),fun i u b f g=>OwnR.keep (h.has i u b f g) fun k c=>d k (.inr ⟨u,List.mem_of_getElem? f,c⟩),h.sep⟩
def FR (F:Nat→Prop)(v:Value)(vs:List Value)(k:Nat):Prop:=F k∨v.ownBlock=some k∨∃u∈vs,u.ownBlock=some k
theorem zEl.two {w W:World}{g d:Value}{q r:Bs}(o:Below w.heap.size w W)(m:zAk W 5 g q)(s:∀k,g.ownBlock=some k→w.heap.size≤k)(n:zAk W 5 d r)(n2:∀k,d.ownBlock=some k→w.heap.size≤k) :
  zEl w (W.alloc (.cells #[g,d] 22)) (.slice (some ⟨W.heap.size,0,none⟩) 2 2) [g,d] [q,r]:=by
 have l:=zAC W (.cells #[g,d] 22);have p:=o.size;refine⟨⟨⟨rfl,.inr ⟨W.heap.size,2,#[g,d],rfl,zAJ W _,Nat.le_refl _,by decide,Nat.le_refl _,rfl⟩⟩,fun i u b c j=>?_,fun u c k f e=>?_⟩,⟨fun k f=>?_,fun u c k f=>?_⟩,o.trans (l.mono p)⟩
 ·match i,c,j with
  | 0,c,j=>cases c;cases j;exact zCM m l
  | 1,c,j=>cases c;cases j;exact zCM n l
 ·obtain rfl:W.heap.size=k:=Option.some.inj e;rcases List.mem_cons.1 c with rfl|c
  ·have:=OwnR.lt m f;omega
  ·obtain rfl:u=d:=by simpa using c
   have:=OwnR.lt n f;omega
 ·cases f;exact p
 ·rcases List.mem_cons.1 c with rfl|c
  ·exact s k f
  ·obtain rfl:u=d:=by simpa using c
   exact n2 k f
section
variable {w w1 w2:World} {j d:Nat} {pre:ByteArray} {D:zAA} {M:zAH} {F:Nat→Prop}
theorem jou_read (h:zAj w w1 j d pre D M F)(s:ByteArray)(c:s.size≤9223372036854775807) :
  Calls prog 75 #[.pointer (some ⟨d,0,none⟩),.string s] w1 fun e w'=>∃v,e=.returned (.tuple #[v,.int .i64 (zDa (Sat.get (nm s) D.files))])∧zAk w' 5 v (zDC (Sat.get (nm s) D.files))∧(∀k,v.ownBlock=some k→w1.heap.size≤k)∧Below w1.heap.size w1 w':=by
 refine(st_read h.st s c).mono ?_;rintro e w' ⟨v,rfl,f,hn,b,-⟩;exact⟨v,rfl,f,hn,b⟩
theorem jou_rename (h:zAj w w1 j d pre D M F)(o s:ByteArray)(b:o.size≤9223372036854775807)(c:s.size≤9223372036854775807) :
  Calls prog 160 #[.pointer (some ⟨d,0,none⟩),.string o,.string s] w1 fun e w'=>e=.returned (.int .i64 ((D.rename (nm o) (nm s)).2:Int))∧zAj w w' j d pre (D.rename (nm o) (nm s)).1 M F∧Same F w1 w'∧w'.heap[j]?=w1.heap[j]? :=
 zFQ h (Below.refl _ _) fun _ hS=>st_rename hS o s b c
theorem FR_more (h:zAj w w1 j d pre D M F){v:Value}{vs:List Value}{ls:List Bs}(f:zEl w1 w2 v vs ls):zAj w w2 j d pre D M (FR F v vs) :=
 h.more f.bel fun k b=>by
  rcases b with b|b|⟨u,g,b⟩
  ·exact .inl b
  ·exact .inr ⟨f.new.1 k b,OwnR.lt f.rows.row b⟩
  ·obtain⟨c,i⟩:=mem_rows f.rows g;exact .inr ⟨f.new.2 u g k b,OwnR.lt i b⟩
def zCK (w w1:World)(j d:Nat)(pre:ByteArray)(M:zAH)(F:Nat→Prop)(r:zAA×Nat)(e:Ending)(w':World):Prop :=
 e=.returned (.int .i64 (r.2:Int))∧zAj w w' j d pre r.1 M F∧Same F w1 w'
theorem zE6 {M:zAH}(h:M.OK):(∀l∈M.rows,l.length≤65800)∧M.rows.length=M.entries.length+2:=by
 have c:=h.last;unfold zAH.last at c;have i:=(zES h.group).2;refine⟨fun l b=>?_,?_⟩
 ·unfold zAH.rows at b;rcases List.mem_cons.1 b with rfl|b
  ·unfold zEo;simp only[List.length_cons,List.length_append];have d:=zAg (n:=M.number) (by omega);have f:=zBK M.term;have g:=zER M.group (by omega);omega
  ·rcases List.mem_cons.1 b with rfl|b
   ·exact Nat.le_trans (zDJ _ _) (by decide)
   ·exact zCq _ _ h.ents (by omega) l b
 ·unfold zAH.rows;simp[zCe]
theorem zDH (h:zAj w w1 j d pre D M F)(hm:M.entries.length≤1000000) :
  Calls prog 80 #[.pointer (some ⟨j,0,none⟩)] w1 (zCK w w1 j d pre M F (zAT D (nm pre) M)):=by
 obtain⟨i0,hi,cd,cf,cg⟩:=info_parts (show(prog.info? 22).map (fun i=>(i.zero,i.size,i.bytes))=some (some (.slice none 0 0),1,24) by kernel_rfl);have cq:=h.psz;have N:(zCS pre).size=pre.size+4:=zFY pre;have aj:=h.okM;have bm:=aj.last;have ci:=zAl.1 aj.now;have cc:=aj.vote;have ad:=zh (zE6 aj);have S:=zh (zDk (c:=65800) M.rows (zE6 aj).1);have bh:=zh aj.ents;have bM:=zh (jfirst_calls (h.next (zAU w1)));have bS:=zh (fun W=>zGf W M.now M.vote (by omega) (by omega));obtain⟨own,gv,dv,ev,vs,hJ,hS,hn,hl⟩:=id h;have HJ:=zh hJ;have c0:=hJ.c 0 rfl;have c3:=hJ.c 3 rfl;have c4:=hJ.c 4 rfl;have c5:=hJ.c 5 rfl;have c6:=hJ.c 6 rfl;have c8:=hJ.c 8 rfl;obtain⟨ct,cm,bl⟩:=hJ.row.shape;rw[bl]at c8;have bL:=zh bl;have H:=zh h;unfold zAH.last at bm;clear h hJ hS hn hl aj bl;generalize bz:M.entries.length=n at *;have bg:=zh bz;generalize aW:M.number=b at *;have bv:=zh aW;clear bz aW
 go_enter func80,ntmps80
 go_wp2_with fail;refine ost (fun w':World=>w'.cell? ⟨j,5,none⟩=some (.int .i64 M.now)∧w'.cell? ⟨j,6,none⟩=some (.int .i64 M.vote)) 13 (⟨c5,c6⟩) fun m=>?_;refine Pl [0,2,3,4,5,6,7,8,9] ?_
 iterate 9 (refine Pc rfl ?_;simp only[uZ])
 refine Pn ?_;refine oon 1 rfl fun K q=>?_;go_wp2_with fail;refine bM.o.mono ?_;rintro e w3 ⟨u1,rfl,bo,bB,p⟩;have aX:=zh ((zAU w1).trans p);have bN:=zh (And.intro (zAI m.1 p) (zAI m.2 p));have bs:=zh (And.intro bo (show ∀x,u1.ownBlock=some x→w1.heap.size≤x from bB));obtain⟨p1,q1,rfl,-⟩:=zAN bo;clear bo bB p;go_wp2_with fail;refine q.o _ _ (bN.o) fun m=>?_;clear q
 try simp only[uZ]
 refine oon 10 rfl fun K q=>?_;go_wp2_with fail;refine(bS.o w3).mono ?_;rintro e w4 ⟨u2,rfl,bp,bC,ay⟩;have bH:=zh (aX.o.trans (ay.mono aX.o.size));have bO:=zh (And.intro (zAI m.1 ay) (zAI m.2 ay));have bb:=zh (And.intro (zCM bs.o.1 ay) (And.intro bp (show ∀x,u2.ownBlock=some x→w1.heap.size≤x from fun x s=>Nat.le_trans aX.o.size (bC x s))));obtain⟨p2,q2,rfl,-⟩:=zAN bp;clear bp bC ay;go_wp2_with fail;refine q.o _ _ (bO.o) fun m=>?_;clear q
 try simp only[uZ]
 refine oon 11 rfl fun K q=>?_;have bP:=zh (And.intro (zBX m.1 (.cells #[.slice p1 (zEo b M.term M.group).length q1,.slice p2 (zCV M.now M.vote).length q2] 22)) (zBX m.2 (.cells #[.slice p1 (zEo b M.term M.group).length q1,.slice p2 (zCV M.now M.vote).length q2] 22)));go_wp2_with fail;refine q.o _ _ (bP.o) fun m=>?_;clear q
 try simp only[uZ]
 refine otk 12 (v:=?v1x12) rfl ?_;simp only[uZ];refine odn ?_;have aH:=zEl.two bH.o bb.o.1 bs.o.2 bb.o.2.1 bb.o.2.2;have bR:=zW ([zEo b M.term M.group,zCV M.now M.vote]++zAx b M.entries=M.rows) (by rw[←bv.o];rfl);generalize bW:w4.alloc (.cells #[.slice p1 (zEo b M.term M.group).length q1,.slice p2 (zCV M.now M.vote).length q2] 22)=W0 at *;have bI:=zh aH;have c8:=zAI c8 aH.bel;clear aH bW;go_wp2_with fail
 go_loopw [3,29] (fun x i wr=>∃(k:Nat) (Q:List Value) (xv:Value),k≤n∧i=.int .i64 k∧xv=x∧zEl w1 wr xv Q ([zEo b M.term M.group,zCV M.now M.vote]++zAx b (M.entries.take k))) (fun _ i _=>n-(intOf i).toNat)
 case atStart=>exact⟨0,_,_,Nat.zero_le _,rfl,rfl,bI.o⟩
 case round =>
  obtain⟨k,Q,xv,hk,rfl,rfl,t⟩:=hrel
  by_cases ca:k<n
  ·have aT:k<M.entries.length:=by rw[bg.o];exact ca
   obtain⟨g,c,v,aA,-,aQ,k0,k1,k2,k3⟩:=HJ.o.ent (List.getElem?_eq_getElem aT);rw[bL.o]at aA;simp only[Value.slice.injEq]at aA;obtain⟨rfl,-,rfl⟩:=aA;have bJ:=zh (zFJ (n:=b) aT);have aS:=bh.o _ (List.getElem_mem aT);have hf:=zBN aS;generalize M.entries[k]=e at *;have V:=aQ.has (by omega) (by omega);obtain⟨pe,ce,L,-⟩:=zAN aQ.data;obtain⟨pn,cn,P,-⟩:=zAw aQ.nodes;obtain⟨v1,v2⟩:=v;have bU:v1=.slice pe e.data.length ce:=L;have bV:v2=.slice pn e.nodes.length cn:=P;subst bU;subst bV;have k0:=zAI k0 t.bel;have k1:=zAI k1 t.bel;have k2:wr.cell? ⟨g,k*4+2,none⟩=some (.slice pe e.data.length ce):=zAI k2 t.bel;have k3:wr.cell? ⟨g,k*4+3,none⟩=some (.slice pn e.nodes.length cn):=zAI k3 t.bel;have bT:=zAI c0 t.bel;have ch:=zh V;have cl:=zh aS;have ap:=zh t;have co:=V.dl;have cp:=V.nl;have cr:IntKind.i64.wrap ((b:Int)+1)=(b:Int)+1:=IntWalk.i64_in _ (by omega);have cs:IntKind.i64.wrap ((b:Int)+1+(k:Int))=(b:Int)+1+(k:Int):=IntWalk.i64_in _ (by omega);have bK:=zh (fun W (hb:Below w1.heap.size w1 W)=>show Calls prog 100 #[.int .i64 ((b:Int)+1+(k:Int)),.agg #[.int .i64 e.term,.int .i64 e.kind,.slice pe e.data.length ce,.slice pn e.nodes.length cn]] W (zBf W (zEt (b+k+1) e)) by
    have:=entRec_calls (b+k+1) (by omega) (V.below hb) aS;rwa[show((b+k+1:Nat):Int)=(b:Int)+1+(k:Int) by omega]at this)
   have bt:=zW (([zEo b M.term M.group,zCV M.now M.vote]++zAx b (M.entries.take k)).length=k+2) (by rw[List.length_append,zCe,List.length_take,bg.o,Nat.min_eq_left (by omega)];simp;omega);clear aT aQ L P V aS hf t;go_wp2_with fail;refine ost (fun w':World=>w'.cell? ⟨j,0,none⟩=some (.int .i64 (b:Int))∧w'.heap[wr.heap.size]?=some (.cells #[.int .i64 e.term,.int .i64 e.kind,.slice pe e.data.length ce,.slice pn e.nodes.length cn] 50 (0,0))) 14 (⟨zBX bT _,zAJ wr _⟩) fun m=>?_;have aL:=zW (Below wr.heap.size wr (wr.alloc (.cells #[.int .i64 e.term,.int .i64 e.kind,.slice pe e.data.length ce,.slice pn e.nodes.length cn] 50)).drew) ((zAC wr _).trans ⟨rfl,rfl,rfl,by simp,fun _ _=>rfl⟩);generalize (wr.alloc (.cells #[.int .i64 e.term,.int .i64 e.kind,.slice pe e.data.length ce,.slice pn e.nodes.length cn] 50)).drew=W1 at *;refine Pl [0,1,2,3,4,5,6,7,8] ?_
   iterate 9 (refine Pc rfl ?_;simp only[uZ])
   refine Pn ?_;refine otc 9 (v:=.agg #[.int .i64 e.term,.int .i64 e.kind,.slice pe e.data.length ce,.slice pn e.nodes.length cn]) rfl (fun W aP=>by have q0:=zAd aP.2;have q1:=zAn aP.2;have q2:=zAo aP.2;have q3:=zBI aP.2;go_simp;try with_reducible rfl) ?_;simp only[uZ];refine oon 10 rfl fun K q=>?_;go_wp2_with fail;refine(bK.o W1 (ap.o.bel.trans (aL.o.mono ap.o.bel.size))).mono ?_;rintro r w9 ⟨y,rfl,hy,bG,aR⟩;have bq:=zh (aL.o.trans (aR.mono aL.o.size));have bQ:=zh (And.intro (zAI m.1 aR) ((aR.block _ (zAB m.2)).trans m.2));have HY:=zh (And.intro hy (show ∀z,y.ownBlock=some z→wr.heap.size≤z from fun z hz=>Nat.le_trans aL.o.size (bG z hz)));obtain⟨py,cy,rfl,-⟩:=zAN hy;clear hy bG aR;generalize bF:(zEt (b+k+1) e).length=yl at *;have ck:=zh bF;clear bF;go_wp2_with fail;refine q.o _ _ (bQ.o) fun m=>?_;clear q
   try simp only[uZ]
   refine oon 11 rfl fun K q=>?_;have bu:=zh (And.intro (zBX m.1 (.cells #[.slice py yl cy] 22)) ((zDU _ (.cells #[.slice py yl cy] 22) (zAB m.2)).trans m.2));go_wp2_with fail;refine q.o _ _ (bu.o) fun m=>?_;clear q
   try simp only[uZ]
   refine oon 12 rfl fun K q=>?_;have A:=(ap.o.next bq.o).rows.row;rw[bt.o]at A;have bx:=A.keep (w':=w9.alloc (.cells #[.slice py yl cy] 22)) (fun z hz=>(zAv w9 _).block z (OwnR.lt A hz));have bE:=zDn w9 (.slice py yl cy) 22 (0,0);refine zAq (.tmp 34) (.tmp 45) 108 rfl 22 i0 (.slice none 0 0) 1 24 underlying108 hi cd cf cg rfl (by decide) xv (k+2) _ rfl bx (.slice (some ⟨w9.heap.size,0,none⟩) 1 1) 1 _ rfl bE (by simp[Value.oneCell']) (by unfold maxLen;omega) (by omega) ?_;intro v3 w3 ak B aG;have HE:=zh (zEl.push ap.o bq.o HY.o.1 HY.o.2 (by rw[bt.o];exact ak) B aG);have az:∀x,xv.ownBlock=some x→w1.heap.size≤x∧x<wr.heap.size:=fun x s=>⟨ap.o.new.1 x s,OwnR.lt ap.o.rows.row s⟩;have bY:w3.cell? ⟨j,0,none⟩=some (.int .i64 (b:Int)):=(World.cell?_of_block (a:=⟨j,0,none⟩) (B.block j (World.block_lt_of_cell? _ ⟨j,0,none⟩ m.1) fun e=>by have h1:=(az j e.symm).1;have h2:=World.block_lt_of_cell? w1 ⟨j,0,none⟩ c0;have h3:j<w1.heap.size:=h2;omega)).trans m.1;have bX:w3.heap[wr.heap.size]?=some (.cells #[.int .i64 e.term,.int .i64 e.kind,.slice pe e.data.length ce,.slice pn e.nodes.length cn] 50 (0,0)):=(B.block _ (zAB m.2) fun e=>by have:=(az _ e.symm).2;omega).trans m.2;obtain⟨p3,q3,rfl⟩:=OwnR.shape ak;clear A bx bE ak B aG az;refine q.o _ _ ⟨bY,bX⟩ fun m=>?_;clear q
   try simp only[uZ]
   refine otk 13 (v:=?v5x13) rfl ?_;simp only[uZ];refine odn ?_;go_wp2_with fail;go_roundw
   case rel=>exact⟨k+1,Q++[.slice py yl cy],_,by omega,by go_num,rfl,by rw[bJ.o,←List.append_assoc];exact HE.o⟩
   case measure=>simp[intOf];omega
  ·have bZ:k=n:=by omega
   have bA:M.entries.take k=M.entries:=List.take_of_length_le (by rw[bg.o];omega);rw[bA,bR.o]at t;have A:=t.rows.row;rw[ad.o.2]at A;obtain⟨X,U,rfl⟩:=A.shape;have R:=zh (FR_more H.o t);have br:=zh t.rows;have ae:=zh (H.o.same t.bel);have ao:=zh (jou_read R.o (zBV (zCS pre)) (by rw[zCP,N];omega));rw[zEi,zBy]at ao;have c3:=R.o.jc.1;have c4:=R.o.jc.2.1;have cb:(zBV (zCS pre)).size≤9223372036854775807:=by rw[zCP,N];omega
   have cj:=zW (Same (FR F (.slice X (n+2) U) Q) wr wr) fun _ _=>rfl;clear t A bA bZ c0 c5 c6 c8;cases hg:Sat.get (zAF (zAm (nm pre))) D.files with
   | none =>
    have h0:D.save0 (zAm (nm pre))=(D,0):=by unfold zAA.save0;rw[hg];rfl
    have bc:=zh (fun D1 L (h1:D.append (zAF (zAm (nm pre))) (zAL M.rows)=(D1,L)) (he:L≠0)=>(save1_app h0 h1 he:zAT D (nm pre) M=_));have be:=zh (fun D1 D2 P (h1:D.append (zAF (zAm (nm pre))) (zAL M.rows)=(D1,0)) (h2:D1.sync [zAF (zAm (nm pre))]=(D2,P)) (he:P≠0)=>(save1_syn h0 h1 h2 he:zAT D (nm pre) M=_));have bd:=zh (fun D1 D2 (h1:D.append (zAF (zAm (nm pre))) (zAL M.rows)=(D1,0)) (h2:D1.sync [zAF (zAm (nm pre))]=(D2,0))=>(save1_ren h0 h1 h2:zAT D (nm pre) M=_));have bD:zDa (none:Option zAS)=7:=rfl;rw[hg,bD]at ao;clear hg h0 bD;go_wp2_with fail;refine ao.o.mono ?_;rintro e w3 ⟨v3,rfl,-,-,p⟩;have am:=zh (R.o.next p);have an:=zW (Same (FR F (.slice X (n+2) U) Q) wr w3) (R.o.same p);clear p c3 c4;have c3:=am.o.jc.1;cases af:zAA.append D (zAF (zAm (nm pre))) (zAL M.rows)with
    | mk D1 L =>
     have bf:=zh (fun W (hb:Below (w3).heap.size (w3) W) x (s:zBF W x [zAL M.rows])=>show Calls prog 15 #[.pointer (some ⟨d,0,none⟩),.string (zBV (zCS pre)),x] W fun e w'=>e=.returned (.int .i64 (L:Int))∧zAj w w' j d pre D1 M (FR F (.slice X (n+2) U) Q)∧Same (FR F (.slice X (n+2) U) Q) (w3) w'∧w'.heap[j]?=(w3).heap[j]? by
      have:=jou_append am.o hb (zBV (zCS pre)) x [zAL M.rows] s (by simp) (by simp;have:=S.o;have:=ad.o.2;omega) (by rw[zCP,N];omega);rw[show [zAL M.rows].flatten=zAL M.rows by simp,zEi,zBy,af]at this;exact this)
     have av:=zh (fun W (hb:Below (w3).heap.size (w3) W)=>zEx (zBa.at ((rowsIn_keep br.o fun x s=>an.o x (.inr s)).below hb)) (by omega) (fun l hl=>Nat.le_trans (ad.o.1 l hl) (by decide)) (by have:=S.o;have:=ad.o.2;omega));have Y:=zh af;clear af;go_wp2_with fail;refine ost (fun w':World=>w'.cell? ⟨j,3,none⟩=some (.pointer (some ⟨d,0,none⟩))) 11 (c3) fun m=>?_;refine Pl [0,1,2,3,4,5,6] ?_
     iterate 7 (refine Pc rfl ?_;simp only[uZ])
     refine Pn ?_;refine oon 7 rfl fun K q=>?_;have Z:=zh (zAU (w3));go_wp2_with fail;refine(av.o _ Z.o).mono ?_;rintro e wf ⟨v,rfl,hv,-,ag⟩;have aa:=zh (Z.o.trans ag);have bj:=zh (zAI m ag);have HV:=zh (zAk.has hv);obtain⟨pv,cv,rfl,-⟩:=zAN hv;clear hv ag av;go_wp2_with fail;refine q.o _ _ (bj.o) fun m=>?_;clear q
     try simp only[uZ]
     refine oon 8 rfl fun K q=>?_;have bi:=zh (zBX m (.cells #[.slice pv (zAL M.rows).length cv] 22));go_wp2_with fail;refine q.o _ _ (bi.o) fun m=>?_;clear q
     try simp only[uZ]
     refine oon 9 rfl fun K q=>?_;have au:=zh (bf.o _ (aa.o.trans ((zAC wf (.cells #[.slice pv (zAL M.rows).length cv] 22)).mono aa.o.size)) _ (zCN HV.o 22 (0,0) wf.heap.size 1 rfl (Nat.le_refl _)));go_wp2_with fail;refine au.o.mono ?_;rintro e wa ⟨rfl,aE,aJ,aB⟩;have ar:=zh aE;have ab:=zh (an.o.trans aJ);have aw:=zh ((World.cell?_of_block (a:=⟨j,3,none⟩) aB).trans c3);clear aE aJ aB au;go_wp2_with fail;refine q.o _ _ (aw.o) fun m=>?_;clear q
     try simp only[uZ]
     refine otk 10 (v:=?v13x10) rfl ?_;simp only[uZ];refine odn ?_;clear HV aa Z;have c3:wa.cell? ⟨j,3,none⟩=some (.pointer (some ⟨d,0,none⟩)):=aw.o
     by_cases ah:L=0
     ·subst ah;cases I:D1.sync [zAF (zAm (nm pre))]with
      | mk D2 P =>
       have J:=jou_sync ar.o (zBV (zCS pre)) (by rw[zCP,N];omega);rw[zEi,zBy,I]at J;have T:=zh J;clear J
       by_cases ai:P=0
       ·subst ai;cases al:D2.rename (zAF (zAm (nm pre))) (zAm (nm pre))with
        | mk D3 e3 =>
         have O:=zW (zAT D (nm pre) M=(D3,e3)) ((bd.o D1 D2 Y.o I).trans al);have ax:=zh (fun W (h:zAj w W j d pre D2 M (FR F (.slice X (n+2) U) Q))=>show Calls prog 160 #[.pointer (some ⟨d,0,none⟩),.string (zBV (zCS pre)),.string (zCS pre)] W fun e w'=>e=.returned (.int .i64 (e3:Int))∧zAj w w' j d pre D3 M (FR F (.slice X (n+2) U) Q)∧Same (FR F (.slice X (n+2) U) Q) W w'∧w'.heap[j]?=W.heap[j]? by
          have:=jou_rename h (zBV (zCS pre)) (zCS pre) (by rw[zCP,N];omega) (by rw[N];omega);rw[zEi,zBy,al]at this;exact this)
         clear I al;go_wp2_with fail;refine T.o.mono ?_;rintro e wb ⟨rfl,E,G,aC⟩;have ac:=zh (ab.o.trans G);have aO:wb.cell? ⟨j,3,none⟩=some (.pointer (some ⟨d,0,none⟩)):=(World.cell?_of_block (a:=⟨j,3,none⟩) aC).trans c3;have C:=zh (ax.o wb E);clear E G aC T ax;go_wp2_with fail;refine C.o.mono ?_;rintro e wc ⟨rfl,aF,aK,-⟩;have aZ:=zh aF;have ba:=zh (ac.o.trans aK);clear aF aK C;have HE:=zW (zCK w w1 j d pre M F (zAT D (nm pre) M) (.returned (.int .i64 (e3:Int))) _) (⟨by rw[O.o],by rw[O.o];exact aZ.o.less fun _ h=>.inl h,fun x s=>(ba.o x (.inl s)).trans (ae.o x s)⟩);go_wp2_with fail;go_ret;exact HE.o
       ·have O:=zW (zAT D (nm pre) M=(D2,P)) (be.o D1 D2 P Y.o I ai);have aU:((P:Int) != 0)=true:=by simp;omega
        clear I ai;go_wp2_with fail;refine T.o.mono ?_;rintro e wb ⟨rfl,E,G,-⟩;have aY:=zh E;have ac:=zh (ab.o.trans G);clear E G T;have HE:=zW (zCK w w1 j d pre M F (zAT D (nm pre) M) (.returned (.int .i64 (P:Int))) _) (⟨by rw[O.o],by rw[O.o];exact aY.o.less fun _ h=>.inl h,fun x s=>(ac.o x (.inl s)).trans (ae.o x s)⟩);go_wp2_with fail;go_ret;exact HE.o
     ·have O:=zW (zAT D (nm pre) M=(D1,L)) (bc.o D1 L Y.o ah);have aU:((L:Int) != 0)=true:=by simp;omega
      clear ah;have HE:=zW (zCK w w1 j d pre M F (zAT D (nm pre) M) (.returned (.int .i64 (L:Int))) _) (⟨by rw[O.o],by rw[O.o];exact ar.o.less fun _ h=>.inl h,fun x s=>(ab.o x (.inl s)).trans (ae.o x s)⟩);go_wp2_with fail;go_ret;exact HE.o
   | some f =>
    cases aV:D.remove [zAF (zAm (nm pre))]with
    | mk D0 e0 =>
     have aq:D.save0 (zAm (nm pre))=(D0,e0):=by unfold zAA.save0;rw[hg];exact aV
     have bw:=zh (fun W (h:zAj w W j d pre D M (FR F (.slice X (n+2) U) Q))=>show Calls prog 76 #[.pointer (some ⟨d,0,none⟩),.slice (some ⟨W.heap.size,0,none⟩) 1 1] (W.alloc (.cells #[.string (zBV (zCS pre))] 9)) fun e w'=>e=.returned (.int .i64 (e0:Int))∧zAj w w' j d pre D0 M (FR F (.slice X (n+2) U) Q)∧Same (FR F (.slice X (n+2) U) Q) W w'∧w'.heap[j]?=W.heap[j]? by
      have:=jou_remove h (zBV (zCS pre)) cb;rw[zEi,zBy,aV]at this;exact this)
     have bn:zDa (some f)=0:=rfl;rw[hg,bn]at ao
     by_cases bk:e0=0
     ·subst bk;have bc:=zh (fun D1 L (h1:D0.append (zAF (zAm (nm pre))) (zAL M.rows)=(D1,L)) (he:L≠0)=>(save1_app aq h1 he:zAT D (nm pre) M=_));have be:=zh (fun D1 D2 P (h1:D0.append (zAF (zAm (nm pre))) (zAL M.rows)=(D1,0)) (h2:D1.sync [zAF (zAm (nm pre))]=(D2,P)) (he:P≠0)=>(save1_syn aq h1 h2 he:zAT D (nm pre) M=_));have bd:=zh (fun D1 D2 (h1:D0.append (zAF (zAm (nm pre))) (zAL M.rows)=(D1,0)) (h2:D1.sync [zAF (zAm (nm pre))]=(D2,0))=>(save1_ren aq h1 h2:zAT D (nm pre) M=_));clear hg aV aq bn;go_wp2_with fail;refine ao.o.mono ?_;rintro e w3 ⟨v3,rfl,-,-,p⟩;have am:=zh (R.o.next p);have an:=zW (Same (FR F (.slice X (n+2) U) Q) wr w3) (R.o.same p);have aO:=zAI c3 p;have C:=zh (bw.o w3 am.o);clear p;go_wp2_with fail;refine C.o.mono ?_;rintro e w4 ⟨rfl,aD,aI,-⟩;have aM:=zh aD;have aN:=zh (an.o.trans aI);clear aD aI C c3 c4 aO;have c3:=aM.o.jc.1;cases af:zAA.append D0 (zAF (zAm (nm pre))) (zAL M.rows)with
      | mk D1 L =>
       have bf:=zh (fun W (hb:Below (w4).heap.size (w4) W) x (s:zBF W x [zAL M.rows])=>show Calls prog 15 #[.pointer (some ⟨d,0,none⟩),.string (zBV (zCS pre)),x] W fun e w'=>e=.returned (.int .i64 (L:Int))∧zAj w w' j d pre D1 M (FR F (.slice X (n+2) U) Q)∧Same (FR F (.slice X (n+2) U) Q) (w4) w'∧w'.heap[j]?=(w4).heap[j]? by
        have:=jou_append aM.o hb (zBV (zCS pre)) x [zAL M.rows] s (by simp) (by simp;have:=S.o;have:=ad.o.2;omega) (by rw[zCP,N];omega);rw[show [zAL M.rows].flatten=zAL M.rows by simp,zEi,zBy,af]at this;exact this)
       have av:=zh (fun W (hb:Below (w4).heap.size (w4) W)=>zEx (zBa.at ((rowsIn_keep br.o fun x s=>aN.o x (.inr s)).below hb)) (by omega) (fun l hl=>Nat.le_trans (ad.o.1 l hl) (by decide)) (by have:=S.o;have:=ad.o.2;omega));have Y:=zh af;clear af;go_wp2_with fail;refine ost (fun w':World=>w'.cell? ⟨j,3,none⟩=some (.pointer (some ⟨d,0,none⟩))) 11 (c3) fun m=>?_;refine Pl [0,1,2,3,4,5,6] ?_
       iterate 7 (refine Pc rfl ?_;simp only[uZ])
       refine Pn ?_;refine oon 7 rfl fun K q=>?_;have Z:=zh (zAU (w4));go_wp2_with fail;refine(av.o _ Z.o).mono ?_;rintro e wf ⟨v,rfl,hv,-,ag⟩;have aa:=zh (Z.o.trans ag);have bj:=zh (zAI m ag);have HV:=zh (zAk.has hv);obtain⟨pv,cv,rfl,-⟩:=zAN hv;clear hv ag av;go_wp2_with fail;refine q.o _ _ (bj.o) fun m=>?_;clear q
       try simp only[uZ]
       refine oon 8 rfl fun K q=>?_;have bi:=zh (zBX m (.cells #[.slice pv (zAL M.rows).length cv] 22));go_wp2_with fail;refine q.o _ _ (bi.o) fun m=>?_;clear q
       try simp only[uZ]
       refine oon 9 rfl fun K q=>?_;have au:=zh (bf.o _ (aa.o.trans ((zAC wf (.cells #[.slice pv (zAL M.rows).length cv] 22)).mono aa.o.size)) _ (zCN HV.o 22 (0,0) wf.heap.size 1 rfl (Nat.le_refl _)));go_wp2_with fail;refine au.o.mono ?_;rintro e wa ⟨rfl,aE,aJ,aB⟩;have ar:=zh aE;have ab:=zh (aN.o.trans aJ);have aw:=zh ((World.cell?_of_block (a:=⟨j,3,none⟩) aB).trans c3);clear aE aJ aB au;go_wp2_with fail;refine q.o _ _ (aw.o) fun m=>?_;clear q
       try simp only[uZ]
       refine otk 10 (v:=?v14x10) rfl ?_;simp only[uZ];refine odn ?_;clear HV aa Z;have c3:wa.cell? ⟨j,3,none⟩=some (.pointer (some ⟨d,0,none⟩)):=aw.o
       by_cases ah:L=0
       ·subst ah;cases I:D1.sync [zAF (zAm (nm pre))]with
        | mk D2 P =>
         have J:=jou_sync ar.o (zBV (zCS pre)) (by rw[zCP,N];omega);rw[zEi,zBy,I]at J;have T:=zh J;clear J
         by_cases ai:P=0
         ·subst ai;cases al:D2.rename (zAF (zAm (nm pre))) (zAm (nm pre))with
          | mk D3 e3 =>
           have O:=zW (zAT D (nm pre) M=(D3,e3)) ((bd.o D1 D2 Y.o I).trans al);have ax:=zh (fun W (h:zAj w W j d pre D2 M (FR F (.slice X (n+2) U) Q))=>show Calls prog 160 #[.pointer (some ⟨d,0,none⟩),.string (zBV (zCS pre)),.string (zCS pre)] W fun e w'=>e=.returned (.int .i64 (e3:Int))∧zAj w w' j d pre D3 M (FR F (.slice X (n+2) U) Q)∧Same (FR F (.slice X (n+2) U) Q) W w'∧w'.heap[j]?=W.heap[j]? by
            have:=jou_rename h (zBV (zCS pre)) (zCS pre) (by rw[zCP,N];omega) (by rw[N];omega);rw[zEi,zBy,al]at this;exact this)
           clear I al;go_wp2_with fail;refine T.o.mono ?_;rintro e wb ⟨rfl,E,G,aC⟩;have ac:=zh (ab.o.trans G);have aO:wb.cell? ⟨j,3,none⟩=some (.pointer (some ⟨d,0,none⟩)):=(World.cell?_of_block (a:=⟨j,3,none⟩) aC).trans c3;have C:=zh (ax.o wb E);clear E G aC T ax;go_wp2_with fail;refine C.o.mono ?_;rintro e wc ⟨rfl,aF,aK,-⟩;have aZ:=zh aF;have ba:=zh (ac.o.trans aK);clear aF aK C;have HE:=zW (zCK w w1 j d pre M F (zAT D (nm pre) M) (.returned (.int .i64 (e3:Int))) _) (⟨by rw[O.o],by rw[O.o];exact aZ.o.less fun _ h=>.inl h,fun x s=>(ba.o x (.inl s)).trans (ae.o x s)⟩);go_wp2_with fail;go_ret;exact HE.o
         ·have O:=zW (zAT D (nm pre) M=(D2,P)) (be.o D1 D2 P Y.o I ai);have aU:((P:Int) != 0)=true:=by simp;omega
          clear I ai;go_wp2_with fail;refine T.o.mono ?_;rintro e wb ⟨rfl,E,G,-⟩;have aY:=zh E;have ac:=zh (ab.o.trans G);clear E G T;have HE:=zW (zCK w w1 j d pre M F (zAT D (nm pre) M) (.returned (.int .i64 (P:Int))) _) (⟨by rw[O.o],by rw[O.o];exact aY.o.less fun _ h=>.inl h,fun x s=>(ac.o x (.inl s)).trans (ae.o x s)⟩);go_wp2_with fail;go_ret;exact HE.o
       ·have O:=zW (zAT D (nm pre) M=(D1,L)) (bc.o D1 L Y.o ah);have aU:((L:Int) != 0)=true:=by simp;omega
        clear ah;have HE:=zW (zCK w w1 j d pre M F (zAT D (nm pre) M) (.returned (.int .i64 (L:Int))) _) (⟨by rw[O.o],by rw[O.o];exact ar.o.less fun _ h=>.inl h,fun x s=>(ab.o x (.inl s)).trans (ae.o x s)⟩);go_wp2_with fail;go_ret;exact HE.o
     ·have O:=zW (zAT D (nm pre) M=(D0,e0)) (save1_rem aq bk);have aU:((e0:Int) != 0)=true:=by simp;omega
      clear hg aV aq bn bk;go_wp2_with fail;refine ao.o.mono ?_;rintro e w3 ⟨v3,rfl,-,-,p⟩;have am:=zh (R.o.next p);have an:=zW (Same (FR F (.slice X (n+2) U) Q) wr w3) (R.o.same p);have aO:=zAI c3 p;have C:=zh (bw.o w3 am.o);clear p;go_wp2_with fail;refine C.o.mono ?_;rintro e w4 ⟨rfl,aD,aI,-⟩;have aM:=zh aD;have aN:=zh (an.o.trans aI);clear aD aI C;have HE:=zW (zCK w w1 j d pre M F (zAT D (nm pre) M) (.returned (.int .i64 (e0:Int))) _) (⟨by rw[O.o],by rw[O.o];exact aM.o.less fun _ h=>.inl h,fun x s=>(aN.o x (.inl s)).trans (ae.o x s)⟩);go_wp2_with fail;go_ret;exact HE.o
end
end Go.Proofs.YtapfnehdgailmaaGreat
