/- What the program's functions and the document's do, and plain laws, for PJournalTwice. -/
import Derived.Deep.Fields
import Derived.Deep.Strs
import Derived.Sort.Walk0
import Derived.Test.YtapfnehdgailmaaGreatKA
import Derived.Test.YtapfnehdgailmaaGreatKC
import Derived.Test.YtapfnehdgailmaaGreatKD
import Derived.Test.YtapfnehdgailmaaGreatKE
import Derived.Test.YtapfnehdgailmaaGreatKF
import Derived.Test.YtapfnehdgailmaaGreatKG
import Derived.Test.YtapfnehdgailmaaGreatKI
open Go.Proofs.Tryz
set_option maxRecDepth 100000
set_option maxHeartbeats 64000000
namespace Go.Proofs.YtapfnehdgailmaaGreat
open Go.RowKit Go.Sat Go.Maps
def entW (e:Ent):Nat:=5+e.data.length+e.nodes.length
def zCa (l:List Ent):Nat:=(l.map entW).sum
theorem zGD (a b:List Ent):zCa (a++b)=zCa a+zCa b:=by unfold zCa;rw[List.map_append,List.sum_append]
theorem entsW_take (a:List Ent)(k:Nat):zCa (a.take k)≤zCa a:=by
 have h:=zGD (a.take k) (a.drop k);rw[List.take_append_drop]at h;omega
theorem entsW_drop (a:List Ent)(k:Nat):zCa (a.drop k)≤zCa a:=by
 have h:=zGD (a.take k) (a.drop k);rw[List.take_append_drop]at h;omega
theorem recs_ents:∀(n:Nat) (es:List Ent),(∀e∈es,zA1 e=true)→n+es.length≤4611686018427387904→(zAL (zA0 n es)).length≤12*zCa es
 | _,[],_,_=>Nat.zero_le _
 | n,e::r,h,hn=>by
  rw[List.length_cons]at hn;have d:=zEx (n:=n+1) (e:=e) (by omega) (h e (List.mem_cons_self ..));have f:=recs_ents (n+1) r (fun x c=>h x (List.mem_cons_of_mem _ c)) (by omega);have b:zCa (e::r)=entW e+zCa r:=by unfold zCa;rw[List.map_cons,List.sum_cons]
  unfold zA0;rw[zBB,List.length_append,zAf,b];unfold entW;omega
theorem rows_le {M:zAJ}(h:M.OK):(zAL M.rows).length≤150+12*zCa M.entries:=by
 have f:=h.last;unfold zAJ.last at f;have g:=recs_ents M.number M.entries h.ents (by omega);have i:=zDN M.now M.vote;have j:(zEp M.number M.term M.group).length≤91:=by
  have a:=(zDt h.group).2;have b:=zET M.group (by omega);have c:=zBI M.term;have d:=zAg (n:=M.number) (by omega);unfold zEp;simp only[List.length_cons,List.length_append];omega
 unfold zAJ.rows;rw[zBB,zBB,List.length_append,List.length_append,zAf,zAf];omega
theorem rebase_w (M:zAJ)(s:zDE):zCa (M.rebase s).entries≤zCa M.entries:=by
 show zCa (if M.number<s.number∧M.termAt s.number=some s.term then M.entries.drop (s.number-M.number)else [])≤_
 split
 ·exact entsW_drop _ _
 ·exact Nat.zero_le _
theorem rec1_num {M M':zAJ}{p:Bs}(h:zBc false M p=some M'):M'.number=M.number:=by
 unfold zBc at h;cases p with
 | nil=>cases h
 | cons k r =>
  dsimp only at h
  repeat' split at h
  all_goals first
   | (cases h;done)
   | (cases h;rfl)
   | (exfalso;simp_all;done)
theorem recGo_num:∀(l:List Bs) {M M':zAJ},zBS M l=some M'→M'.number=M.number
 | [],_,_,h=>by cases h;rfl
 | p::r,M,M',h=>by
  have h:(zBc false M p).bind (fun M'=>zBS M' r)=some M':=h;cases b:zBc false M p with
  | none=>rw[b]at h;cases h
  | some M1 =>
   rw[b]at h;exact(recGo_num r h).trans (rec1_num b)
structure zCZ (g:List Int)(A:Nat)(M:zAJ)(D:zAA):Prop where
 ex:∃ls s M0,D.files=(dJ 1048576 (zAL ls) (zCU s)).files∧(∀l∈ls,l.length≤1048576)∧SnapOK s∧(∀x,s=some x→(zAK x.bytes).length≤100000)∧zCC (zAJ.none0 g) ls=some M0∧zAi s M0 false=some (false,M)∧(zAL ls).length≤150+12*A
 room:D.room=1048576
 ok:M.OK
 ents:zCa M.entries≤A
 alive:M.dead=false
structure AftJ (g:List Int)(A:Nat)(P:zAJ→Prop)(D:zAA):Prop where
 srt:Srt D.files
 room:D.room=1048576
 used:D.used≤2*(150+12*A)+200000
 cnt:D.files.length≤10
 says:∀k,∃M,P M∧zFl g (150+12*A) (crashO k (Sat.get (zAm [97]) D.files)) (crashO k (Sat.get (zBL [97]) D.files)) M
theorem dj_other {room:Nat}{c:Bs}{s:Option Bs}{m:Bs}(d:m≠zAm [97])(g:m≠zBL [97]):Sat.get m (dJ room c s).files=none:=zCh.2 fun p f=>by
 cases s with
 | none =>
  rw[show p=(zAm [97],wh c) by simpa[dJ,snpL]using f];exact d.symm
 | some b =>
  rcases(show p=(zAm [97],wh c)∨p=(zBL [97],wh b) by simpa[dJ,snpL]using f)with rfl|rfl
  ·exact d.symm
  ·exact g.symm
theorem dj_two {room:Nat}{c:Bs}{s:Option Bs}:(dJ room c s).files.length≤2:=by
 cases s
 ·show 1≤2
  decide
 ·exact Nat.le_refl 2
theorem zF9 {room:Nat}{c:Bs}{s:Option zDE}(b:SnapOK s):zCD (Sat.get (zBL [97]) (dJ room c (zCU s)).files)=(0,s):=by
 rw[zGA];cases s with
 | none=>exact zGf zEA
 | some x =>
  obtain⟨q1,q2,d,f⟩:=b x rfl;exact snapOf_bytes q1 q2 d f
theorem last_wh (o:Option Bs):Last (o.map wh):=fun f c=>by
 cases o with
 | none=>cases c
 | some b=>cases c;rfl
theorem files_dj {room:Nat}{D:zAA}{c:Bs}{s:Option Bs}(h:Srt D.files)(f:Sat.get (zAm [97]) D.files=some (wh c))(g:Sat.get (zBL [97]) D.files=s.map wh)(i:∀m,m≠zAm [97]→m≠zBL [97]→Sat.get m D.files=none):D.files=(dJ room c s).files :=
 srt_ext h dj_srt fun m=>by
  by_cases b:m=zAm [97]
  ·rw[b,f,dj_log]
  ·by_cases d:m=zBL [97]
   ·rw[d,g,zGA]
   ·rw[i m b d,dj_other b d]
section
variable {g:List Int} {A c:Nat} {M M':zAJ} {D:zAA}
theorem zCZ.used (h:zCZ g A M D):D.used≤150+12*A+100000:=by
 obtain⟨ls,s,d,c,-,-,b,-,-,f⟩:=h.ex;have:D.used=(dJ 1048576 (zAL ls) (zCU s)).used:=by unfold zAA.used;rw[c]
 rw[this,dj_used];cases s with
 | none=>dsimp only[zCU,Option.map_none];omega
 | some x =>
  have:=b x rfl;dsimp only[zCU,Option.map_some];omega
theorem zCZ.cnt (h:zCZ g A M D):D.files.length≤2:=by
 obtain⟨ls,s,c,b,-⟩:=h.ex;rw[b];exact dj_two
theorem zCZ.srt (h:zCZ g A M D):Srt D.files:=by
 obtain⟨ls,s,c,b,-⟩:=h.ex;rw[b];exact dj_srt
theorem zCZ.more (h:zCZ g A M D)(c:Nat):zCZ g (A+c) M D:=by
 obtain⟨⟨ls,s,i,j,k,l,m,n,o,p⟩,b,d,e,f⟩:=h;exact⟨⟨ls,s,i,j,k,l,m,n,o,by omega⟩,b,d,by omega,f⟩
theorem zCZ.aft (h:zCZ g A M D):AftJ g A (fun N=>N=M) D:=by
 refine⟨h.srt,h.room,by have:=h.used;omega,by have:=h.cnt;omega,fun k=>⟨M,rfl,?_⟩⟩;obtain⟨ls,s,b,j,c,d,-,f,i,-⟩:=h.ex;refine zFl.crash ?_ k;rw[j,dj_log];exact⟨s,b,false,zF9 d,by rw[zGA];exact last_wh _,⟨wh (zAL ls),ls,[],rfl,rfl,(List.append_nil _).symm,c,.inl rfl,f⟩,i,fun e=>by cases e⟩
theorem AftJ.mono {P Q:zAJ→Prop}(h:AftJ g A P D)(c:∀N,P N→Q N):AftJ g A Q D:=⟨h.srt,h.room,h.used,h.cnt,fun k=>by
 obtain⟨N,a,b⟩:=h.says k;exact⟨N,c N a,b⟩⟩
theorem live_lays {rs:List Bs}(h:zCZ g A M D)(B:∀l∈rs,l.length≤1048576)(d:zBS M rs=some M')(W:M'.dead=false)(K:M'.OK)(hc:(zAL rs).length≤12*c)(he:zCa M'.entries≤A+c)(hA:A+c≤6100) :
  ((zBy [97] D M rs M').err=0∧(zBy [97] D M rs M').jou=M'∧zCZ g (A+c) M' (zBy [97] D M rs M').disk) ∨
  ((zBy [97] D M rs M').err=9∧(zBy [97] D M rs M').jou=M.die∧AftJ g (A+c) (fun N=>∃w,zBS M (rs.take w)=some N) (zBy [97] D M rs M').disk):=by
 have aj:=h.used;have af:=h.cnt;have aa:=h.srt;obtain⟨⟨ls,s,P,H,R,h2,S,T,h4,h5⟩,n,ae,ag,ad⟩:=h;obtain⟨hM,hJ,U,V⟩:=joins_is h4;have gl:Sat.get (zAm [97]) D.files=some (wh (zAL ls)):=by rw[H,dj_log]
 have gs:Sat.get (zBL [97]) D.files=(zCU s).map wh:=by rw[H,zGA]
 have so:zCD ((zCU s).map wh)=(0,s):=by rw[←zGA (room:=1048576) (c:=zAL ls)];exact zF9 h2
 -- a journal read from the log and some of the records
 have C:∀w N,zBS M (rs.take w)=some N→∃i,zBS P (rs.take w)=some i∧zAi s i false=some (false,N):=fun w N C=>by
  have p:(zBS P (rs.take w)).map (·.dat M.data)=some N:=by rw[←recGo_dat,←hM,C]
  cases E:zBS P (rs.take w)with
  | none=>rw[E]at p;cases p
  | some i =>
   rw[E]at p;have Q:i.dat M.data=N:=Option.some.inj p;refine⟨i,rfl,?_⟩;rw[hJ i (recGo_num _ E)];cases s with
   | none =>
    have e0:=V rfl;rw[e0,E]at C;rw[Option.some.inj C]
   | some x =>
    show some (false,i.dat x.data)=_
    rw[←U x rfl,Q]
 obtain⟨D',e,q,v,r⟩:=jc_lay (b:=zAL rs) aa n_lo gl;have ai:=v.used;have ah:=v.cnt;have F:Sat.get (zBL [97]) D'.files=(zCU s).map wh:=(v.oth _ lo_sn.symm).trans gs;unfold zBy;rw[q];dsimp only;rcases r with⟨Y,O,y⟩|⟨rfl,y⟩
 ·rw[if_pos Y];refine .inr ⟨?_,rfl,v.srt,v.room.trans n,by dsimp only;omega,by dsimp only;omega,fun k=>?_⟩
  ·rcases O with O|O|O
   ·omega
   ·omega
   ·exact O.1
  ·dsimp only;rw[F,(last_wh (zCU s)).crash k];rcases y with y|y
   ·rw[y,(show Last (some (wh (zAL ls)))from fun f H=>by cases H;rfl).crash k];exact⟨M,⟨0,rfl⟩,s,P,false,so,last_wh _,⟨wh (zAL ls),ls,[],rfl,rfl,(List.append_nil _).symm,R,.inl rfl,T⟩,h4,fun e=>by cases e⟩
   ·rw[y];have hd:(wh (zAL ls)).data=zAL ls:=rfl;have I:(wh (zAL ls)).lasts=(zAL ls).length:=rfl;rw[hd,I];obtain⟨j,hj⟩:∃j,j=(max 0 k).toNat%((zAL rs).length+1):=⟨_,rfl⟩;have Z:j≤(zAL rs).length:=by
     have:=Nat.mod_lt (max 0 k).toNat (show 0<(zAL rs).length+1 by omega);omega
    have X:zAA.crashF k ⟨zAL ls++zAL rs,(zAL ls).length⟩=⟨zAL ls++(zAL rs).take j,(zAL ls).length+j⟩:=by
     have ab:zAA.stays ⟨zAL ls++zAL rs,(zAL ls).length⟩ k=(zAL ls).length+j:=by
      unfold zAA.stays;dsimp only;rw[List.length_append,show(zAL ls).length+(zAL rs).length-(zAL ls).length=(zAL rs).length by omega,←hj]
     unfold zAA.crashF;rw[ab];dsimp only;rw[List.take_append,List.take_of_length_le (by omega),show(zAL ls).length+j-(zAL ls).length=j by omega]
    show ∃N,_∧zFl g _ (some (zAA.crashF k ⟨zAL ls++zAL rs,(zAL ls).length⟩)) _ N
    rw[X];obtain⟨t,ht,ac,-⟩:=cut_recs rs j Z B;generalize wholeN rs j=w at ht;have J:∃N,zBS M (rs.take w)=some N:=by
     have Q:rs=rs.take w++rs.drop w:=(List.take_append_drop _ _).symm;rw[Q,recGo_app]at d;cases E:zBS M (rs.take w)with
     | none=>rw[E]at d;cases d
     | some N=>exact⟨N,rfl⟩
    obtain⟨N,G⟩:=J;obtain⟨i,o,z⟩:=C w N G;refine⟨N,⟨w,G⟩,s,i,false,so,last_wh _,⟨_,ls++rs.take w,t,rfl,?_,?_,fun l I=>?_,ac,?_⟩,z,fun e=>by cases e⟩
    ·show(zAL ls).length+j=(zAL ls++(zAL rs).take j).length
     rw[List.length_append,List.length_take];omega
    ·show zAL ls++(zAL rs).take j=_
     rw[ht,zCj,List.append_assoc]
    ·exact(List.mem_append.1 I).elim (R l) fun h9=>B l (List.mem_of_mem_take h9)
    ·rw[recAll_app T,o]
 ·rw[if_neg (by decide)];have L:rs.take rs.length=rs:=List.take_length;obtain⟨i,o,z⟩:=C rs.length M' (by rw[L];exact d);rw[L]at o;refine .inl ⟨rfl,rfl,⟨ls++rs,s,i,?_,fun l I=>?_,h2,S,?_,z,?_⟩,v.room.trans n,K,he,W⟩
  ·refine files_dj v.srt (by rw[y,zCj];rfl) F fun m m1 m2=>?_;dsimp only;rw[v.oth m m1,H];exact dj_other m1 m2
  ·exact(List.mem_append.1 I).elim (R l) (B l)
  ·rw[recAll_app T,o]
  ·rw[zCj,List.length_append];omega
end
theorem entsB_tk:∀(l:List Ent) (n w:Nat),(zA0 n l).take w=zA0 n (l.take w)
 | [],_,w=>by cases w<;>rfl
 | e::r,n,0=>rfl
 | e::r,n,w+1=>by
  rw[List.take_succ_cons];unfold zA0;rw[List.take_succ_cons,entsB_tk r (n+1) w]
theorem dat_rebase (M:zAJ)(d:Bs)(s:zDE):(M.dat d).rebase s=M.rebase s:=rfl
theorem snp_len2 {s:zDE}(h:s.OK)(i:s.data.length≤6000):(zAK s.bytes).length≤100000:=by
 have b:=zDt h.group;have c:=zET s.group (by omega);have d:=zBI s.term;have hn:=h.number;have f:=zAg (n:=s.number) (by omega);have g:=zAg (n:=s.data.length) (by omega);rw[zAf];unfold zDE.bytes zEk zFB;simp only[List.length_append];omega
section
variable {g:List Int} {A c:Nat} {M:zAJ} {D:zAA}
theorem live_goes {s:zDE}(h:zCZ g A M D)(R:s.OK)(h1:1≤s.number)(hd:s.data.length≤6000)(hn:M.number<s.number)(hA:A≤6100) :
  ((zA5 [97] D M s).err=0∧(zA5 [97] D M s).jou=M.rebase s∧zCZ g A (M.rebase s) (zA5 [97] D M s).disk) ∨
  ((zA5 [97] D M s).err=9∧(zA5 [97] D M s).jou.dead=true∧AftJ g A (fun N=>N=M∨N=M.rebase s) (zA5 [97] D M s).disk):=by
 have aj:=h.used;have ad:=h.cnt;have S:=h.srt;have G:=snp_len2 R hd;obtain⟨⟨ls,I,q,z,Q,h2,aa,U,V,h5⟩,i,E,P,y⟩:=h;obtain⟨W,hJ,ab,ac⟩:=joins_is V;have d:(M.rebase s).OK:=zGY E R;have F:(zAL (M.rebase s).rows).length≤150+12*A:=by
  have a:=rows_le d;have b:=rebase_w M s;omega
 have gl:Sat.get (zAm [97]) D.files=some (wh (zAL ls)):=by rw[z,dj_log]
 have gs:Sat.get (zBL [97]) D.files=(zCU I).map wh:=by rw[z,zGA]
 have so:zCD ((zCU I).map wh)=(0,I):=by rw[←zGA (room:=1048576) (c:=zAL ls)];exact zF9 h2
 have H:SnapOK (some s):=fun x T=>by
  cases T;exact⟨R,h1,by omega,by rw[zAf]at G;omega⟩
 have sn:zCD (some (wh (zAK s.bytes)))=(0,some s):=by
  have:=zF9 (room:=1048576) (c:=zAL ls) H;rw[zGA]at this;exact this
 have C:LogIs g (some (wh (zAL ls))) q:=⟨wh (zAL ls),ls,[],rfl,rfl,(List.append_nil _).symm,Q,.inl rfl,U⟩;have X:M.number=q.number:=by rw[W];rfl
 have B:zAi (some s) q false=some (true,M.rebase s):=by
  have:M.rebase s=q.rebase s:=by rw[W];exact dat_rebase q _ s
  rw[this];unfold zAi;exact if_pos (by omega)
 have r:∀b:Bs,Last (some (wh b)):=fun b f z=>by cases z;rfl
 unfold zA5;rw[save_room (by decide) (by decide)];obtain⟨D1,e1,q1,o,r1⟩:=jc_save1 (n:=zBL [97]) (b:=zAK s.bytes) S n_sn n_shs;rw[show zEk s.number s.term s.group s.data=s.bytes from rfl,q1];dsimp only;have ah:=o.used;have ae:=o.cnt;have t:Sat.get (zAm [97]) D1.files=some (wh (zAL ls)):=(o.oth _ lo_sn lo_shs).trans gl;rcases r1 with⟨L,j,J⟩|⟨rfl,J,k1⟩
 ·rw[if_pos L];refine .inr ⟨?_,rfl,o.srt,o.room.trans i,by dsimp only;omega,by dsimp only;omega,fun k=>⟨M,.inl rfl,?_⟩⟩
  ·rcases j with j|j|j
   ·omega
   ·omega
   ·exact j.1
  ·refine zFl.crash ?_ k;dsimp only;rw[t,J,gs];exact⟨I,q,false,so,last_wh _,C,V,fun e=>by cases e⟩
 ·rw[if_neg (by decide)];unfold zAU;obtain⟨D2,e2,q2,p,r2⟩:=jc_save1 (n:=zAm [97]) (b:=zAL (M.rebase s).rows) o.srt n_lo n_shl;rw[q2];dsimp only;have ai:=p.used;have af:=p.cnt;have ag:=o.room;have v:Sat.get (zBL [97]) D2.files=some (wh (zAK s.bytes)):=(p.oth _ lo_sn.symm sn_shl).trans J;rcases r2 with⟨O,j,g2⟩|⟨rfl,g2,k2⟩
  ·rw[if_pos O];refine .inr ⟨?_,rfl,p.srt,(p.room.trans o.room).trans i,by dsimp only;omega,by dsimp only;omega,fun k=>⟨M.rebase s,.inr rfl,?_⟩⟩
   ·rcases j with j|j|j
    ·omega
    ·omega
    ·exact j.1
   ·refine zFl.crash ?_ k;dsimp only;rw[g2,t,v];exact⟨some s,q,true,sn,r _,C,B,fun _=>⟨d,F⟩⟩
  ·rw[if_neg (by decide)];refine .inl ⟨rfl,rfl,⟨(M.rebase s).rows,some s,{M.rebase s with data:=[],dead:=false},?_,fun l hl=>Nat.le_trans ((zFC d).1 l hl) (by decide),H,fun x T=>?_,?_,joins_again B (by rw[(recAll_keeps U).2];rfl),F⟩,(p.room.trans o.room).trans i,d,Nat.le_trans (rebase_w M s) P,y⟩
   ·refine files_dj p.srt g2 v fun m Y Z=>?_
    by_cases K:m=zAF (zAm [97])
    ·rw[K];exact k2
    ·dsimp only;rw[p.oth m Y K]
     by_cases m4:m=zAF (zBL [97])
     ·rw[m4];exact k1
     ·rw[o.oth m Z m4,z];exact dj_other Y Z
   ·cases T;exact G
   ·exact zGZ (M:=M.rebase s) (N:=zAJ.none0 g) d.last d.term d.group d.now d.vote d.ents rfl rfl rfl
def Ends (g:List Int)(A c:Nat)(M:zAJ)(D:zAA)(M':zAJ)(P:zAJ→Prop)(W:zDW):Prop :=
 (W.err=1∧W=⟨D,M,1⟩)∨(W.err=0∧W.jou=M'∧zCZ g (A+c) M' W.disk)∨(W.err=9∧W.jou.dead=true∧AftJ g (A+c) P W.disk)
theorem live_term (h:zCZ g A M D)(t v:Int)(q:A+5≤6100):Ends g A 5 M D {M with now:=t,vote:=v} (fun N=>N=M∨N={M with now:=t,vote:=v}) (zBQ [97] D M t v):=by
 have f:=h.ok;unfold zBQ;rw[if_neg (by rw[h.alive];simp)];cases j:M.mayVote t v with
 | false=>rw[if_pos rfl];exact .inl ⟨rfl,rfl⟩
 | true =>
  rw[if_neg (by simp)]
  by_cases m:t=M.now∧v=M.vote
  ·rw[if_pos m];obtain⟨rfl,rfl⟩:=m;exact .inr (.inl ⟨rfl,rfl,h.more 5⟩)
  ·rw[if_neg m];have p:=(zAo.1 f.now).1;have o:M.now≤t∧t≤1099511627776∧-1≤v∧v<7:=by
    unfold zAJ.mayVote at j;rw[Bool.and_eq_true]at j;exact of_decide_eq_true j.1
   have s:=zDN t v;have i:zBS M [zCW t v]=some {M with now:=t,vote:=v}:=by
    show(zBc false M (zCW t v)).bind (fun M'=>zBS M' [])=_
    rw[rec_trm j p];rfl
   rcases live_lays (c:=5) (M':={M with now:=t,vote:=v}) (rs:=[zCW t v]) h (fun l k=>by rw[List.mem_singleton.1 k];omega) i h.alive ⟨f.last,f.term,f.group,zAo.2 ⟨by show 0≤t;omega,o.2.1⟩,o.2.2,f.data,f.ents⟩ (by rw[zDo];omega) (Nat.le_add_right_of_le h.ents) q with⟨a,b,d⟩|⟨a,b,d⟩
   ·exact .inr (.inl ⟨a,b,d⟩)
   ·refine .inr (.inr ⟨a,by rw[b];rfl,d.mono fun N r=>?_⟩);obtain⟨w,n⟩:=r;cases w with
    | zero=>exact .inl (Option.some.inj n).symm
    | succ w =>
     rw[List.take_succ_cons,List.take_nil]at n;exact .inr (Option.some.inj (n.symm.trans i))
theorem live_append {l:List Ent}(h:zCZ g A M D)(B:zCa l≤c)(t:A+c≤6100):Ends g A c M D {M with entries:=M.entries++l} (fun N=>∃w,N={M with entries:=M.entries++l.take w}) (zAr [97] D M l):=by
 have j:=h.ok;unfold zAr;rw[if_neg (by rw[h.alive];simp)]
 by_cases k:1099511627776<M.last+l.length∨l.all zA1=false
 ·rw[if_pos k];exact .inl ⟨rfl,rfl⟩
 ·rw[if_neg k]
  by_cases i:l=[]
  ·rw[if_pos i];refine .inr (.inl ⟨rfl,?_,?_⟩)
   ·rw[i,List.append_nil]
   ·rw[i,List.append_nil];exact h.more c
  ·rw[if_neg i];have p:M.last+l.length≤1099511627776:=by omega
   have f:∀e∈l,zA1 e=true:=by
    cases s:l.all zA1 with
    | false=>exact absurd (.inr s) k
    | true=>exact List.all_eq_true.1 s
   have r:=recs_ents M.last l f (by omega);have q:=zCr M.last l f (by omega);have n:=zEF l M f p;have m:({M with entries:=M.entries++l}:zAJ).last≤1099511627776:=by
    show M.number+(M.entries++l).length≤_
    rw[List.length_append];have:M.last=M.number+M.entries.length:=rfl;omega
   rcases live_lays (c:=c) (M':={M with entries:=M.entries++l}) (rs:=zA0 M.last l) h (fun x z=>Nat.le_trans (q x z) (by decide)) n h.alive ⟨m,j.term,j.group,j.now,j.vote,j.data,fun e o=>(List.mem_append.1 o).elim (j.ents e) (f e)⟩ (by omega) (by
    show zCa (M.entries++l)≤_
    rw[zGD];have:=h.ents;omega) t with⟨a,b,d⟩|⟨a,b,d⟩
   ·exact .inr (.inl ⟨a,b,d⟩)
   ·refine .inr (.inr ⟨a,by rw[b];rfl,d.mono fun N v=>?_⟩);obtain⟨w,r⟩:=v;refine⟨w,?_⟩;have y:(zA0 M.last l).take w=zA0 M.last (l.take w):=entsB_tk l M.last w;rw[y,zEF (l.take w) M (fun e o=>f e (List.mem_of_mem_take o)) (by rw[List.length_take];omega)]at r;exact(Option.some.inj r).symm
theorem live_cut (h:zCZ g A M D)(i:Int)(p:A+5≤6100):Ends g A 5 M D {M with entries:=M.entries.take (i.toNat-M.number-1) } (fun N=>N=M∨N={M with entries:=M.entries.take (i.toNat-M.number-1) }) (zB2 [97] D M i):=by
 have f:=h.ok;have s:=f.last;have t:M.last=M.number+M.entries.length:=rfl;unfold zB2;rw[if_neg (by rw[h.alive];simp)]
 by_cases n:i≤(M.number:Int)
 ·rw[if_pos n];exact .inl ⟨rfl,rfl⟩
 ·rw[if_neg n]
  by_cases o:(M.last:Int)<i
  ·rw[if_pos o];have e:({M with entries:=M.entries.take (i.toNat-M.number-1) }:zAJ)=M:=by rw[List.take_of_length_le (by omega)]
   rw[e];exact .inr (.inl ⟨rfl,rfl,h.more 5⟩)
  ·rw[if_neg o];have v:=cutB_len i.toNat (by omega);have j:zBS M [cutB i.toNat]=some {M with entries:=M.entries.take (i.toNat-M.number-1) }:=by
    show(zBc false M (cutB i.toNat)).bind (fun M'=>zBS M' [])=_
    rw[rec_cut (by omega) (by omega) (by omega)];rfl
   rcases live_lays (c:=5) (M':={M with entries:=M.entries.take (i.toNat-M.number-1) }) (rs:=[cutB i.toNat]) h (fun l k=>by rw[List.mem_singleton.1 k];omega) j h.alive ⟨by
    show M.number+(M.entries.take _).length≤_
    rw[List.length_take];omega,f.term,f.group,f.now,f.vote,f.data,fun e r=>f.ents e (List.mem_of_mem_take r)⟩ (by rw[zDo];omega) (Nat.le_trans (entsW_take _ _) (Nat.le_add_right_of_le h.ents)) p with⟨a,b,d⟩|⟨a,b,d⟩
   ·exact .inr (.inl ⟨a,b,d⟩)
   ·refine .inr (.inr ⟨a,by rw[b];rfl,d.mono fun N q=>?_⟩);obtain⟨w,m⟩:=q;cases w with
    | zero=>exact .inl (Option.some.inj m).symm
    | succ w =>
     rw[List.take_succ_cons,List.take_nil]at m;exact .inr (Option.some.inj (m.symm.trans j))
theorem live_compact (h:zCZ g A M D)(i:Int){b:Bs}(k:b.length≤6000)(j:A≤6100):Ends g A 0 M D (M.rebase ⟨i.toNat,(M.termAt i).getD 0,(M.grpIn (i.toNat-M.number)).1,b⟩) (fun N=>N=M∨N=M.rebase ⟨i.toNat,(M.termAt i).getD 0,(M.grpIn (i.toNat-M.number)).1,b⟩) (zAe [97] D M i b):=by
 have f:=h.ok;have l:=f.last;unfold zAe;rw[if_neg (by rw[h.alive];simp)]
 by_cases c:i≤(M.number:Int)∨(M.last:Int)<i∨524288<b.length
 ·rw[if_pos c];exact .inl ⟨rfl,rfl⟩
 ·rw[if_neg c];have m:(⟨i.toNat,(M.termAt i).getD 0,(M.grpIn (i.toNat-M.number)).1,b⟩:zDE).OK:=⟨by dsimp only;omega,by
   dsimp only;cases n:M.termAt i with
   | none=>rfl
   | some t=>exact termAt_ok f n,zFS f _,by dsimp only;omega⟩
  rcases live_goes h m (by dsimp only;omega) k (by dsimp only;omega) j with⟨a,d,e⟩|⟨a,d,e⟩
  ·exact .inr (.inl ⟨a,d,e⟩)
  ·exact .inr (.inr ⟨a,d,e⟩)
theorem live_install (h:zCZ g A M D)(i t:Int){ns:List Int}{b:Bs}(j:b.length≤6000)(f:A≤6100):Ends g A 0 M D (M.rebase ⟨i.toNat,t,ns,b⟩) (fun N=>N=M∨N=M.rebase ⟨i.toNat,t,ns,b⟩) (zAh [97] D M i t ns b):=by
 unfold zAh;rw[if_neg (by rw[h.alive];simp)]
 by_cases c:i≤(M.number:Int)∨1099511627776<i∨zDR t=false∨zAX ns=false∨524288<b.length
 ·rw[if_pos c];exact .inl ⟨rfl,rfl⟩
 ·rw[if_neg c];have l:(⟨i.toNat,t,ns,b⟩:zDE).OK:=⟨by dsimp only;omega,by
   cases m:zDR t with
   | true=>rfl
   | false=>exact absurd (.inr (.inr (.inl m))) c,by
   cases k:zAX ns with
   | true=>rfl
   | false=>exact absurd (.inr (.inr (.inr (.inl k)))) c,by dsimp only;omega⟩
  rcases live_goes h l (by dsimp only;omega) j (by dsimp only;omega) f with⟨a,d,e⟩|⟨a,d,e⟩
  ·exact .inr (.inl ⟨a,d,e⟩)
  ·exact .inr (.inr ⟨a,d,e⟩)
end
theorem crash_used (E:zAA)(k:Int):(E.crash k).used≤E.used:=by
 unfold zAA.used zAA.crash;dsimp only;rw[mp_sum];unfold zBK;generalize E.files=L
 induction L with
 | nil=>exact Nat.le_refl _
 | cons x r ih =>
  rw[List.map_cons,List.map_cons,List.sum_cons,List.sum_cons];have:(fun a=>zAA.size (zAA.crashF k a)) x.2≤zAA.size x.2:=by
   dsimp only;unfold zAA.crashF zAA.size;rw[List.length_take];omega
  omega
theorem aft_open {g:List Int}{A:Nat}{P:zAJ→Prop}{D:zAA}(j:zAX g=true)(h:AftJ g A P D)(Q:A≤6100)(k:Int) :
  ∃M,P M∧(zAS (D.crash k) [97] g).2=(0,M)∧∀a t:Int,(zAS ((D.crash k).setFuse a) [97] g).1.room=1048576∧(zAS ((zAS ((D.crash k).setFuse a) [97] g).1.crash t) [97] g).2=(0,M):=by
 obtain⟨M,q,l⟩:=h.says k;have f:=h.room;have s:=h.used;have r:=h.cnt;have b:∀(E:zAA) (k:Int),Srt E.files→Srt (E.crash k).files:=fun E k h=>mp_srt h;have d:∀(E:zAA) (k:Int),(E.crash k).files.length=E.files.length:=fun E k=>mp_len _ _;have T:=crash_used D k;have R:=d D k;rw[←zF8,←zF8]at l;obtain⟨G,L,n,q1,-,-,-,-,-,o⟩:=open_says j (b D k h.srt) l;obtain⟨rfl,rfl⟩:=o rfl (by show(D.crash k).used+_≤D.room;omega) (by omega);refine⟨n,q,by rw[q1],fun a t=>?_⟩;obtain⟨c,N,I,q2,B,w2,z,C,n2,-⟩:=open_says (D:=(D.crash k).setFuse a) j (b D k h.srt) l;rw[q2];dsimp only;have i:=w2.crash t;rw[←zF8,←zF8]at i;have U:=crash_used c t;have S:=d c t;have F:c.used≤(D.crash k).used+(150+12*A):=C;have v:c.files.length≤(D.crash k).files.length+8:=n2;have m:c.room=D.room:=z;obtain⟨H,O,J,y,-,-,-,-,-,p⟩:=open_says j (b c t B) i;obtain⟨rfl,rfl⟩:=p rfl (by show(c.crash t).used+_≤c.room;omega) (by omega);rw[y];exact⟨m.trans f,rfl⟩
theorem live_start:zCZ [0,1,2] 0 (zAJ.none0 [0,1,2]) (zC6 1048576 [97] [0,1,2]):=by
 have f:zAX [0,1,2]=true:=rfl;have b:=zFP f;refine⟨⟨(zAJ.none0 [0,1,2]).rows,none,zAJ.none0 [0,1,2],by rw[zFY];rfl,fun l g=>?_,fun x d=>(by cases d),fun x d=>(by cases d),?_,rfl,by rw[zFY];exact b⟩,rfl,⟨by decide,rfl,rfl,rfl,⟨Int.le_refl _,show(-1:Int)<7 by decide⟩,Nat.zero_le _,fun e c=>by cases c⟩,Nat.le_refl _,rfl⟩
 ·unfold zFe at b;rw[List.length_append,zAf,zAf]at b;rcases(show l=zEp 0 0 [0,1,2]∨l=zCW 0 (-1) by simpa[zAJ.rows,zAJ.none0,zA0]using g)with rfl|rfl<;>omega
 ·exact zGZ (M:=zAJ.none0 [0,1,2]) (N:=zAJ.none0 [0,1,2]) (Nat.zero_le _) rfl f rfl ⟨Int.le_refl _,show(-1:Int)<7 by decide⟩ (fun e c=>by cases c) rfl rfl rfl
end Go.Proofs.YtapfnehdgailmaaGreat
namespace Go.Proofs.YtapfnehdgailmaaGreat
open Go.RowKit Go.Sat Go.ChangeShapes Go.WideShapes Go.ChangeAt Go.Deep
section
variable {H:Type} {enc:TypeId×Value→H} {P:Program} {W:World}
theorem bulk_pos (d:DataW H):1≤Rows.uptoBulk d:=by
 cases d with
 | lit l=>cases l<;>simp[Rows.uptoBulk]
 | _=>simp[Rows.uptoBulk]
theorem bulk_mem {d:DataW H}:∀{l:List (DataW H)},d∈l→Rows.uptoBulk d≤Rows.uptoBulkAll l
 | [],h=>by simp at h
 | x::r,h=>by
  simp only[Rows.uptoBulkAll];rcases List.mem_cons.1 h with rfl|h
  ·omega
  ·have:=bulk_mem h;omega
theorem bulk_len:∀l:List (DataW H),l.length≤Rows.uptoBulkAll l
 | []=>Nat.zero_le _
 | x::r=>by
  have b:=bulk_len r;have c:=bulk_pos x;simp only[Rows.uptoBulkAll,List.length_cons];omega
theorem bulk_slice (l r:List (DataW H)):Rows.uptoBulkAll l≤Rows.uptoBulk (.slice l r):=by simp only[Rows.uptoBulk];omega
theorem bulk_agg (l:List (DataW H)):Rows.uptoBulkAll l≤Rows.uptoBulk (.agg l):=by simp only[Rows.uptoBulk];omega
theorem slice_bulk {t e:TypeId}{fuel:Nat}{a:Option Addr}{b g:Nat}{d:DataW H}{ps:List MemPlace}(q:P.underlying t=some (.slice e))(o:DataW.trod enc P W 0 (fun _=>true) true fuel t [.slice a b g]=some (d,ps)):b≤Rows.uptoBulk d:=by
 rcases open_slice q o with⟨f,-⟩|⟨x,l,c,m,n,D,Pl,f,-,v,y,p,k,s⟩
 ·simp only[List.cons.injEq,Value.slice.injEq,and_true]at f;omega
 ·simp only[List.cons.injEq,Value.slice.injEq,and_true]at f;obtain⟨rfl,rfl,rfl⟩:=f;obtain⟨rfl,-⟩:=Prod.mk.inj k;have i:=bulk_len ((List.range b).map D);have r:=bulk_slice ((List.range b).map D) ((List.range (m-b)).map fun j=>D (b+j));rw[List.length_map,List.length_range]at i;omega
def FieldAt (enc:TypeId×Value→H)(P:Program)(W:World)(B K:Nat)(a:Addr)(t:TypeId):Prop :=
 ∃(v:Value) (fuel:Nat) (d:DataW H) (ps:List MemPlace),W.cell? a=some v∧DataW.trod enc P W 0 (fun _=>true) true fuel t [v]=some (d,ps)∧(∀m∈d.weights P t,m≤B)∧Rows.uptoBulk d≤K
theorem open_recs {t e:TypeId}{q:Array Field}{fuel:Nat}{a:Option Addr}{b A B:Nat}{d:DataW H}{ps:List MemPlace}(J:P.underlying t=some (.slice e))(R:P.underlying e=some (.struct q))
  (y:oneCellFields P q=true) (T:P.cellsOf e=q.size) (X:DataW.trod enc P W 0 (fun _=>true) true fuel t [.slice a b A]=some (d,ps)) (S:∀n∈d.weights P t,n≤B) :
  (a=none∧b=0)∨∃x,a=some x∧b*P.bytesOf e≤B∧∀i,i<b→∀j f,q[j]?=some f→FieldAt enc P W B (Rows.uptoBulk d) (x.add (i*q.size+j)) f.type:=by
 rcases open_slice J X with⟨g,-⟩|⟨x,l,c,m,n,D,Pl,g,-,hl,hm,I,V,Y⟩
 ·simp only[List.cons.injEq,Value.slice.injEq,and_true]at g;exact .inl ⟨g.1,g.2.1⟩
 ·simp only[List.cons.injEq,Value.slice.injEq,and_true]at g;obtain⟨rfl,rfl,rfl⟩:=g;obtain⟨rfl,-⟩:=Prod.mk.inj V;have Z:b≤m:=by rw[I];split<;>omega
  have O:=zFG J S;simp only[List.length_map,List.length_range]at O;refine .inr ⟨x,rfl,Nat.le_trans (Nat.mul_le_mul_right _ (Nat.le_add_right _ _)) O,fun i E j f h=>?_⟩;obtain⟨r,Q,L⟩:=Y i (by omega);rw[T]at Q;obtain⟨_,U,C⟩:=World.cells?_some Q;obtain⟨p,n',-,hy,-,aa,s⟩:=DataW.trod_struct R L;obtain⟨N,-⟩:=Prod.mk.inj hy;have F:j<q.size:=(Array.getElem?_eq_some_iff.1 h).1;obtain⟨K,G⟩:=hone_of y j f h;have M:=s j f h;rw[K,G,List.drop_eq_getElem_cons (show j<r.length by omega),List.take_succ_cons,List.take_zero,List.getElem?_eq_getElem (show j<p.length by omega)]at M;have o:=C j F;rw[Go.Deep.add_add,List.getElem?_eq_getElem (show j<r.length by omega)]at o;have v:D i∈(List.range b).map D:=List.mem_map.2 ⟨i,List.mem_range.2 E,rfl⟩;have z:(p.map (·.1))[j]?=some (p[j]'(by omega)).1:=by
   rw[List.getElem?_map,List.getElem?_eq_getElem (show j<p.length by omega)];rfl
  refine⟨_,n',(p[j]'(by omega)).1,(p[j]'(by omega)).2,o,M,fun k G=>?_,?_⟩
  rotate_left
  ·have k1:=bulk_mem (List.mem_of_getElem? z);have k2:=bulk_agg (p.map (·.1));have k3:=bulk_mem v;have k4:=bulk_slice ((List.range b).map D) ((List.range (m-b)).map fun j=>D (b+j));rw[N]at k3;omega
  refine weights_elem J S v k ?_;rw[N];simp only[DataW.weights,R];refine DataW.weights_mem_each (j:=j) (t:=f.type) (d:=(p[j]'(by omega)).1) ?_ z k G;rw[List.getElem?_map,Array.getElem?_toList,h];rfl
theorem zE1 {a:Addr}{t:TypeId}{k:IntKind}{B K:Nat}(g:P.underlying t=some (.int k))(h:FieldAt enc P W B K a t):∃n,W.cell? a=some (.int k n)∧(Lit.int k n).wf=true:=by
 obtain⟨v,fuel,d,ps,f,b,-⟩:=h;obtain⟨n,e,-,c⟩:=DataW.trod_int g b;cases e;exact⟨n,f,c⟩
end
section
variable {H:Type} {enc:TypeId×Value→H} {W:World}
theorem zDu {P:Program}{t e:TypeId}{fuel:Nat}{v:Value}{x:DataW H×List MemPlace}(f:P.underlying t=some (.slice e))(h:DataW.trod enc P W 0 (fun _=>true) true fuel t [v]=some x):∃a d c,v=.slice a d c:=by
 rcases open_slice f h with⟨b,-⟩|⟨a,d,c,_,_,_,_,b,-⟩<;>(simp only[List.cons.injEq,and_true]at b;exact⟨_,_,_,b⟩)
theorem field_bytes {a:Addr}{K:Nat}(h:FieldAt enc prog W reachBytes K a 22):∃p n c l,W.cell? a=some (.slice p n c)∧zAY W (.slice p n c) l∧l.length≤140737488355328∧l.length≤K:=by
 obtain⟨v,fuel,d,ps,i,b,k,j⟩:=h;obtain⟨p,n,c,rfl⟩:=zDu underlying22 b;obtain⟨l,f,hn⟩:=bytes_arg b k;have g:=slice_bulk underlying22 b;obtain⟨o,m,e⟩:=f.slice;cases e;exact⟨p,_,c,l,i,f,hn,Nat.le_trans g j⟩
end
section
variable {H:Type} {enc:TypeId×Value→H} {W:World} {fuel:Nat} {d:DataW H} {ps:List MemPlace}
theorem ints_arg {a:Option Addr}{b j:Nat}(y:DataW.trod enc prog W 0 (fun _=>true) true fuel 38 [.slice a b j]=some (d,ps))(A:∀n∈d.weights prog 38,n≤reachBytes) :
  ∃l:List Int,zBe W (.slice a b j) l∧l.length=b∧b≤17592186044416∧∀z∈l,-9223372036854775808≤z∧z≤9223372036854775807:=by
 rcases open_ints underlying38 underlying3 (by kernel_rfl) y with⟨f,_⟩|⟨x,l,c,zs,f,_,C,D,r,t,k,q⟩
 ·simp at f;obtain⟨rfl,rfl,rfl⟩:=f;exact⟨[],⟨by simp,none,0,rfl,fun _=>rfl,fun a m=>by cases m⟩,rfl,by decide,fun z r=>by cases r⟩
 ·simp at f;obtain⟨rfl,rfl,rfl⟩:=f;simp only[if_true]at r;simp only[Prod.mk.injEq]at t;obtain⟨rfl,_⟩:=t;have o:=zFG underlying38 A;rw[show prog.bytesOf 3=8 by kernel_rfl]at o;simp only[lits,List.length_map,List.length_take,List.length_drop]at o;have g:(zs.take b).length=b:=by rw[List.length_take];omega
  refine⟨zs.take b,⟨by simp,some x,j,by rw[g],fun e=>(by cases e),fun B m i u p=>?_⟩,g,by unfold reachBytes at o;omega,fun z s=>?_⟩
  ·cases m;have h:i<b:=by
    have:=(List.getElem?_eq_some_iff.1 p).1;rw[List.length_map,g]at this;exact this
   rw[k i (by omega)];have v:zs.getD i 0=zs[i]'(by omega):=by simp[List.getD,List.getElem?_eq_getElem (show i<zs.length by omega)]
   rw[List.getElem?_map,List.getElem?_take,if_pos h,List.getElem?_eq_getElem (show i<zs.length by omega),Option.map_some]at p;rw[v];exact p
  ·have:=bounds_i64 (q z (List.mem_of_mem_take s));exact⟨this.1,this.2⟩
end
def zDD (w:World)(x:Value)(es:List Ent)(vs:List EV):Prop:=vs.length=es.length∧zAM w 4 x es.length (zA3 es vs)∧∀(i:Nat) e v,es[i]?=some e→vs[i]?=some v→zAY w v.1 e.data∧zBe w v.2 e.nodes∧e.data.length≤140737488355328∧e.nodes.length≤140737488355328
theorem zDD.has {w:World}{x:Value}{es:List Ent}{vs:List EV}(h:zDD w x es vs)(c:∀e∈es,e.data.length≤1099511627776∧e.nodes.length≤1099511627776):zCO w x es vs :=
 ⟨h.1,h.2.1,fun i e v b d=>⟨(h.2.2 i e v b d).1,(h.2.2 i e v b d).2.1,(c e (List.mem_of_getElem? b)).1,(c e (List.mem_of_getElem? b)).2⟩⟩
theorem zDD.len {w:World}{p:Option Addr}{n c:Nat}{es:List Ent}{vs:List EV}(h:zDD w (.slice p n c) es vs):es.length=n:=by
 obtain⟨-,⟨-,_,_,e,-⟩,-⟩:=h;simp only[Value.slice.injEq]at e;exact e.2.1.symm
theorem zDD.ent {w:World}{p:Option Addr}{n c:Nat}{es:List Ent}{vs:List EV}(h:zDD w (.slice p n c) es vs){i:Nat}(s:i<es.length):∃b o v,p=some ⟨b,o,none⟩∧(zAY w v.1 es[i].data∧zBe w v.2 es[i].nodes∧es[i].data.length≤140737488355328∧es[i].nodes.length≤140737488355328)∧vs[i]?=some v ∧
  w.cell? ⟨b,o+i*4,none⟩=some (.int .i64 es[i].term)∧w.cell? ⟨b,o+i*4+1,none⟩=some (.int .i64 es[i].kind)∧w.cell? ⟨b,o+i*4+2,none⟩=some v.1∧w.cell? ⟨b,o+i*4+3,none⟩=some v.2:=by
 have hn:=h.len;obtain⟨f,m,q⟩:=h;rw[hn]at m;have g:vs[i]?=some (vs[i]'(by omega)):=List.getElem?_eq_getElem _;generalize vs[i]'(by omega)=v at g;have l:=List.getElem?_eq_getElem s;have j:zA3 es vs≠[]:=fun e=>by
  have:=zD0 es vs f;rw[e]at this;simp at this;omega
 obtain⟨b,o,rfl,r⟩:=holds_at4 m j;have d:∀(k:Nat) u,(zEy es[i] v)[k]?=some u→w.cell? ⟨b,o+(i*4+k),none⟩=some u:=fun k u t=>r _ _ (zEO _ _ i _ v l g k u t);exact⟨b,o,v,rfl,q i _ v l g,g,d 0 _ rfl,d 1 _ rfl,d 2 _ rfl,d 3 _ rfl⟩
structure zCQ where
 kind:Int
 a:Int
 b:Int
 pl:Option Addr
 nl:Nat
 cl:Nat
 pn:Option Addr
 nn:Nat
 cn:Nat
 pd:Option Addr
 nd:Nat
 cd:Nat
 es:List Ent
 vs:List EV
 nodes:List Int
 data:Bs
structure Step5At (w:World)(g j:Nat)(s:zCQ):Prop where
 ck:w.cell? ⟨g,j,none⟩=some (.int .i64 s.kind)
 ca:w.cell? ⟨g,j+1,none⟩=some (.int .i64 s.a)
 cb:w.cell? ⟨g,j+2,none⟩=some (.int .i64 s.b)
 c3:w.cell? ⟨g,j+3,none⟩=some (.slice s.pl s.nl s.cl)
 c4:w.cell? ⟨g,j+4,none⟩=some (.slice s.pn s.nn s.cn)
 c5:w.cell? ⟨g,j+5,none⟩=some (.slice s.pd s.nd s.cd)
 he:zDD w (.slice s.pl s.nl s.cl) s.es s.vs
 hn:zBe w (.slice s.pn s.nn s.cn) s.nodes
 hd:zAY w (.slice s.pd s.nd s.cd) s.data
 ok:(-9223372036854775808≤s.kind∧s.kind≤9223372036854775807)∧(-9223372036854775808≤s.a∧s.a≤9223372036854775807)∧(-9223372036854775808≤s.b∧s.b≤9223372036854775807)∧s.nodes.length≤140737488355328∧s.data.length≤140737488355328∧s.es.length≤140737488355328∧(∀z∈s.nodes,-9223372036854775808≤z∧z≤9223372036854775807)∧∀e∈s.es,(-9223372036854775808≤e.term∧e.term≤9223372036854775807)∧(-9223372036854775808≤e.kind∧e.kind≤9223372036854775807)∧∀z∈e.nodes,-9223372036854775808≤z∧z≤9223372036854775807
def Steps5 (w:World)(p:Option Addr)(n:Nat)(l:List zCQ):Prop:=l.length=n∧(l=[]∨∃g o,p=some ⟨g,o,none⟩∧∀i s,l[i]?=some s→Step5At w g (o+i*6) s)
section
variable {H:Type} {enc:TypeId×Value→H} {W:World}
theorem field_ints {a:Addr}{K:Nat}(h:FieldAt enc prog W reachBytes K a 38):∃p n c l,W.cell? a=some (.slice p n c)∧zBe W (.slice p n c) l∧l.length≤140737488355328∧∀z∈l,-9223372036854775808≤z∧z≤9223372036854775807:=by
 obtain⟨v,fuel,d,ps,g,b,k,m⟩:=h;obtain⟨p,n,c,rfl⟩:=zDu underlying38 b;obtain⟨l,i,j,hn,f⟩:=ints_arg b k;exact⟨p,n,c,l,g,i,by omega,f⟩
theorem addr_at {g o k:Nat}:(⟨g,o,none⟩:Addr).add k=⟨g,o+k,none⟩:=by unfold Addr.add;split<;>simp_all
theorem ents_holds {g o n c:Nat}{es:List Ent}{vs:List EV}(hn:es.length=n)(r:vs.length=es.length)
  (h:∀i e v,es[i]?=some e→vs[i]?=some v→∀j u,(zEy e v)[j]?=some u→W.cell? ⟨g,o+i*4+j,none⟩=some u):zAM W 4 (.slice (some ⟨g,o,none⟩) n c) es.length (zA3 es vs):=by
 subst hn;refine⟨zD0 es vs r,some ⟨g,o,none⟩,c,rfl,fun e=>(by cases e),fun a t m u q=>?_⟩;cases t;rw[addr_at];have A:m<es.length*4:=by have:=(List.getElem?_eq_some_iff.1 q).1;rwa[zD0 es vs r]at this
 have y:m/4<es.length:=by omega
 have f:m/4<vs.length:=by omega
 have p:=List.getElem?_eq_getElem y;have d:=List.getElem?_eq_getElem f;have s:(zEy es[m/4] vs[m/4]).length=4:=rfl;have z:m%4<(zEy es[m/4] vs[m/4]).length:=by rw[s];omega
 have b:=List.getElem?_eq_getElem z;have k:=zEO es vs (m/4) _ _ p d (m%4) _ b;rw[show m/4*4+m%4=m by omega,q]at k;have l:=h (m/4) _ _ p d (m%4) _ b;rw[show o+m/4*4+m%4=o+m by omega]at l;rw[l,k]
theorem field_ents {a:Addr}{K:Nat}(h:FieldAt enc prog W reachBytes K a 78):∃p n c es vs,W.cell? a=some (.slice p n c)∧zDD W (.slice p n c) es vs∧es.length≤140737488355328 ∧
  ∀e∈es,(-9223372036854775808≤e.term∧e.term≤9223372036854775807)∧(-9223372036854775808≤e.kind∧e.kind≤9223372036854775807)∧∀z∈e.nodes,-9223372036854775808≤z∧z≤9223372036854775807:=by
 obtain⟨v,fuel,d,ps,H,J,hw,hk⟩:=h;obtain⟨p,n,c,rfl⟩:=zDu underlying78 J;have B:∀(p:Option Addr),n=0→zDD W (.slice p n c) [] []:=fun p L=>by
  subst L;exact⟨rfl,⟨rfl,p,c,rfl,fun _=>rfl,fun a ha i u l=>by simp[zA3]at l⟩,fun i e v b=>by simp at b⟩
 rcases open_recs underlying78 underlying50 (by kernel_rfl) (by kernel_rfl) J hw with⟨rfl,rfl⟩|⟨x,rfl,A,m⟩
 ·exact⟨none,0,c,[],[],H,B none rfl,by decide,fun e b=>by cases b⟩
 ·rw[show prog.bytesOf 50=64 by kernel_rfl]at A;have F:n≤140737488355328:=by unfold reachBytes at A;omega
  by_cases L:n=0
  ·exact⟨some x,n,c,[],[],H,B _ L,by decide,fun e b=>by cases b⟩
  obtain⟨g,o,sp⟩:=x;have O:sp=none:=by
   obtain⟨v,_,_,_,H,-⟩:=m 0 (by omega) 0 _ rfl;have:=World.cell?_spot H;simpa[Addr.add]using this
  subst O;have G:∀i,i<n→∃s:Ent×EV,(zAY W s.2.1 s.1.data∧zBe W s.2.2 s.1.nodes∧s.1.data.length≤140737488355328∧s.1.nodes.length≤140737488355328)∧(∀j u,(zEy s.1 s.2)[j]?=some u→W.cell? ⟨g,o+i*4+j,none⟩=some u) ∧
    (-9223372036854775808≤s.1.term∧s.1.term≤9223372036854775807)∧(-9223372036854775808≤s.1.kind∧s.1.kind≤9223372036854775807)∧∀z∈s.1.nodes,-9223372036854775808≤z∧z≤9223372036854775807:=fun i r=>by
   have Z:∀j,(⟨g,o,none⟩:Addr).add (i*4+j)=⟨g,o+i*4+j,none⟩:=fun j=>by rw[addr_at,Nat.add_assoc]
   obtain⟨t,Y,wt⟩:=zE1 underlying3 (m i r 0 _ rfl);obtain⟨k,X,wk⟩:=zE1 underlying3 (m i r 1 _ rfl);obtain⟨pb,nb,cb,lb,T,hb,wb⟩:=field_bytes (m i r 2 _ rfl);obtain⟨pi,ni,V,li,U,M,wi,S⟩:=field_ints (m i r 3 _ rfl);have Q:=bounds_i64 wt;have R:=bounds_i64 wk;refine⟨(⟨t,k,lb,li⟩,(.slice pb nb cb,.slice pi ni V)),⟨hb,M,wb.1,wi⟩,fun j u l=>?_,⟨Q.1,Q.2⟩,⟨R.1,R.2⟩,S⟩;rw[←Z]
   match j,l with
   | 0,l=>cases l;exact Y
   | 1,l=>cases l;exact X
   | 2,l=>cases l;exact T
   | 3,l=>cases l;exact U
   | _+4,l=>cases l
  have aa:Inhabited (Ent×EV):=⟨(⟨0,0,[],[]⟩,(.int .i64 0,.int .i64 0))⟩;obtain⟨f,C⟩:=choose_lt G;have y:∀i e,((List.range n).map fun i=>(f i).1)[i]?=some e→i<n∧e=(f i).1:=fun i e b=>by
   rw[List.getElem?_map,Option.map_eq_some_iff]at b;obtain⟨j,N,rfl⟩:=b;obtain⟨I,D⟩:=List.getElem?_eq_some_iff.1 N;have E:j=i:=by simpa using D.symm
   subst E;exact⟨by simpa using I,rfl⟩
  have q:∀i e,((List.range n).map fun i=>(f i).2)[i]?=some e→e=(f i).2:=fun i e b=>by
   rw[List.getElem?_map,Option.map_eq_some_iff]at b;obtain⟨j,N,rfl⟩:=b;obtain⟨I,D⟩:=List.getElem?_eq_some_iff.1 N;have E:j=i:=by simpa using D.symm
   rw[E]
  refine⟨some ⟨g,o,none⟩,n,c,(List.range n).map fun i=>(f i).1,(List.range n).map fun i=>(f i).2,H,⟨by simp,ents_holds (by simp) (by simp) fun i e v b P j u l=>?_,fun i e v b P=>?_⟩,by simpa using F,fun e b=>?_⟩
  ·obtain⟨r,rfl⟩:=y i e b;rw[q i v P]at l;exact(C i r).2.1 j u l
  ·obtain⟨r,rfl⟩:=y i e b;rw[q i v P];exact(C i r).1
  ·obtain⟨i,r,rfl⟩:=List.mem_map.1 b;exact(C i (by simpa using r)).2.2
theorem steps5_arg {fuel:Nat}{d:DataW H}{ps:List MemPlace}{a:Option Addr}{c r:Nat}(Y:DataW.trod enc prog W 0 (fun _=>true) true fuel 74 [.slice a c r]=some (d,ps))(hw:∀n∈d.weights prog 74,n≤reachBytes) :
  ∃l,Steps5 W a c l∧c≤140737488355328:=by
 rcases open_recs underlying74 underlying80 (by kernel_rfl) (by kernel_rfl) Y hw with⟨rfl,rfl⟩|⟨x,rfl,p,b⟩
 ·exact⟨[],⟨rfl,.inl rfl⟩,by decide⟩
 ·rw[show prog.bytesOf 80=96 by kernel_rfl]at p;have m:c≤140737488355328:=by unfold reachBytes at p;omega
  by_cases T:c=0
  ·subst T;exact⟨[],⟨rfl,.inl rfl⟩,m⟩
  obtain⟨g,o,sp⟩:=x;have D:sp=none:=by
   obtain⟨v,_,_,_,U,-⟩:=b 0 (by omega) 0 _ rfl;have:=World.cell?_spot U;simpa[Addr.add]using this
  subst D;have q:∀i,i<c→∃s:zCQ,Step5At W g (o+i*6) s:=fun i Z=>by
   have S:∀j,(⟨g,o,none⟩:Addr).add (i*6+j)=⟨g,o+i*6+j,none⟩:=fun j=>by rw[addr_at,Nat.add_assoc]
   have b:=fun j t h=>S j▸b i Z j t h;obtain⟨k,P,wk⟩:=zE1 underlying3 (b 0 _ rfl);obtain⟨x,O,wa⟩:=zE1 underlying3 (b 1 _ rfl);obtain⟨y,cb,wb⟩:=zE1 underlying3 (b 2 _ rfl);obtain⟨pl,nl,Q,es,vs,L,X,wl,I⟩:=field_ents (b 3 _ rfl);obtain⟨pn,nn,R,ln,M,hn,wn,J⟩:=field_ints (b 4 _ rfl);obtain⟨pd,nd,cd,ld,N,V,wd⟩:=field_bytes (b 5 _ rfl);have E:=bounds_i64 wk;have F:=bounds_i64 wa;have b3:=bounds_i64 wb;exact⟨⟨k,x,y,pl,nl,Q,pn,nn,R,pd,nd,cd,es,vs,ln,ld⟩,⟨P,O,cb,L,M,N,X,hn,V,⟨E.1,E.2⟩,⟨F.1,F.2⟩,⟨b3.1,b3.2⟩,wn,wd.1,wl,J,I⟩⟩
  have aa:Inhabited zCQ:=⟨⟨0,0,0,none,0,0,none,0,0,none,0,0,[],[],[],[]⟩⟩;obtain⟨f,z⟩:=choose_lt q;refine⟨(List.range c).map f,⟨by simp,.inr ⟨g,o,rfl,fun i s G=>?_⟩⟩,m⟩;rw[List.getElem?_map,Option.map_eq_some_iff]at G;obtain⟨j,K,rfl⟩:=G;obtain⟨A,B⟩:=List.getElem?_eq_some_iff.1 K;have C:j=i:=by simpa using B.symm
  subst C;exact z j (by simpa using A)
end
end Go.Proofs.YtapfnehdgailmaaGreat
namespace Go.Proofs.YtapfnehdgailmaaGreat
open Go.RowKit Go.Sat Go.Maps
def zCQ.light (s:zCQ):Prop:=s.data.length≤6000∧s.nodes.length≤6000∧s.es.length≤1200∧∀e∈s.es,e.data.length≤6000∧e.nodes.length≤6000
def wt5 (s:zCQ):Nat:=5+s.data.length+s.nodes.length+zCa s.es
def wts (l:List zCQ):Nat:=(l.map wt5).sum
theorem wts_succ {l:List zCQ}{k:Nat}{s:zCQ}(h:l[k]?=some s):wts (l.take (k+1))=wts (l.take k)+wt5 s:=by
 obtain⟨b,rfl⟩:=List.getElem?_eq_some_iff.1 h;unfold wts;rw[List.take_succ_eq_append_getElem b,List.map_append,List.sum_append];simp
theorem entsW_succ {l:List Ent}{k:Nat}{e:Ent}(h:l[k]?=some e):zCa (l.take (k+1))=zCa (l.take k)+entW e:=by
 obtain⟨b,rfl⟩:=List.getElem?_eq_some_iff.1 h;rw[List.take_succ_eq_append_getElem b,zGD];simp[zCa]
theorem wts_le (l:List zCQ){k m:Nat}(h:k≤m):wts (l.take k)≤wts (l.take m):=by
 have e:l.take k=(l.take m).take k:=by rw[List.take_take,Nat.min_eq_left h]
 have b:l.take m=(l.take m).take k++(l.take m).drop k:=(List.take_append_drop _ _).symm;unfold wts;rw[e]
 conv=>rhs;rw[b]
 rw[List.map_append,List.sum_append];omega
def Light6 (l:List zCQ)(b:Bool):Prop:=b=false→(∀i s,i<80→l[i]?=some s→s.light)∧wts (l.take 80)≤6000
def HeavyTold6 (w:World)(l:List zCQ)(e:Ending)(w':World):Prop:=∃hv,e=.returned (.bool hv)∧Light6 l hv∧∃q,w'=w.drewN q
theorem heavy6_calls {w:World}{p:Option Addr}{n c:Nat}{l:List zCQ}(hx:Steps5 w p n l)(hn:n≤140737488355328) :
  Calls prog 39 #[.slice p n c] w (HeavyTold6 w l):=by
 have Hx:=zh hx;clear hx
 go_enter func39,ntmps39
 go_wp2_with fail
 go_loopw [3,4,5] (fun a i _ wr=>∃k x q:Nat,k≤n∧k≤80∧i=.int .i64 k∧a=.int .i64 x∧x≤6000∧wts (l.take k)≤x∧(∀i s,i<k→l[i]?=some s→s.light)∧wr=w.drewN q) (fun _ i _ _=>n-(intOf i).toNat)
 case atStart=>exact⟨0,0,0,Nat.zero_le _,by omega,rfl,rfl,by omega,Nat.le_refl _,fun i s h=>by omega,rfl⟩
 case round =>
  obtain⟨k,x,q,hk,aq,rfl,rfl,ak,aa,C,rfl⟩:=hrel;have G:=zh aa;clear aa;have z:=zh C;clear C
  by_cases av:k<n
  ·by_cases ap:k<80
   ·have Y:=Hx.o.1;have B:k<l.length:=by omega
    obtain⟨s,D⟩:∃s,l[k]?=some s:=⟨_,List.getElem?_eq_getElem B⟩;rcases Hx.o.2 with h0|⟨g,o,rfl,V⟩
    ·rw[h0]at B;simp at B
    have m:=V k s D;obtain⟨-,-,-,al,am,an,-⟩:=m.ok;have c3:w.cell? ⟨g,o+k*6+3,none⟩=some (.slice s.pl s.nl s.cl):=m.c3;have c4:w.cell? ⟨g,o+k*6+4,none⟩=some (.slice s.pn s.nn s.cn):=m.c4;have c5:w.cell? ⟨g,o+k*6+5,none⟩=some (.slice s.pd s.nd s.cd):=m.c5;have J:s.nd=s.data.length:=by obtain⟨_,_,e⟩:=m.hd.slice;simp only[Value.slice.injEq]at e;exact e.2.1
    have M:s.nn=s.nodes.length:=by obtain⟨_,_,e⟩:=m.hn.slice;simp only[Value.slice.injEq]at e;exact e.2.1
    have L:s.nl=s.es.length:=by obtain⟨-,⟨-,_,_,e,-⟩,-⟩:=m.he;simp only[Value.slice.injEq]at e;exact e.2.1
    have E:=zh m.he;have Hs:=zh D;have Q:=zh J;have R:=zh M;have F:=zh L;rw[←M]at al;rw[←J]at am;rw[←L]at an;clear m V D B J M L Y;generalize ah:s.nd=nd at *;generalize ai:s.nn=nn at *;generalize U:s.nl=nl at *;have ao:=zh U;clear ah ai U;go_wp2_with fail
    go_quiet (fail)
    go_wp2_with fail;rw[World.drewN_drewN]
    go_loopw [3,5] (fun a i wr=>∃j y q:Nat,j≤nl∧i=.int .i64 j∧a=.int .i64 y∧5*j≤y∧nd+nn≤y∧y≤300000000000000∧x+5+nd+nn+zCa (s.es.take j)≤y∧(∀i e,i<j→s.es[i]?=some e→e.data.length≤6000∧e.nodes.length≤6000)∧wr=w.drewN q) (fun _ i _=>nl-(intOf i).toNat)
    case atStart=>exact⟨0,x+5+nd+nn,_,Nat.zero_le _,rfl,by go_num,by omega,by omega,by omega,Nat.le_refl _,fun i e h=>by omega,rfl⟩
    case round =>
     obtain⟨j,y,q',hj,rfl,rfl,aw,ax,ay,ac,X,rfl⟩:=hrel;have S:=zh ac;clear ac;have P:=zh X;clear X
     by_cases aj:j<nl
     ·have I:j<s.es.length:=by rw[←F.o];exact aj
      have A:=List.getElem?_eq_getElem I;obtain⟨b2,o2,v,K,⟨W,Z,ar,au⟩,-,-,-,d2,d3⟩:=E.o.ent I;obtain⟨p1,c1,e1⟩:=W.slice;obtain⟨p2,c2,e2⟩:=Z.slice;rw[e1]at d2;rw[e2]at d3;have ag:=c3;rw[K]at ag;have ad:=zh (entsW_succ A);have He:=zh A;clear A e1 e2 W Z K c3;generalize s.es[j]=ee at *;generalize T:ee.data.length=m1 at *;generalize N:ee.nodes.length=m2 at *;have H1:=zh T;have H2:=zh N;have af:=zW (x+5+nd+nn+zCa (s.es.take (j+1))≤y+5+m1+m2) (by
       have a:=S.o;have b:=ad.o;unfold entW at b;omega)
      clear T N I
      by_cases ab:y+5+m1+m2≤6000
      ·have r:=zW (∀i e,i<j+1→s.es[i]?=some e→e.data.length≤6000∧e.nodes.length≤6000) (fun i e O A=>by
        by_cases H:i<j
        ·exact P.o i e H A
        ·obtain rfl:i=j:=by omega
         rw[He.o]at A;cases A;have T:=H1.o;have N:=H2.o;omega)
       go_wp2_with fail
       go_quiet (fail)
       go_wp2_with fail;go_roundw
       case rel=>exact⟨j+1,y+5+m1+m2,_,by omega,by go_num,by go_num,by omega,by omega,by omega,af.o,r.o,rfl⟩
       case measure=>simp[intOf];omega
      ·go_wp2_with fail
       go_quiet (fail)
       go_wp2_with fail;go_ret;exact⟨true,rfl,(fun h=>by cases h),_,rfl⟩
     ·by_cases ab:y≤6000
      ·have r:=zW (∀i t,i<k+1→l[i]?=some t→t.light) (fun i t O ht=>by
        by_cases H:i<k
        ·exact z.o i t H ht
        ·obtain rfl:i=k:=by omega
         rw[Hs.o]at ht;cases ht;have T:=Q.o;have N:=R.o;have h3:=F.o;refine⟨by omega,by omega,by omega,fun e A=>?_⟩;obtain⟨i,O,rfl⟩:=List.getElem_of_mem A;exact P.o i _ (by omega) (List.getElem?_eq_getElem O))
       have ae:=zW (wts (l.take (k+1))≤y) (by
        have a:=S.o;have b:=wts_succ Hs.o;have c:=F.o;have d:=Q.o;have e:=R.o;have f:=G.o;rw[List.take_of_length_le (by omega)]at a;unfold wt5 at b;omega)
       go_wp2_with fail;go_roundw
       case rel=>exact⟨k+1,y,q',by omega,by omega,by go_num,rfl,ab,ae.o,r.o,rfl⟩
       case measure=>simp[intOf];omega
      ·go_wp2_with fail;go_ret;exact⟨true,rfl,(fun h=>by cases h),q',rfl⟩
   ·obtain rfl:k=80:=by omega
    have Hf:=zW (Light6 l false) fun _=>⟨fun i s O D=>z.o i s O D,Nat.le_trans G.o ak⟩;go_wp2_with fail;go_ret;exact⟨false,rfl,Hf.o,q,rfl⟩
  ·have Hf:=zW (Light6 l false) (fun _=>⟨fun i s O D=>by
    have T:=(List.getElem?_eq_some_iff.1 D).1;have N:=Hx.o.1;exact z.o i s (by omega) D,by
    have N:=Hx.o.1;have h3:=G.o;rw[List.take_of_length_le (by omega)]at h3;rw[List.take_of_length_le (by omega)];omega⟩)
   go_wp2_with fail;go_ret;exact⟨false,rfl,Hf.o,q,rfl⟩
structure zAR where
 n:Bs
 b:Value
 f:zAT
def zAR.cells (x:zAR):List Value:=[encStr x.n,x.b,.int .i64 (x.f.lasts:Int)]
def zAR.key (x:zAR):Bs×zAT:=(x.n,x.f)
def zFg:Option Nat→Int
 | none=>-1
 | some k=>k
theorem zFL (L:List zAR)(i:Nat)(x:zAR)(h:L[i]?=some x)(j:Nat)(b:j<3):(L.flatMap zAR.cells)[i*3+j]?=x.cells[j]?:=by
 induction L generalizing i with
 | nil=>simp at h
 | cons y r ih =>
  rw[List.flatMap_cons];cases i with
  | zero =>
   simp at h;subst h;rw[List.getElem?_append_left (by simp[zAR.cells];omega)];simp
  | succ i =>
   rw[List.getElem?_append_right (by simp[zAR.cells];omega)];have e:(i+1)*3+j-y.cells.length=i*3+j:=by simp[zAR.cells];omega
   rw[e];exact ih i (by simpa using h)
structure zAc (w:World)(r:Nat)(v:Value)(L:List zAR)(own:Nat→Prop)(D:zAA):Prop where
 cells:w.heap[r]?=some (.cells #[.int .i64 (D.room:Int),v,.int .i64 (zFg D.fuse)] 118 (0,0))
 row:OwnR w 127 3 v L.length (L.flatMap zAR.cells)
 files:D.files=L.map zAR.key
 data:∀x∈L,zAj w 5 x.b x.f.data
 or:own r
 ov:∀k,v.ownBlock=some k→own k∧k≠r
 ob:∀x∈L,∀k,x.b.ownBlock=some k→own k∧k≠r∧v.ownBlock≠some k
 olt:∀k,own k→k<w.heap.size
 ok:D.OK
def RefAt (w:World)(r:Nat)(D:zAA)(own:Nat→Prop):Prop:=∃v L,zAc w r v L own D
theorem zAc.keep {w w':World}{r:Nat}{v:Value}{L:List zAR}{own:Nat→Prop}{D:zAA}(h:zAc w r v L own D)(f:w.heap.size≤w'.heap.size)(c:∀k,own k→w'.heap[k]?=w.heap[k]?):zAc w' r v L own D where
 cells:=(c r h.or).trans h.cells
 row:=h.row.keep fun k b=>c k (h.ov k b).1
 files:=h.files
 data:=fun x d=>OwnR.keep (h.data x d) fun k b=>c k (h.ob x d k b).1
 or:=h.or
 ov:=h.ov
 ob:=h.ob
 olt:=fun k b=>Nat.lt_of_lt_of_le (h.olt k b) f
 ok:=h.ok
theorem RefAt.keep {w w':World}{r:Nat}{own:Nat→Prop}{D:zAA}(h:RefAt w r D own)(c:w.heap.size≤w'.heap.size)(b:∀k,own k→w'.heap[k]?=w.heap[k]?):RefAt w' r D own:=by
 obtain⟨v,L,h⟩:=h;exact⟨v,L,h.keep c b⟩
section
variable {w:World} {r:Nat} {v:Value} {L:List zAR} {own:Nat→Prop} {D:zAA}
theorem zAc.c0 (h:zAc w r v L own D):w.cell? ⟨r,0,none⟩=some (.int .i64 (D.room:Int)):=zAG h.cells rfl
theorem zAc.c1 (h:zAc w r v L own D):w.cell? ⟨r,1,none⟩=some v:=zAG h.cells rfl
theorem zAc.c2 (h:zAc w r v L own D):w.cell? ⟨r,2,none⟩=some (.int .i64 (zFg D.fuse)):=zAG h.cells rfl
theorem zAc.len (h:zAc w r v L own D):L.length=D.files.length:=by rw[h.files,List.length_map]
theorem zAc.at (h:zAc w r v L own D):L=[]∨∃g c,v=.slice (some ⟨g,0,none⟩) L.length c∧L.length≤c∧∀i x,L[i]?=some x→w.cell? ⟨g,i*3,none⟩=some (encStr x.n)∧w.cell? ⟨g,i*3+1,none⟩=some x.b∧w.cell? ⟨g,i*3+2,none⟩=some (.int .i64 (x.f.lasts:Int)):=by
 rcases h.row.2 with⟨rfl,hn⟩|⟨g,d,cur,e,m,k,_⟩
 ·exact .inl (List.eq_nil_of_length_eq_zero hn)
 ·refine .inr ⟨g,d,e,k,fun i x l=>?_⟩;have j:=h.row.cells (g:=g) (by rw[e];rfl);refine⟨?_,?_,?_⟩
  ·have:=j (i*3+0) (encStr x.n) ((zFL L i x l 0 (by omega)).trans rfl);rwa[add_zero]at this
  ·have:=j (i*3+1) x.b ((zFL L i x l 1 (by omega)).trans rfl);rwa[add_zero]at this
  ·have:=j (i*3+2) _ ((zFL L i x l 2 (by omega)).trans rfl);rwa[add_zero]at this
theorem zAc.slice (h:zAc w r v L own D):∃p c,v=.slice p L.length c:=OwnR.shape h.row
end
def zA6 (n:Bs):List Bs→Nat
 | []=>0
 | x::r=>if bytesBefore x n then zA6 n r+1 else 0
def isAt (n:Bs)(l:List Bs):Bool:=l[zA6 n l]? ==some n
theorem less_before (x:Bs)(s:ByteArray):Op.bytesLess x s.toList=bytesBefore x (nm s):=by
 have e:s.toList=nm s:=ByteArray.toList_eq s;rw[e,Bool.eq_iff_iff,bb_lt,bytesLess_eq,decide_eq_true_eq]
theorem drop_cons {α:Type}{l:List α}{k:Nat}{x:α}(h:l[k]?=some x):l.drop k=x::l.drop (k+1):=by
 obtain⟨b,rfl⟩:=List.getElem?_eq_some_iff.1 h;exact List.drop_eq_getElem_cons b
theorem zEH {n x:Bs}{r:List Bs}(h:bytesBefore x n=true):zA6 n (x::r)=zA6 n r+1:=by
 show(if bytesBefore x n then _ else _)=_
 rw[if_pos h]
theorem zFb {n x:Bs}{r:List Bs}(h:bytesBefore x n=false):zA6 n (x::r)=0:=by
 show(if bytesBefore x n then _ else _)=_
 rw[if_neg (by simp[h])]
theorem spotN_le (n:Bs):∀l,zA6 n l≤l.length
 | []=>Nat.le_refl _
 | x::r=>by
  have:=spotN_le n r;cases h:bytesBefore x n with
  | true=>rw[zEH h];simp;omega
  | false=>rw[zFb h];exact Nat.zero_le _
theorem zBt {w:World}{r:Nat}{v:Value}{L:List zAR}{own:Nat→Prop}{D:zAA}(h:zAc w r v L own D)(s:ByteArray) :
  Calls prog 70 #[.pointer (some ⟨r,0,none⟩),.string s] w fun e w'=>e=.returned (.tuple #[.int .i64 (zA6 (nm s) (L.map zAR.n):Int),.bool (isAt (nm s) (L.map zAR.n))])∧∃q,w'=w.drewN q:=by
 obtain⟨p,c,rfl⟩:=h.slice;have T:=h.c1;have F:=zh h.at
 have E:L.length≤4096:=by rw[h.len];exact h.ok.count
 clear h;have A:(L.map zAR.n).length=L.length:=List.length_map ..;generalize P:L.length=N at *;have S:=zh P;have t:=zh A;clear P A
 go_enter func70,ntmps70
 go_wp2_with fail
 go_loop [6] (fun i=>∃k:Nat,k≤N∧i=.int .i64 k∧zA6 (nm s) (L.map zAR.n)=k+zA6 (nm s) ((L.map zAR.n).drop k)) (fun i=>N-(intOf i).toNat)
 case atStart=>exact⟨0,Nat.zero_le _,rfl,by simp⟩
 case round =>
  obtain⟨k,W,rfl,b⟩:=hrel
  by_cases J:k<N
  ·have l:k<L.length:=by rw[S.o];exact J
   obtain⟨y,O⟩:∃y,L[k]?=some y:=⟨_,List.getElem?_eq_getElem l⟩;have m:(L.map zAR.n)[k]?=some y.n:=by rw[List.getElem?_map,O];rfl
   rw[drop_cons m]at b;rcases F.o with V|⟨g,T,U,-,Q⟩
   ·rw[V]at l;simp at l
   cases U;obtain⟨M,-,-⟩:=Q k y O;rw[enc_str]at M;have a:=zh b;have G:=zh m;clear Q l O b m;generalize y.n=x at *;cases B:bytesBefore x (nm s)with
   | true =>
    have H:Op.bytesLess x s.toList=true:=by rw[less_before];exact B
    go_wp2_with fail
    go_round
    case rel=>exact⟨k+1,by omega,by go_num,by rw[a.o,zEH B];omega⟩
    case measure=>simp[intOf];omega
   | false =>
    have H:Op.bytesLess x s.toList=false:=by rw[less_before];exact B
    have d:zA6 (nm s) (L.map zAR.n)=k:=by rw[a.o,zFb B];rfl
    have z:isAt (nm s) (L.map zAR.n)=(x==nm s):=by unfold isAt;rw[d,G.o];rfl
    have f:=zh (show Value.tuple #[.int .i64 (k:Int),.bool (x==s.toList)]=.tuple #[.int .i64 (zA6 (nm s) (L.map zAR.n):Int),.bool (isAt (nm s) (L.map zAR.n))] by rw[d,z,ByteArray.toList_eq];rfl);clear d z B;go_wp2_with fail
    go_quiet (fail)
    go_wp2
    go_ret2
    exact⟨congrArg Ending.returned f.o,_,rfl⟩
  ·have I:k=N:=by omega
   subst I;have R:(L.map zAR.n).drop k=[]:=List.drop_of_length_le (by rw[t.o];exact Nat.le_refl _);rw[R]at b;have j:zA6 (nm s) (L.map zAR.n)=k:=b;have C:isAt (nm s) (L.map zAR.n)=false:=by unfold isAt;rw[j,List.getElem?_eq_none (by rw[t.o];exact Nat.le_refl _)];rfl
   have f:=zh (show Value.tuple #[.int .i64 (k:Int),.bool false]=.tuple #[.int .i64 (zA6 (nm s) (L.map zAR.n):Int),.bool (isAt (nm s) (L.map zAR.n))] by rw[j,C]);clear b j C R;go_wp2_with fail
   go_quiet (fail)
   go_wp2
   go_ret2
   exact⟨congrArg Ending.returned f.o,_,rfl⟩
/-! ### Where names stand -/
section
variable {α:Type}
theorem key_ne {n m:Bs}(h:n≠m):(n==m)=false:=by simpa using h
theorem zGG (n m:Bs)(a:α)(r:List (Bs×α)):Sat.get n ((m,a)::r)=if m=n then some a else Sat.get n r:=by
 unfold Sat.get;rw[List.find?_cons]
 by_cases e:m=n
 ·rw[if_pos e];simp[e]
 ·rw[if_neg e];simp[key_ne e]
theorem del_cons (n m:Bs)(a:α)(r:List (Bs×α)):del n ((m,a)::r)=if m=n then del n r else(m,a)::del n r:=by
 unfold del;rw[List.filter_cons]
 by_cases e:m=n
 ·rw[if_pos e];simp[e]
 ·rw[if_neg e];simp[key_ne e]
theorem srt_after {n m:Bs}{a:α}{r:List (Bs×α)}(h:Srt ((m,a)::r))(f:bytesBefore m n=false):∀p∈r,p.1≠n∧bytesBefore n p.1=true:=by
 intro p g;have b:=(List.pairwise_cons.1 h).1 p g;have b:bytesBefore m p.1=true:=b
 by_cases e:m=n
 ·subst e;exact⟨(bb_ne b).symm,b⟩
 ·rcases bb_total m n e with c|c
  ·rw[f]at c;cases c
  ·have d:=zF6 c b;exact⟨(bb_ne d).symm,d⟩
theorem zGg (n:Bs):∀{L:List (Bs×α)},Srt L→isAt n (L.map (·.1))=(Sat.get n L).isSome∧∀a,Sat.get n L=some a→L[zA6 n (L.map (·.1))]?=some (n,a)
 | [],_=>⟨rfl,fun a h=>by cases h⟩
 | (m,a)::r,h=>by
  have j:Srt r:=(List.pairwise_cons.1 h).2;obtain⟨d,f⟩:=zGg n j;cases c:bytesBefore m n with
  | true =>
   have e:m≠n:=bb_ne c;have es:zA6 n (((m,a)::r).map (·.1))=zA6 n (r.map (·.1))+1:=zEH c;rw[zGG,if_neg e];refine⟨?_,fun x b=>?_⟩
   ·rw[←d];unfold isAt;rw[es];rfl
   ·rw[es];exact f x b
  | false =>
   have es:zA6 n (((m,a)::r).map (·.1))=0:=zFb c
   by_cases e:m=n
   ·subst e;rw[zGG,if_pos rfl];refine⟨?_,fun x b=>?_⟩
    ·unfold isAt;rw[es];simp
    ·rw[es];cases b;rfl
   ·have g:Sat.get n r=none:=zCh.2 fun p i=>(srt_after h c p i).1;rw[zGG,if_neg e,g];refine⟨?_,fun x b=>by cases b⟩;unfold isAt;rw[es];simp[e]
theorem del_after {n m:Bs}{a:α}{r:List (Bs×α)}(h:Srt ((m,a)::r))(b:bytesBefore m n=false):del n r=r:=zC3 (zCh.2 fun p c=>(srt_after h b p c).1)
theorem del_at (n:Bs):∀{L:List (Bs×α)},Srt L→isAt n (L.map (·.1))=true→del n L=L.take (zA6 n (L.map (·.1)))++L.drop (zA6 n (L.map (·.1))+1)
 | [],_,h=>by cases h
 | (m,a)::r,h,ha=>by
  have d:Srt r:=(List.pairwise_cons.1 h).2;cases b:bytesBefore m n with
  | true =>
   have es:zA6 n (((m,a)::r).map (·.1))=zA6 n (r.map (·.1))+1:=zEH b;have c:isAt n (r.map (·.1))=true:=by
    rw[←ha];unfold isAt;rw[es];rfl
   rw[del_cons,if_neg (bb_ne b),es,List.take_succ_cons,List.drop_succ_cons,del_at n d c];rfl
  | false =>
   have es:zA6 n (((m,a)::r).map (·.1))=0:=zFb b;have e:m=n:=by
    unfold isAt at ha;rw[es]at ha;simpa using ha
   rw[del_cons,if_pos e,es,del_after h b];rfl
theorem ins_at (n:Bs)(f:α):∀{L:List (Bs×α)},Srt L→Sat.get n L=none→ins (n,f) L=L.take (zA6 n (L.map (·.1)))++(n,f)::L.drop (zA6 n (L.map (·.1)))
 | [],_,_=>rfl
 | (m,a)::r,h,i=>by
  have j:Srt r:=(List.pairwise_cons.1 h).2;have d:m≠n:=fun e=>by rw[zGG,if_pos e]at i;cases i
  cases g:bytesBefore m n with
  | true =>
   have es:zA6 n (((m,a)::r).map (·.1))=zA6 n (r.map (·.1))+1:=zEH g;have b:bytesBefore n m=false:=by
    cases c:bytesBefore n m with
    | false=>rfl
    | true =>
     have:=zF6 c g;rw[zF5]at this;cases this
   rw[zGG,if_neg d]at i
   show(if bytesBefore n m then _ else _)=_
   rw[if_neg (by simp[b]),es,List.take_succ_cons,List.drop_succ_cons,ins_at n f j i];rfl
  | false =>
   have es:zA6 n (((m,a)::r).map (·.1))=0:=zFb g;have b:bytesBefore n m=true:=by
    rcases bb_total m n d with c|c
    ·rw[g]at c;cases c
    ·exact c
   show(if bytesBefore n m then _ else _)=_
   rw[if_pos b,es];rfl
theorem put_at (n:Bs)(f:α):∀{L:List (Bs×α)},Srt L→isAt n (L.map (·.1))=true→put n f L=L.set (zA6 n (L.map (·.1))) (n,f)
 | [],_,h=>by cases h
 | (m,a)::r,h,ha=>by
  have i:Srt r:=(List.pairwise_cons.1 h).2;cases b:bytesBefore m n with
  | true =>
   have es:zA6 n (((m,a)::r).map (·.1))=zA6 n (r.map (·.1))+1:=zEH b;have c:isAt n (r.map (·.1))=true:=by
    rw[←ha];unfold isAt;rw[es];rfl
   have d:bytesBefore n m=false:=by
    cases g:bytesBefore n m with
    | false=>rfl
    | true =>
     have:=zF6 g b;rw[zF5]at this;cases this
   rw[es,List.set_cons_succ,←put_at n f i c]
   show ins (n,f) (del n ((m,a)::r))=_
   rw[del_cons,if_neg (bb_ne b)]
   show(if bytesBefore n m then _ else _)=_
   rw[if_neg (by simp[d])];rfl
  | false =>
   have es:zA6 n (((m,a)::r).map (·.1))=0:=zFb b;have e:m=n:=by
    unfold isAt at ha;rw[es]at ha;simpa using ha
   rw[es,List.set_cons_zero]
   show ins (n,f) (del n ((m,a)::r))=_
   rw[del_cons,if_pos e,del_after h b];cases r with
   | nil=>rfl
   | cons p q =>
    have:=(srt_after h b p (List.mem_cons_self ..)).2
    show(if bytesBefore n p.1 then _ else _)=_
    rw[if_pos this]
end
section
variable {w:World} {r:Nat} {v:Value} {L:List zAR} {own:Nat→Prop} {D:zAA}
theorem zAc.names (h:zAc w r v L own D):L.map zAR.n=D.files.map (·.1):=by
 rw[h.files,List.map_map];rfl
theorem zAc.is (h:zAc w r v L own D)(n:Bs):isAt n (L.map zAR.n)=(Sat.get n D.files).isSome:=by
 rw[h.names];exact(zGg n h.ok.srt).1
theorem zAc.hit (h:zAc w r v L own D){n:Bs}{f:zAT}(d:Sat.get n D.files=some f):∃x,L[zA6 n (L.map zAR.n)]?=some x∧x.n=n∧x.f=f:=by
 have b:=(zGg n h.ok.srt).2 f d;rw[h.names];rw[h.files]at b ⊢;rw[List.getElem?_map]at b;cases c:L[zA6 n (List.map (fun x=>x.fst) (List.map zAR.key L))]? with
 | none=>rw[c]at b;cases b
 | some x =>
  rw[c]at b;have:=Option.some.inj b;exact⟨x,rfl,congrArg Prod.fst this,congrArg Prod.snd this⟩
end
/-! ### may,did -/
theorem rmay_burnt (d:Nat)(p:Option Addr)(n c:Nat)(w:World)(b:w.cell? ⟨d,2,none⟩=some (.int .i64 0)) :
  Calls prog 69 #[.pointer (some ⟨d,0,none⟩),.slice p n c] w fun e w'=>e=.returned (.int .i64 9)∧w=w':=by
 go_enter func69,ntmps69
 go_wp2
 go_ret;exact⟨rfl,rfl⟩
theorem rmay_names (d:Nat)(p:Option Addr)(g:List ByteArray)(c:Nat)(w:World)(l:Int)(B:w.cell? ⟨d,2,none⟩=some (.int .i64 l))
  (D:(l==0)=false) (A:zEs w p g) (E:g.length≤140737488355328) (v:∀s∈g,s.size≤9223372036854775807) :
  Calls prog 69 #[.pointer (some ⟨d,0,none⟩),.slice p g.length c] w fun e w'=>e=.returned (.int .i64 (namesE g))∧w=w':=by
 go_enter func69,ntmps69
 go_wp2
 go_loop [5] (fun i=>∃k:Nat,k≤g.length∧i=.int .i64 k∧((g.take k).map nm).all okN=true) (fun i=>g.length-(intOf i).toNat)
 case atStart=>exact⟨0,Nat.zero_le _,rfl,rfl⟩
 case round =>
  obtain⟨k,C,rfl,f⟩:=hrel
  by_cases j:k<g.length
  ·have t:g[k]?=some g[k]:=List.getElem?_eq_getElem j;rcases A with h|⟨b,o,rfl,a⟩
   ·subst h;simp at j
   have y:=a k _ t;have F:g[k].size≤9223372036854775807:=v _ (List.getElem_mem j);have m:=zh (take_ok j f);have n:=zh (bad_at j);clear a v f t;rw[okN_nm]at m n;generalize g[k]=s at *
   by_cases z:1≤s.size
   ·by_cases r:s.size≤64
    ·go_wp2
     go_round
     case rel=>exact⟨k+1,by omega,by go_num,m.o (by simp[z,r])⟩
     case measure=>simp[intOf];omega
    ·go_wp2
     go_ret;exact⟨by rw[n.o (by simp[r])];rfl,rfl⟩
   ·go_wp2
    go_ret;exact⟨by rw[n.o (by simp[z])];rfl,rfl⟩
  ·have q:=zh f;clear f
   go_wp2
   go_ret;have h:=q.o;rw[List.take_of_length_le (by omega)]at h;exact⟨by simp[namesE,h],rfl⟩
section
variable {w:World} {r:Nat} {v:Value} {L:List zAR} {own:Nat→Prop} {D:zAA}
theorem left_zero {f:Option Nat}(h:f≠some 0):(zFg f==0)=false:=by
 cases f with
 | none=>rfl
 | some k =>
  have:k≠0:=fun e=>h (by rw[e]);simp[zFg];omega
theorem zCY (h:zAc w r v L own D)(p:Option Addr)(b:List ByteArray)(c:Nat)(j:zEs w p b)(i:b.length≤140737488355328)(g:∀s∈b,s.size≤9223372036854775807) :
  Calls prog 69 #[.pointer (some ⟨r,0,none⟩),.slice p b.length c] w fun e w'=>e=.returned (.int .i64 (D.may (b.map nm):Int))∧w=w':=by
 have f:=h.c2
 by_cases d:D.fuse=some 0
 ·rw[d]at f;refine(rmay_burnt r p b.length c w f).mono ?_;rintro e w' ⟨rfl,rfl⟩;exact⟨by simp[zAA.may,d],rfl⟩
 ·refine(rmay_names r p b c w _ f (left_zero d) j i g).mono ?_;rintro e w' ⟨rfl,rfl⟩;refine⟨?_,rfl⟩;unfold namesE zAA.may;rw[if_neg d]
  split<;>rfl
theorem zAc.fuse_set (h:zAc w r v L own D)(f:Option Nat)(d:∀k,f=some k→k≤9223372036854775807):zAc (w.setCell ⟨r,2,none⟩ (.int .i64 (zFg f))) r v L own {D with fuse:=f} where
 cells:=zAC h.cells 2 _
 row:=h.row.keep fun k b=>set_other _ (h.ov k b).2
 files:=h.files
 data:=fun x c=>OwnR.keep (h.data x c) fun k b=>set_other _ (h.ob x c k b).2.1
 or:=h.or
 ov:=h.ov
 ob:=h.ob
 olt:=fun k b=>by
  have:=h.olt k b;simpa[World.setCell]using this
 ok:={h.ok with fuse:=d}
theorem zDq {a:Addr}{u:Value}(h:own a.block):Chg own w (w.setCell a u):=(Chg.setCell w a u).mono fun k _ e=>by rw[e];exact h
theorem zCy (h:zAc w r v L own D)(l:D.fuse≠some 0) :
  Calls prog 72 #[.pointer (some ⟨r,0,none⟩)] w fun e w'=>e=.returned (.int .i64 0)∧zAc w' r v L own D.done∧Chg own w w':=by
 have c:=h.c2;have q:=zAE h.cells 2;cases b:D.fuse with
 | none =>
  rw[b]at c;have d:D.done=D:=by unfold zAA.done;rw[b];cases D;simp at b;subst b;rfl
  have f:=zW (zAc w r v L own D.done∧Chg own w w) (⟨by rw[d];exact h,Chg.refl _ _⟩);have g:w.cell? ⟨r,2,none⟩=some (.int .i64 (-1)):=c;clear h l b d c
  go_enter func72,ntmps72
  go_wp2
  go_ret;exact⟨rfl,f.o⟩
 | some k =>
  rw[b]at c;have n:k≠0:=fun e=>l (by rw[b,e]);have p:k≤9223372036854775807:=h.ok.fuse k b;have d:D.done={D with fuse:=some (k-1) }:=by unfold zAA.done;rw[b];rfl
  have i:=h.fuse_set (some (k-1)) (fun j e=>by have:=Option.some.inj e;omega);have m:zFg (some (k-1))=(k:Int)-1:=by show((k-1:Nat):Int)=_;omega
  rw[m,←d]at i;have f:=zh (And.intro i (zDq (w:=w) (a:=⟨r,2,none⟩) (u:=.int .i64 ((k:Int)-1)) h.or));have g:w.cell? ⟨r,2,none⟩=some (.int .i64 (k:Int)):=c;clear h l b d c i m
  go_enter func72,ntmps72
  go_wp2
  go_ret;exact⟨rfl,f.o⟩
theorem rfuse_calls (h:zAc w r v L own D)(n:Int)(hn:n≤9223372036854775807)(f:-9223372036854775808≤n) :
  Calls prog 49 #[.pointer (some ⟨r,0,none⟩),.int .i64 n] w fun e w'=>e=.returned (.tuple #[])∧zAc w' r v L own (D.setFuse n)∧Chg own w w':=by
 have g:=h.c2;have i:=zAE h.cells 2;have b:=h.fuse_set (if n<0 then none else some n.toNat) (fun k e=>by split at e<;>simp at e;omega);have c:zFg (if n<0 then none else some n.toNat)=max (-1) n:=by
  split
  ·show(-1:Int)=_
   omega
  ·show((n.toNat:Nat):Int)=_
   omega
 rw[c]at b;have d:=zW (zAc (w.setCell ⟨r,2,none⟩ (.int .i64 (max (-1) n))) r v L own (D.setFuse n)∧Chg own w (w.setCell ⟨r,2,none⟩ (.int .i64 (max (-1) n)))) (⟨b,zDq h.or⟩);clear h b c
 go_enter func49,ntmps49
 go_wp2
 go_end0
 exact⟨rfl,d.o⟩
end
theorem rnew_calls (w:World)(n:Int)(d:0≤n)(f:n≤1073741824) :
  Calls prog 14 #[.int .i64 n] w fun e w'=>∃r,e=.returned (.tuple #[.pointer (some ⟨r,0,none⟩),.int .i64 0])∧zAc w' r (.slice none 0 0) [] (fun k=>k=r) (zAA.fresh n.toNat)∧Below w.heap.size w w'∧w.heap.size≤r:=by
 obtain⟨m,rfl⟩:∃m:Nat,n=(m:Int):=⟨n.toNat,by omega⟩
 go_enter func14,ntmps14
 go_wp2
 go_ret2
 refine⟨w.heap.size,rfl,?_,(Below.refl _ _).alloc (Nat.le_refl _) _,Nat.le_refl _⟩;exact {
  cells:=zAI w _
  row:=OwnR.nil _ _ _
  files:=rfl
  data:=fun x c=>by cases c
  or:=rfl
  ov:=fun k b=>by cases b
  ob:=fun x c=>by cases c
  olt:=fun k b=>by rw[b];simp
  ok:=ok_fresh _ (by rw[Int.toNat_natCast];omega) }
theorem OwnN.has {w:World}{v:Value}{ns:List Bs}(h:OwnN w v ns):HasN w v ns:=OwnR.holds h
theorem zA2 {d:World}{v v':Value}{B:Nat}(b:v'.ownBlock=v.ownBlock∨∃g,v'.ownBlock=some g∧d.heap.size≤g)(i:∀k,v.ownBlock=some k→B≤k)(j:B≤d.heap.size):∀k,v'.ownBlock=some k→B≤k:=fun k c=>by
 rcases b with e|⟨g,e,f⟩
 ·exact i k (by rw[←e];exact c)
 ·rw[e]at c;cases c;omega
theorem HasN.below {w w1:World}{v:Value}{l:List Bs}(h:HasN w v l)(b:Below w.heap.size w w1):HasN w1 v l:=zAM.chg h (Chg.of_below b) fun _ _=>id
theorem zEt (w:World)(o:Obj){k:Nat}(h:k<w.heap.size):(w.alloc o).heap[k]?=w.heap[k]?:=((Below.refl w.heap.size w).alloc (Nat.le_refl _) o).block k h
def zGE (L:List zAR):Nat:=(L.map fun x=>x.f.data.length).sum
theorem flens_take (L:List zAR){k:Nat}{x:zAR}(h:L[k]?=some x):zGE (L.take (k+1))=zGE (L.take k)+x.f.data.length:=by
 obtain⟨b,rfl⟩:=List.getElem?_eq_some_iff.1 h;rw[List.take_succ_eq_append_getElem b];simp only[zGE,List.map_append,List.map_cons,List.map_nil,List.sum_append,List.sum_cons,List.sum_nil,Nat.add_zero]
theorem flens_le (L:List zAR)(k:Nat):zGE (L.take k)≤zGE L:=by
 have e:zGE L=zGE (L.take k)+zGE (L.drop k):=by
  conv=>lhs;rw[←List.take_append_drop k L]
  simp only[zGE,List.map_append,List.sum_append]
 omega
section
variable {w:World} {r:Nat} {v:Value} {L:List zAR} {own:Nat→Prop} {D:zAA}
theorem zAc.used (h:zAc w r v L own D):D.used=zGE L:=by
 unfold zAA.used zBK zGE;rw[h.files,List.map_map];rfl
theorem zAc.len_le (h:zAc w r v L own D){k:Nat}{x:zAR}(b:L[k]?=some x):x.f.data.length≤1073741824:=by
 have c:=flens_take L b;have d:=flens_le L (k+1);have g:=h.used;have i:=h.ok.used;have j:=h.ok.room;omega
theorem zFy (h:zAc w r v L own D) :
  Calls prog 71 #[.pointer (some ⟨r,0,none⟩)] w fun e w'=>e=.returned (.int .i64 (D.used:Int))∧w'=w:=by
 obtain⟨p,c,rfl⟩:=h.slice;have O:=h.c1;have q:=zh h.at
 have s:=zh h.data;have l:L.length≤4096:=by rw[h.len];exact h.ok.count
 have M:=zh h.used;have d:D.used≤1073741824:=Nat.le_trans h.ok.used h.ok.room;rw[h.used]at d ⊢;have t:=zh d;clear h d;generalize G:L.length=N at *;have E:=zh G;clear G
 go_enter func71,ntmps71
 go_wp2_with fail
 go_loop [3,4] (fun a i=>∃k:Nat,k≤N∧i=.int .i64 k∧a=.int .i64 (zGE (L.take k):Int)) (fun _ i=>N-(intOf i).toNat)
 case atStart=>exact⟨0,Nat.zero_le _,rfl,rfl⟩
 case round =>
  obtain⟨k,T,rfl,rfl⟩:=hrel
  by_cases A:k<N
  ·have b:k<L.length:=by rw[E.o];exact A
   obtain⟨y,n⟩:∃y,L[k]?=some y:=⟨_,List.getElem?_eq_getElem b⟩;have j:y∈L:=List.mem_of_getElem? n;rcases q.o with Q|⟨g,O,P,-,H⟩
   ·rw[Q]at b;simp at b
   cases P;obtain⟨-,B,-⟩:=H k y n;obtain⟨pb,cb,F⟩:=zAY.slice (s.o y j).has;rw[F]at B;have I:=flens_take L n;have z:=flens_le L (k+1);have J:=zh I;have R:zGE (L.take k)+y.f.data.length≤1073741824:=by have:=t.o;omega
   clear H b n j F I z;generalize y.f.data.length=m at *;generalize S:zGE (L.take k)=C at *;go_wp2_with fail
   go_round
   case rel=>exact⟨k+1,by omega,by go_num,by rw[J.o];go_num⟩
   case measure=>simp[intOf];omega
  ·have e:L.take k=L:=List.take_of_length_le (by rw[E.o];omega);rw[e];go_wp2_with fail;go_ret;exact⟨rfl,rfl⟩
theorem zC0 (h:zAc w r v L own D)(s:ByteArray) :
  Calls prog 81 #[.pointer (some ⟨r,0,none⟩),.string s] w (ReadPost w (Sat.get (nm s) D.files)):=by
 have d:=zBt h s;rw[h.is]at d;have V:=h.c1;cases N:Sat.get (nm s) D.files with
 | none =>
  rw[N]at d;have C:=zh d;clear d V h
  go_enter func81,ntmps81
  go_wp2_with fail;refine C.o.mono ?_;rintro e w2 ⟨rfl,q,rfl⟩;go_wp2_with fail
  go_ret2
  exact⟨.slice none 0 0,rfl,OwnR.nil _ _ _,fun k Q=>(by cases Q),⟨rfl,rfl,rfl,Nat.le_refl _,fun _ _=>rfl⟩⟩
 | some f =>
  rw[N]at d;obtain⟨x,J,ad,rfl⟩:=h.hit N;have ac:=h.len_le J;have M:=(h.data x (List.mem_of_getElem? J)).has;have W:zA6 (nm s) (L.map zAR.n)<L.length:=(List.getElem?_eq_some_iff.1 J).1;generalize zA6 (nm s) (L.map zAR.n)=i at *;rcases h.at with h0|⟨g,c0,rfl,ab,Y⟩
  ·rw[h0]at W;simp at W
  obtain⟨-,H,-⟩:=Y i x J;obtain⟨pb,cb,eb⟩:=zAY.slice M;rw[eb]at H M;have I:r<w.heap.size:=h.olt r h.or;have G:g<w.heap.size:=h.olt g (h.ov g rfl).1;have C:=zh d;have K:=zh M;have P:zCq (some x.f)=x.f.data:=rfl;generalize x.f.data=l at *;generalize a:l.length=m at *;have z:=zh a;obtain⟨i0,hi,R,S,T⟩:=info_parts (show(prog.info? 5).map (fun i=>(i.zero,i.size,i.bytes))=some (some (.int .u8 0),1,1) by kernel_rfl);clear d h Y J M N a
  go_enter func81,ntmps81
  go_wp2_with fail;refine C.o.mono ?_;rintro e w2 ⟨rfl,q,rfl⟩;have F:Below w.heap.size w (w.drewN q):=⟨rfl,rfl,rfl,Nat.le_refl _,fun _ _=>rfl⟩;have y:=zh (F.alloc (Nat.le_refl _) (.cells #[] 5));have O:=zW (zAM ((w.drewN q).alloc (.cells #[] 5)) 1 (.slice pb m cb) m (zAQ l)) (by
   have h:=K.o.below y.o;unfold zAY at h;rw[z.o]at h;exact h)
  have aa:=(y.o.cell (p:=⟨r,1,none⟩) I).trans V;have Z:=(y.o.cell (p:=⟨g,i*3+1,none⟩) G).trans H;clear F;go_wp2_with (at_builtin;refine zAP ((w.drewN q).alloc (.cells #[] 5)) rfl (.tmp 16) (.tmp 24) 22 rfl 5 i0 (.int .u8 0) 1 1 underlying22 hi R S T rfl (by decide) (.slice (some ⟨w.heap.size,0,none⟩) 0 0) 0 [] rfl (zAx (w.drewN q) _) (.slice pb m cb) m (zAQ l) rfl O.o (zAO _) (by unfold maxLen;omega) (by omega) ?_;intro U ae b c t;rw[Nat.zero_add,List.nil_append]at b;have X:=y.o.grown c y.o.size (fun j e=>by simp[Value.ownBlock]at e;omega);have A:=zA2 (B:=w.heap.size) t (fun k Q=>by simp[Value.ownBlock]at Q;omega) y.o.size;have E:=zh (And.intro X (And.intro b A));clear b c t X A)
  go_ret2
  refine⟨U,rfl,?_,E.o.2.2,E.o.1⟩;unfold zAj;rw[P,z.o];exact E.o.2.1
end
structure RRIn (w:World)(r:Nat)(R:Rd)(p:Option Addr)(n c:Nat):Prop where
 cells:w.heap[r]?=some (.cells #[.slice p n c,.bool R.bad] 148 (0,0))
 has:zAY w (.slice p n c) R.rest
 cap:n≤c
 ne:(Value.slice p n c).ownBlock≠some r
 len:R.rest.length≤140737488355328
 inv:R.bad=true→R.rest=[]
def RdY (A:Nat→Prop)(w:World)(r:Nat)(R:Rd):Prop:=∃p n c,RRIn w r R p n c∧∀k,(Value.slice p n c).ownBlock=some k→A k
theorem RRIn.n_eq {w:World}{r:Nat}{R:Rd}{p:Option Addr}{n c:Nat}(h:RRIn w r R p n c):R.rest.length=n:=by obtain⟨_,_,e⟩:=h.has.slice;simp only[Value.slice.injEq]at e;exact e.2.1.symm
theorem RRIn.rlt {w:World}{r:Nat}{R:Rd}{p:Option Addr}{n c:Nat}(h:RRIn w r R p n c):r<w.heap.size:=zAB h.cells
theorem RdY.lt {A:Nat→Prop}{w:World}{r:Nat}{R:Rd}(h:RdY A w r R):r<w.heap.size:=let ⟨_,_,_,h,_⟩:=h;h.rlt
theorem RdY.len {A:Nat→Prop}{w:World}{r:Nat}{R:Rd}(h:RdY A w r R):R.rest.length≤140737488355328:=let ⟨_,_,_,h,_⟩:=h;h.len
theorem RdY.inv {A:Nat→Prop}{w:World}{r:Nat}{R:Rd}(h:RdY A w r R):R.bad=true→R.rest=[]:=let ⟨_,_,_,h,_⟩:=h;h.inv
theorem RdY.chg {A S:Nat→Prop}{w w':World}{r:Nat}{R:Rd}(h:RdY A w r R)(d:Chg S w w')(i:¬S r)(f:∀k,A k→¬S k):RdY A w' r R:=by
 obtain⟨p,n,c,h,b⟩:=h;exact⟨p,n,c,⟨(d.block r h.rlt i).trans h.cells,zAY.chg h.has d fun k g=>f k (b k g),h.cap,h.ne,h.len,h.inv⟩,b⟩
theorem RdY.below {A:Nat→Prop}{w w':World}{r:Nat}{R:Rd}(h:RdY A w r R)(b:Below w.heap.size w w'):RdY A w' r R:=h.chg (Chg.of_below b) id fun _ _=>id
theorem RdY.c1 {A:Nat→Prop}{w:World}{r:Nat}{R:Rd}(h:RdY A w r R):w.cell? ⟨r,1,none⟩=some (.bool R.bad):=let ⟨_,_,_,h,_⟩:=h;zAG h.cells rfl
def RStepY (A:Nat→Prop)(w:World)(r:Nat)(b:Rd)(v:Value)(e:Ending)(w':World):Prop:=e=.returned v∧RdY A w' r b∧Chg (fun k=>k=r) w w'
def NumY (A:Nat→Prop)(w:World)(r:Nat)(R:Rd)(e:Ending)(w':World):Prop:=e=.returned (.int .i64 (R.num.1:Int))∧RdY A w' r R.num.2∧Chg (fun k=>k=r) w w'
def RowY (A:Nat→Prop)(w:World)(r:Nat)(b:Bs)(c:Rd)(e:Ending)(w':World):Prop :=
 ∃v,e=.returned v∧zAj w' 5 v b∧(∀j,v.ownBlock=some j→w.heap.size≤j)∧RdY A w' r c∧Chg (fun j=>j=r) w w'
theorem copy_new {w w':World}{e:TypeId}{v:Value}{l:Bs}{m:Nat}(j:l.length=m)(b:OwnR w' e 1 v (0+m) ([]++zAQ l))(f:(w.alloc (.cells #[] e)).grownBy w' (some w.heap.size))(i:v.ownBlock=some w.heap.size∨∃g,v.ownBlock=some g∧(w.alloc (.cells #[] e)).heap.size≤g) :
  zAj w' e v l∧(∀k,v.ownBlock=some k→w.heap.size≤k)∧Below w.heap.size w w':=by
 subst j;rw[Nat.zero_add,List.nil_append]at b;refine⟨b,fun k c=>?_,(zAD w _).trans ((Chg.of_grown f).below (by simp) fun k c e=>?_)⟩
 ·rcases i with h|⟨g,h,d⟩
  ·rw[h]at c;cases c;exact Nat.le_refl _
  ·rw[h]at c;cases c;simp at d;omega
 ·have:=Option.some.inj e;omega
section
variable {w:World} {r:Nat} {R:Rd} {p:Option Addr} {n c:Nat} {A:Nat→Prop}
theorem zEc (h:RdY A w r R) :
  Calls prog 164 #[.pointer (some ⟨r,0,none⟩)] w (RStepY A w r Rd.fail (.tuple #[])):=by
 obtain⟨p,n,c,h,l⟩:=h;have j:w.cell? ⟨r,0,none⟩=some (.slice p n c):=zAG h.cells rfl;have b:w.cell? ⟨r,1,none⟩=some (.bool R.bad):=zAG h.cells rfl;have m:=fun i=>zAE h.cells i;have d:=zW (RStepY A w r Rd.fail (.tuple #[]) (.returned (.tuple #[])) ((w.setCell ⟨r,1,none⟩ (.bool true)).setCell ⟨r,0,none⟩ (.slice none 0 0))) (⟨rfl,⟨none,0,0,⟨by
  have b:=zAC h.cells 1 (.bool true);have f:=zAC b 0 (.slice none 0 0);simpa[Rd.fail]using f,zAj.has (e:=0) (OwnR.nil _ _ _),Nat.le_refl _,fun h=>(by cases h),Nat.zero_le _,fun _=>rfl⟩,fun k g=>(by cases g)⟩,(Chg.setCell w ⟨r,1,none⟩ _).trans (Chg.setCell _ ⟨r,0,none⟩ _) fun _ _ e=>e⟩)
 clear h
 go_enter func164,ntmps164
 go_wp2_with fail
 go_end0
 exact d.o
theorem zEe (h:RdY A w r R)(m:Nat)(ad:m≤9223372036854775807) :
  Calls prog 163 #[.pointer (some ⟨r,0,none⟩),.int .i64 (m:Int)] w (RowY A w r (R.raw m).1 (R.raw m).2):=by
 obtain⟨i0,M,U,G,V⟩:=info_parts (show(prog.info? 5).map (fun i=>(i.zero,i.size,i.bytes))=some (some (.int .u8 0),1,1) by kernel_rfl);have J:=zh (zEc h);obtain⟨p,n,c,h,H⟩:=h;have hn:=h.n_eq;have ab:=h.len;have c0:w.cell? ⟨r,0,none⟩=some (.slice p n c):=zAG h.cells rfl;have K:w.cell? ⟨r,1,none⟩=some (.bool R.bad):=zAG h.cells rfl;have d0:decide ((m:Int)<0)=false:=decide_eq_false (by omega)
 by_cases hm:m≤n
 ·have d1:decide ((n:Int)<(m:Int))=false:=decide_eq_false (by omega);have t:R.raw m=(R.rest.take m,⟨R.rest.drop m,R.bad⟩):=by unfold Rd.raw;rw[if_pos (by omega)]
  rw[t];cases g:R.bad with
  | true =>
   have d:=h.inv g;have Q:m=0:=by rw[d]at hn;simp at hn;omega
   subst Q;rw[g]at K;have I:=zW (RowY A w r (R.rest.take 0) ⟨R.rest.drop 0,true⟩ (.returned (.slice none 0 0)) w) (⟨_,rfl,OwnR.nil _ _ _,fun j N=>(by cases N),⟨p,n,c,⟨by rw[←g];exact h.cells,h.has,h.cap,h.ne,h.len,fun _=>d⟩,H⟩,Chg.refl _ _⟩);clear h t H d
   go_enter func163,ntmps163
   go_wp2_with fail;go_ret;exact I.o
  | false =>
   rw[g]at K;obtain⟨p',Z,ag,hh,C,E,D⟩:=run_tailX (P:=prog) underlying22 M G h.has h.cap r m h.ne hm;have ah:∀W,(Instr.slice 22 (.slice p n c) none (some (.int .i64 (m:Int))) none).run prog W=.ok (.slice p m c) W:=fun W=>zB9 W underlying22 M p n c m (by have:=h.cap;omega);have s:=zAD w (.cells #[] 5);have y:=zW (zAM (w.alloc (.cells #[] 5)) 1 (.slice p m c) m (zAQ (R.rest.take m))) (by
    have a:=zAY.cut (h.has.below s) (k:=m) (by omega) c;unfold zAY at a;rwa[List.length_take,Nat.min_eq_left (by omega)]at a)
   have L:=zh h;have z:=zh (And.intro hh (And.intro C (And.intro E D)));have T:=h.rlt;have HA:=zh H;have af:=zAH c0 s;have v:=zh g;have Hn:=zh hn;clear hh C E h t H D s
   go_enter func163,ntmps163
   go_wp2_with (at_builtin;refine zAP (w.alloc (.cells #[] 5)) rfl (.tmp 23) (.tmp 29) 22 rfl 5 i0 (.int .u8 0) 1 1 underlying22 M U G V rfl (by decide) (.slice (some ⟨w.heap.size,0,none⟩) 0 0) 0 [] rfl (zAx w _) (.slice p m c) m (zAQ (R.rest.take m)) rfl y.o (zAO _) (by unfold maxLen;omega) (by omega) ?_;intro v3 w3 q f l;go_loud (have Y:=zh (copy_new (by rw[List.length_take,Nat.min_eq_left (by have:=Hn.o;omega)]) q f l);have b:w3.heap[r]?=some (.cells #[.slice p n c,.bool R.bad] 148 (0,0)):=(Y.o.2.2.block r T).trans L.o.cells;have ae:=zAW b;have aa:=fun i=>zAE b i;have X:=zh b;clear q f l b))
   go_ret;obtain⟨hv,F,B⟩:=Y.o;have ac:r<w3.heap.size:=zAB X.o;refine⟨v3,rfl,?_,F,⟨p',n-m,Z,⟨?_,?_,z.o.2.1,z.o.2.2.1,?_,fun e=>(by cases e)⟩,fun k O=>HA.o k (z.o.2.2.2 k O)⟩,?_⟩
   ·exact OwnR.keep hv fun k O=>set_other _ fun e=>by
     have:=F k O;have e:k=r:=e;omega
   ·have a:=zAC X.o 0 (.slice p' (n-m) Z);rw[v.o]at a;simpa using a
   ·exact zAY.set (zAY.below z.o.1 B) _ z.o.2.2.1
   ·show(R.rest.drop m).length≤_
    rw[List.length_drop];omega
   ·exact((Chg.of_below B).mono fun _ _ h=>h.elim).trans (Chg.setCell _ ⟨r,0,none⟩ _) fun _ _ e=>e
 ·have d1:decide ((n:Int)<(m:Int))=true:=decide_eq_true (by omega);have t:R.raw m=([],Rd.fail):=by unfold Rd.raw;rw[if_neg (by omega)]
  rw[t];clear h t
  go_enter func163,ntmps163
  go_wp2_with fail;refine J.o.mono ?_;rintro e w1 ⟨rfl,S,C⟩;have e1:=S.c1;have I:=zh (And.intro S C);clear S C;have e1:w1.cell? ⟨r,1,none⟩=some (.bool true):=e1;go_wp2_with fail;go_ret;exact⟨_,rfl,OwnR.nil _ _ _,fun j N=>(by cases N),I.o⟩
theorem zCk (h:RdY A w r R) :
  Calls prog 87 #[.pointer (some ⟨r,0,none⟩)] w fun e w'=>e=.returned (.bool R.whole)∧w'=w:=by
 obtain⟨p,n,c,h,j⟩:=h;have hn:=h.n_eq;have i:w.cell? ⟨r,0,none⟩=some (.slice p n c):=zAG h.cells rfl;have d:w.cell? ⟨r,1,none⟩=some (.bool R.bad):=zAG h.cells rfl;have g:=zW (R.rest.isEmpty=((n:Int)==0)) (by
  rw[Bool.eq_iff_iff,List.isEmpty_iff,←List.length_eq_zero_iff,hn];simp)
 have b:=zW (R.whole=(!R.bad&&R.rest.isEmpty)) rfl;clear h hn;cases f:R.bad with
 | true =>
  rw[f]at d b
  go_enter func87,ntmps87
  go_wp2_with fail;go_ret;exact⟨by rw[b.o];rfl,rfl⟩
 | false =>
  rw[f]at d b
  go_enter func87,ntmps87
  go_wp2_with fail;go_ret;exact⟨by rw[b.o,g.o];rfl,rfl⟩
end
theorem xor_range (a b:Int)(c:0≤a)(d:a<4294967296)(f:0≤b)(g:b<4294967296):0≤bits .xor .u32 a b∧bits .xor .u32 a b<4294967296:=by
 rw[u32_xor a b c d f g];have:a.toNat ^^^ b.toNat<2 ^ 32:=Nat.xor_lt_two_pow (by omega) (by omega);omega
theorem and_one (z:Int)(b:0≤z)(c:z<4294967296):bits .and .u32 z 1=0∨bits .and .u32 z 1=1:=by
 rw[u32_and z 1 b c (by decide) (by decide)];have:z.toNat &&& (1:Int).toNat=z.toNat%2:=Nat.and_one_is_mod _;rw[this];omega
theorem bitF_one {z:Int}(h:bits .and .u32 z 1=1):bitF z=bits .xor .u32 (z/2) 3988292384:=by
 unfold bitF;rw[h]
 congr 1
theorem bitF_zero {z:Int}(b:0≤z)(c:z<4294967296)(h:bits .and .u32 z 1=0):bitF z=z/2:=by
 unfold bitF;rw[h];have e:bits .and .u32 3988292384 (-0%4294967296)=0:=by decide
 rw[e,u32_xor (z/2) 0 (by omega) (by omega) (by decide) (by decide)];have:(z/2).toNat ^^^ (0:Int).toNat=(z/2).toNat:=Nat.xor_zero _;rw[this];omega
theorem bitF_range {z:Int}(b:0≤z)(c:z<4294967296):0≤bitF z∧bitF z<4294967296:=by
 rcases and_one z b c with h|h
 ·rw[bitF_zero b c h];omega
 ·rw[bitF_one h];exact xor_range _ _ (by omega) (by omega) (by decide) (by decide)
theorem zEV {z:Int}(b:0≤z)(c:z<4294967296):∀k,0≤zGK k z∧zGK k z<4294967296
 | 0=>⟨b,c⟩
 | k+1=>bitF_range (zEV b c k).1 (zEV b c k).2
theorem byteF_range {z:Int}(b:0≤z)(d:z<4294967296)(c:UInt8):0≤byteF z c∧byteF z c<4294967296:=by
 have f:c.toNat<256:=c.toNat_lt;have:=xor_range z (c.toNat:Int) b d (by omega) (by omega);exact zEV this.1 this.2 8
theorem rowF_range {z:Int}(b:0≤z)(d:z<4294967296)(l:Bs):0≤rowF z l∧rowF z l<4294967296:=by
 induction l generalizing z with
 | nil=>exact⟨b,d⟩
 | cons c r ih=>exact ih (byteF_range b d c).1 (byteF_range b d c).2
theorem zFZ {w:World}{p:Option Addr}{m c:Nat}{l:Bs}(G:zAY w (.slice p m c) l)(P:l.length≤140737488355328) :
  Calls prog 184 #[.slice p m c] w (fun e w'=>e=.returned (.int .u32 (sumF l))∧w'=w):=by
 have I:m=l.length:=(zCc G).1;have A:=zh G.at
 have C:=zh I.symm;have R:m≤140737488355328:=by omega
 clear G I P
 go_enter func184,ntmps184
 go_wp2_with fail
 go_loop [3,4] (fun v i=>∃j:Nat,j≤m∧i=.int .i64 j∧v=.int .u32 (rowF 4294967295 (l.take j))) (fun _ i=>m-(intOf i).toNat)
 case atStart=>exact⟨0,Nat.zero_le _,rfl,rfl⟩
 case round =>
  obtain⟨j,U,rfl,rfl⟩:=hrel
  by_cases E:j<m
  ·have b:j<l.length:=by rw[C.o];exact E
   have B:=zh (rowF_take 4294967295 l b);rcases A.o with h|⟨S,W,T,H,r⟩
   ·rw[h]at b;simp at b
   rw[C.o]at H;cases H;have M:=r j _ (List.getElem?_eq_getElem b);have t:=rowF_range (z:=4294967295) (by decide) (by decide) (l.take j);generalize l[j]=k at *;generalize rowF 4294967295 (l.take j)=y at *;have N:k.toNat<256:=k.toNat_lt;clear r;go_wp2_with fail;have J:=zW (byteF y k=zGK 8 (bits .xor .u32 y (k.toNat:Int))) rfl;have f:=xor_range y (k.toNat:Int) t.1 t.2 (by omega) (by omega);generalize bits .xor .u32 y (k.toNat:Int)=a at *
   go_loop [3,5] (fun v i=>∃q:Nat,q≤8∧i=.int .i64 q∧v=.int .u32 (zGK q a)) (fun _ i=>8-(intOf i).toNat)
   case atStart=>exact⟨0,Nat.zero_le _,rfl,rfl⟩
   case round =>
    obtain⟨q,V,rfl,rfl⟩:=hrel
    by_cases Q:q<8
    ·have n:=zW (zGK (q+1) a=bitF (zGK q a)) rfl;have d:=zEV f.1 f.2 q;generalize zGK q a=z at *;rcases and_one z d.1 d.2 with D|D
     focus have g:=zh (bitF_zero d.1 d.2 D)
     rotate_left
     focus have g:=zh (bitF_one D)
     all_goals
      go_wp2_with fail;go_round;case rel=>exact⟨q+1,by omega,by go_num,by rw[n.o,g.o]⟩
      case measure=>simp[intOf];omega
    ·have F:q=8:=by omega
     subst F;go_wp2_with fail
     go_round
     case rel=>exact⟨j+1,by omega,by go_num,by rw[B.o,J.o]⟩
     case measure=>simp[intOf];omega
  ·have O:j=m:=by omega
   have s:l.take j=l:=List.take_of_length_le (by rw[C.o];omega);rw[s];clear s;have L:=zW (sumF l=bits .xor .u32 IntKind.u32.max (rowF 4294967295 l)) rfl;generalize rowF 4294967295 l=x at *;go_wp2_with fail;go_ret;exact⟨by rw[L.o];rfl,rfl⟩
end Go.Proofs.YtapfnehdgailmaaGreat
