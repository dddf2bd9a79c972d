/- What the program's functions and the document's do, and plain laws, for PJournalPlays. -/
import Derived.Test.YtapfnehdgailmaaGreatJB
import Derived.Test.YtapfnehdgailmaaGreatJR
open Go.Proofs.Tryz
set_option maxRecDepth 100000
set_option maxHeartbeats 64000000
namespace Go.Sat
open Go Go.RowKit
theorem ord_three {P:Program}{l:List Oper}{Q:Exit→Act→World→Prop}{f:Region.Mode}{S:World→Prop}{c:Nat}{b:Array Bool}{a:Act}{w:World}(i j k:Nat){r s t:Oper}{A B C:List Oper}(g:l.drop i=r::A)(m:l.drop j=s::B)(n:l.drop k=t::C)(h:Region.ready f l.toArray b=[i,j,k])
  (o:Region.wanted r (yielded l.toArray a.tmps)=true) (p:Region.wanted s (yielded l.toArray a.tmps)=true) (q:Region.wanted t (yielded l.toArray a.tmps)=true)
  (v:∀K:Act→World→Prop,Shut (∀a w,S w→(S w→wpAnyH P f l.toArray Q S c (b.setIfInBounds i true) a w)→K a w)→Oper.wp P r a w K Q)
  (y:∀K:Act→World→Prop,Shut (∀a w,S w→(S w→wpAnyH P f l.toArray Q S c (b.setIfInBounds j true) a w)→K a w)→Oper.wp P s a w K Q)
  (z:∀K:Act→World→Prop,Shut (∀a w,S w→(S w→wpAnyH P f l.toArray Q S c (b.setIfInBounds k true) a w)→K a w)→Oper.wp P t a w K Q):wpAnyH P f l.toArray Q S (c+1) b a w :=
 wpAnyH_ready h (by simp) (AllReadyH.cons (zBo g) (fun K d=>by rw[if_pos o];exact v K d) (AllReadyH.cons (zBo m) (fun K d=>by rw[if_pos p];exact y K d) (AllReadyH.cons (zBo n) (fun K d=>by rw[if_pos q];exact z K d) AllReadyH.nil)))
end Go.Sat
namespace Go.Proofs.YtapfnehdgailmaaGreat
open Go.RowKit Go.Sat Go.Maps
section
variable {w:World} {r:Nat} {v:Value} {L:List zAQ} {own:Nat→Prop} {D:zAA}
theorem zFW {z:Int}(b:-9223372036854775808≤z)(c:z≤9223372036854775807):IntKind.i64.wrap z=z:=IntWalk.i64_in z ⟨b,c⟩
def RGone (w:World)(r:Nat)(own:Nat→Prop)(D:zAA)(e:Ending)(w':World):Prop :=
 e=.returned (.tuple #[])∧∃own' v' L',zAd w' r v' L' own' D∧Chg (fun k=>k=r) w w'∧(∀k,own k→own' k)∧∀k,own' k→own k∨w.heap.size≤k
theorem zEY (h:zAd w r v L own D)(s:ByteArray) :
  Calls prog 161 #[.pointer (some ⟨r,0,none⟩),.string s] w (RGone w r own {D with files:=del (nm s) D.files}):=by
 have ad:=zBm h s;rw[h.is]at ad;cases hg:Sat.get (nm s) D.files with
 | none =>
  rw[hg]at ad;have hD:({D with files:=del (nm s) D.files}:zAA)=D:=by rw[zDh hg]
  rw[hD];have Hf:=zh (fun q=>show RGone w r own D (.returned (.tuple #[])) (w.drewN q)from⟨rfl,own,v,L,h.below ⟨rfl,rfl,rfl,Nat.le_refl _,fun _ _=>rfl⟩,⟨rfl,rfl,rfl,Nat.le_refl _,fun _ _ _=>rfl⟩,fun _ h=>h,fun _ h=>.inl h⟩);have ah:=zh ad;clear h ad hg hD
  go_enter func161,ntmps161
  go_wp2_with fail;refine ah.o.mono ?_;rintro e w3 ⟨rfl,q,rfl⟩;go_wp2_with fail
  go_end0
  exact Hf.o q
 | some f =>
  rw[hg]at ad;obtain⟨x,hx,av,rfl⟩:=h.hit hg;have ap:zA5 (nm s) (L.map zAQ.n)<L.length:=(List.getElem?_eq_some_iff.1 hx).1;have ag:del (nm s) D.files=(L.take (zA5 (nm s) (L.map zAQ.n))++L.drop (zA5 (nm s) (L.map zAQ.n)+1)).map zAQ.key:=by
   have h1:isAt (nm s) (D.files.map (·.1))=true:=by rw[(zGN (nm s) h.ok.srt).1,hg];rfl
   rw[del_at (nm s) h.ok.srt h1,←h.names,List.map_append,List.map_take,List.map_drop,←h.files]
  obtain⟨pv,cv,ae⟩:=h.slice;have am:L.length≤cv:=by
   rcases h.at with h0|⟨g,c0,e,hc,-⟩
   ·rw[h0];exact Nat.zero_le _
   ·rw[ae]at e;cases e;exact hc
  have ao:=h.fit;have al:=ok_del h.ok (nm s);generalize zA5 (nm s) (L.map zAQ.n)=i at *;have Q:=zW (∀W,Below w.heap.size w W→W.cell? ⟨r,1,none⟩=some (.slice pv L.length cv)) (fun W hb=>(h.below hb).c1.trans (by rw[ae]));have ab:=zW (∀W,Below w.heap.size w W→W.frozen? ⟨r,1,none⟩=false) fun W hb=>zAE (h.below hb).cells 1;have af:=zW (∀W,Below w.heap.size w W→OwnR W 127 3 (.slice pv L.length cv) L.length (L.flatMap zAQ.cells)) (fun W hb=>by rw[←ae];exact(h.below hb).row);have H:=zh (cells_one h.core.one);have aa:=zW (∀w7 v7,Below w.heap.size w w7→OwnR w7 127 3 v7 (i+(L.length-(i+1))) ((L.flatMap zAQ.cells).take (i*3)++(L.flatMap zAQ.cells).drop ((i+1)*3))→(∀k,v7.ownBlock=some k→w.heap.size≤k)→RGone w r own {D with files:=del (nm s) D.files} (.returned (.tuple #[])) (w7.setCell ⟨r,1,none⟩ v7)) (fun w7 v7 hb h7 ak=>by
   have aj:(L.take i++L.drop (i+1)).length=i+(L.length-(i+1)):=by
    rw[List.length_append,List.length_take,List.length_drop];omega
   have ai:=(h.below hb).core.relist (v':=v7) (L':=L.take i++L.drop (i+1)) (by rw[aj,List.flatMap_append,cells_take,cells_drop];exact h7) (fun x hx=>by
    rcases List.mem_append.1 hx with hx|hx
    ·exact .inl (List.mem_of_mem_take hx)
    ·exact .inl (List.mem_of_mem_drop hx)) (fun k hk ho=>by
     have h1:=ak k hk;have h2:=h.olt k ho;omega)
   exact⟨rfl,_,_,_,ai.full rfl rfl ag al,zCW hb (zDo (own:=fun k=>k=r) rfl),fun _ h=>.inl h,fun k hk=>hk.imp id (ak k)⟩)
  obtain⟨iF,S,V,U,X⟩:=info_parts (show(prog.info? 127).map (fun i=>(i.zero,i.size,i.bytes))=some (some (.agg #[.string ⟨#[]⟩,.slice none 0 0,.int .i64 0]),3,48) by kernel_rfl);have aq:∀W,(Instr.slice 116 (.slice pv L.length cv) none (some (.int .i64 (i:Int))) none).run prog W=.ok (.slice pv i cv) W:=fun W=>zB3 W underlying116 S pv _ cv i (by omega);have ar:∀W,(Instr.slice 116 (.slice pv L.length cv) (some (.int .i64 ((i:Int)+1))) none none).run prog W=.ok (.slice (if cv-(i+1)=0 then pv else pv.map fun x=>x.add ((i+1)*3)) (L.length-(i+1)) (cv-(i+1))) W:=fun W=>by
   have:=zE5 (P:=prog) W underlying116 S pv L.length cv (i+1) (by omega) am;rw[U]at this;exact this
  have au:IntKind.i64.wrap ((i:Int)+1)=(i:Int)+1:=zFW (by omega) (by omega);have ac:=zW (∀W,Below w.heap.size w W→zAK W 3 (.slice pv i cv) i ((L.flatMap zAQ.cells).take (i*3))) (fun W hb=>zAK.upto (OwnR.holds (af.o _ hb)) (by omega) cv);have T:=zW (∀W,Below w.heap.size w W→zAK W 3 (.slice (if cv-(i+1)=0 then pv else pv.map fun x=>x.add ((i+1)*3)) (L.length-(i+1)) (cv-(i+1))) (L.length-(i+1)) ((L.flatMap zAQ.cells).drop ((i+1)*3))) (fun W hb=>OwnR.cut_from (af.o W hb) (by omega));generalize an:(if cv-(i+1)=0 then pv else pv.map fun x=>x.add ((i+1)*3))=pF at *;have ah:=zh ad;clear h hg al ad ag an hx;subst ae;generalize hN:L.length=N at *;clear hN
  go_enter func161,ntmps161
  go_wp2_with fail;refine ah.o.mono ?_;rintro e w3 ⟨rfl,q,rfl⟩;have X0:=zW (Below w.heap.size w (w.drewN q).drew) (⟨rfl,rfl,rfl,Nat.le_refl _,fun _ _=>rfl⟩);go_wp2_with fail;refine ord_start (fun _:World=>True) (n:=20) (by kernel_rfl) rfl trivial fun _=>?_;generalize (w.drewN q).drew=Wd at *;refine Pl [0,2,3,4,6,9,10,11,13,14] ?_
  iterate 10 (refine Pc rfl ?_;simp only[uZ])
  refine Pn ?_;refine ord_three 1 5 12 rfl rfl rfl (by kernel_rfl) (by rfl) (by rfl) (by rfl) (fun K d=>?_) (fun K d=>?_) (fun K d=>?_)
  ·go_wp2_with fail;have O:=zh (X0.o.alloc X0.o.size (.cells #[] 127));refine d.o _ _ trivial fun _=>?_;clear d
   try simp only[uZ]
   refine zCp 5 12 rfl rfl (by kernel_rfl) (by rfl) (by rfl) (fun K d=>?_) (fun K d=>?_)
   ·have E:=Q.o _ O.o;go_wp2_with fail;clear E;refine d.o _ _ trivial fun _=>?_;clear d
    try simp only[uZ]
    refine zBb 7 (v:=?v2x7) rfl (by kernel_rfl) (by kernel_rfl) (by kernel_rfl) (fun _ _ _ h=>h) (by rfl) trivial ?y2x7 ?_
    case y2x7=>(intro w I;clear I;go_simp;try with_reducible rfl)
    simp only[uZ];refine zCp 8 12 rfl rfl (by kernel_rfl) (by rfl) (by rfl) (fun K d=>?_) (fun K d=>?_)
    ·have C:=zBK Wd 127 3;have M:=ac.o _ O.o;refine zAm (.tmp 14) (.tmp 20) 116 (by rfl) 127 iF _ 3 48 underlying116 S V U X rfl (by decide) (.slice (some ⟨Wd.heap.size,0,none⟩) 0 0) 0 [] (by rfl) C (.slice pv i cv) i _ (by rfl) M (fun u Z=>H.o u (List.mem_of_mem_take Z)) (by unfold maxLen;omega) (by omega) ?_;clear C M;intro v6 w6 b l y;have R:=zh (O.o.grown l O.o.size (fun j e=>by have:=X0.o.size;simp[Value.ownBlock]at e;omega));have a:=zA0 (B:=w.heap.size) y (fun k hk=>by have:=X0.o.size;simp[Value.ownBlock]at hk;omega) O.o.size;rw[Nat.zero_add,List.nil_append]at b;obtain⟨p6,c6,rfl⟩:=OwnR.shape b;have G:=zh b;have p:=zh a;clear l y b a;refine d.o _ _ trivial fun _=>?_;clear d
     try simp only[uZ]
     refine oon 12 rfl fun K d=>?_;have E:=Q.o _ R.o;go_wp2_with fail;clear E;refine d.o _ _ trivial fun _=>?_;clear d
     try simp only[uZ]
     refine zBb 15 (v:=?v4x15) rfl (by kernel_rfl) (by kernel_rfl) (by kernel_rfl) (fun _ _ _ h=>h) (by rfl) trivial ?y4x15 ?_
     case y4x15=>(intro w I;clear I;go_simp;try with_reducible rfl)
     simp only[uZ];refine oon 16 rfl fun K d=>?_;have t:=T.o _ R.o;refine zAm (.tmp 21) (.tmp 28) 116 (by rfl) 127 iF _ 3 48 underlying116 S V U X rfl (by decide) (.slice p6 i c6) i _ (by rfl) G.o (.slice pF (N-(i+1)) (cv-(i+1))) (N-(i+1)) _ (by rfl) t (fun u Z=>H.o u (List.mem_of_mem_drop Z)) (by unfold maxLen;omega) (by omega) ?_;clear t
     intro v7 w7 c m z;have Y:=zh (R.o.grown m R.o.size p.o);have A:=zA0 (B:=w.heap.size) z p.o R.o.size;obtain⟨p7,c7,rfl⟩:=OwnR.shape c;have F:=zh (aa.o w7 _ Y.o c A);clear m z c A;refine d.o _ _ trivial fun _=>?_;clear d
     try simp only[uZ]
     refine Pl [17,18] ?_
     iterate 2 (refine Pc rfl ?_;simp only[uZ])
     refine Pn ?_;refine oon 19 rfl fun K d=>?_;have E:=Q.o _ Y.o;have J:=ab.o _ Y.o;go_wp2_with fail;clear E J;refine d.o _ _ trivial fun _=>?_;clear d
     try simp only[uZ]
     refine odn ?_;go_wp2_with fail
     go_end0
     exact F.o
    ·have E:=Q.o _ O.o;go_wp2_with fail;clear E;refine d.o _ _ trivial fun _=>?_;clear d
     try simp only[uZ]
     refine zBb 15 (v:=?v6x15) rfl (by kernel_rfl) (by kernel_rfl) (by kernel_rfl) (fun _ _ _ h=>h) (by rfl) trivial ?y6x15 ?_
     case y6x15=>(intro w I;clear I;go_simp;try with_reducible rfl)
     simp only[uZ];refine oon 8 rfl fun K d=>?_;have C:=zBK Wd 127 3;have M:=ac.o _ O.o;refine zAm (.tmp 14) (.tmp 20) 116 (by rfl) 127 iF _ 3 48 underlying116 S V U X rfl (by decide) (.slice (some ⟨Wd.heap.size,0,none⟩) 0 0) 0 [] (by rfl) C (.slice pv i cv) i _ (by rfl) M (fun u Z=>H.o u (List.mem_of_mem_take Z)) (by unfold maxLen;omega) (by omega) ?_;clear C M;intro v6 w6 b l y;have R:=zh (O.o.grown l O.o.size (fun j e=>by have:=X0.o.size;simp[Value.ownBlock]at e;omega));have a:=zA0 (B:=w.heap.size) y (fun k hk=>by have:=X0.o.size;simp[Value.ownBlock]at hk;omega) O.o.size;rw[Nat.zero_add,List.nil_append]at b;obtain⟨p6,c6,rfl⟩:=OwnR.shape b;have G:=zh b;have p:=zh a;clear l y b a;refine d.o _ _ trivial fun _=>?_;clear d
     try simp only[uZ]
     refine oon 16 rfl fun K d=>?_;have t:=T.o _ R.o;refine zAm (.tmp 21) (.tmp 28) 116 (by rfl) 127 iF _ 3 48 underlying116 S V U X rfl (by decide) (.slice p6 i c6) i _ (by rfl) G.o (.slice pF (N-(i+1)) (cv-(i+1))) (N-(i+1)) _ (by rfl) t (fun u Z=>H.o u (List.mem_of_mem_drop Z)) (by unfold maxLen;omega) (by omega) ?_;clear t
     intro v7 w7 c m z;have Y:=zh (R.o.grown m R.o.size p.o);have A:=zA0 (B:=w.heap.size) z p.o R.o.size;obtain⟨p7,c7,rfl⟩:=OwnR.shape c;have F:=zh (aa.o w7 _ Y.o c A);clear m z c A;refine d.o _ _ trivial fun _=>?_;clear d
     try simp only[uZ]
     refine Pl [17,18] ?_
     iterate 2 (refine Pc rfl ?_;simp only[uZ])
     refine Pn ?_;refine oon 19 rfl fun K d=>?_;have E:=Q.o _ Y.o;have J:=ab.o _ Y.o;go_wp2_with fail;clear E J;refine d.o _ _ trivial fun _=>?_;clear d
     try simp only[uZ]
     refine odn ?_;go_wp2_with fail
     go_end0
     exact F.o
   ·have E:=Q.o _ O.o;go_wp2_with fail;clear E;refine d.o _ _ trivial fun _=>?_;clear d
    try simp only[uZ]
    refine zBb 15 (v:=?v9x15) rfl (by kernel_rfl) (by kernel_rfl) (by kernel_rfl) (fun _ _ _ h=>h) (by rfl) trivial ?y9x15 ?_
    case y9x15=>(intro w I;clear I;go_simp;try with_reducible rfl)
    simp only[uZ];refine oon 5 rfl fun K d=>?_;have E:=Q.o _ O.o;go_wp2_with fail;clear E;refine d.o _ _ trivial fun _=>?_;clear d
    try simp only[uZ]
    refine zBb 7 (v:=?v10x7) rfl (by kernel_rfl) (by kernel_rfl) (by kernel_rfl) (fun _ _ _ h=>h) (by rfl) trivial ?y10x7 ?_
    case y10x7=>(intro w I;clear I;go_simp;try with_reducible rfl)
    simp only[uZ];refine oon 8 rfl fun K d=>?_;have C:=zBK Wd 127 3;have M:=ac.o _ O.o;refine zAm (.tmp 14) (.tmp 20) 116 (by rfl) 127 iF _ 3 48 underlying116 S V U X rfl (by decide) (.slice (some ⟨Wd.heap.size,0,none⟩) 0 0) 0 [] (by rfl) C (.slice pv i cv) i _ (by rfl) M (fun u Z=>H.o u (List.mem_of_mem_take Z)) (by unfold maxLen;omega) (by omega) ?_;clear C M;intro v6 w6 b l y;have R:=zh (O.o.grown l O.o.size (fun j e=>by have:=X0.o.size;simp[Value.ownBlock]at e;omega));have a:=zA0 (B:=w.heap.size) y (fun k hk=>by have:=X0.o.size;simp[Value.ownBlock]at hk;omega) O.o.size;rw[Nat.zero_add,List.nil_append]at b;obtain⟨p6,c6,rfl⟩:=OwnR.shape b;have G:=zh b;have p:=zh a;clear l y b a;refine d.o _ _ trivial fun _=>?_;clear d
    try simp only[uZ]
    refine oon 16 rfl fun K d=>?_;have t:=T.o _ R.o;refine zAm (.tmp 21) (.tmp 28) 116 (by rfl) 127 iF _ 3 48 underlying116 S V U X rfl (by decide) (.slice p6 i c6) i _ (by rfl) G.o (.slice pF (N-(i+1)) (cv-(i+1))) (N-(i+1)) _ (by rfl) t (fun u Z=>H.o u (List.mem_of_mem_drop Z)) (by unfold maxLen;omega) (by omega) ?_;clear t
    intro v7 w7 c m z;have Y:=zh (R.o.grown m R.o.size p.o);have A:=zA0 (B:=w.heap.size) z p.o R.o.size;obtain⟨p7,c7,rfl⟩:=OwnR.shape c;have F:=zh (aa.o w7 _ Y.o c A);clear m z c A;refine d.o _ _ trivial fun _=>?_;clear d
    try simp only[uZ]
    refine Pl [17,18] ?_
    iterate 2 (refine Pc rfl ?_;simp only[uZ])
    refine Pn ?_;refine oon 19 rfl fun K d=>?_;have E:=Q.o _ Y.o;have J:=ab.o _ Y.o;go_wp2_with fail;clear E J;refine d.o _ _ trivial fun _=>?_;clear d
    try simp only[uZ]
    refine odn ?_;go_wp2_with fail
    go_end0
    exact F.o
  ·have E:=Q.o _ X0.o;go_wp2_with fail;clear E;refine d.o _ _ trivial fun _=>?_;clear d
   try simp only[uZ]
   refine zBb 7 (v:=?v13x7) rfl (by kernel_rfl) (by kernel_rfl) (by kernel_rfl) (fun _ _ _ h=>h) (by rfl) trivial ?y13x7 ?_
   case y13x7=>(intro w I;clear I;go_simp;try with_reducible rfl)
   simp only[uZ];refine zCp 1 12 rfl rfl (by kernel_rfl) (by rfl) (by rfl) (fun K d=>?_) (fun K d=>?_)
   ·go_wp2_with fail;have O:=zh (X0.o.alloc X0.o.size (.cells #[] 127));refine d.o _ _ trivial fun _=>?_;clear d
    try simp only[uZ]
    refine zCp 8 12 rfl rfl (by kernel_rfl) (by rfl) (by rfl) (fun K d=>?_) (fun K d=>?_)
    ·have C:=zBK Wd 127 3;have M:=ac.o _ O.o;refine zAm (.tmp 14) (.tmp 20) 116 (by rfl) 127 iF _ 3 48 underlying116 S V U X rfl (by decide) (.slice (some ⟨Wd.heap.size,0,none⟩) 0 0) 0 [] (by rfl) C (.slice pv i cv) i _ (by rfl) M (fun u Z=>H.o u (List.mem_of_mem_take Z)) (by unfold maxLen;omega) (by omega) ?_;clear C M;intro v6 w6 b l y;have R:=zh (O.o.grown l O.o.size (fun j e=>by have:=X0.o.size;simp[Value.ownBlock]at e;omega));have a:=zA0 (B:=w.heap.size) y (fun k hk=>by have:=X0.o.size;simp[Value.ownBlock]at hk;omega) O.o.size;rw[Nat.zero_add,List.nil_append]at b;obtain⟨p6,c6,rfl⟩:=OwnR.shape b;have G:=zh b;have p:=zh a;clear l y b a;refine d.o _ _ trivial fun _=>?_;clear d
     try simp only[uZ]
     refine oon 12 rfl fun K d=>?_;have E:=Q.o _ R.o;go_wp2_with fail;clear E;refine d.o _ _ trivial fun _=>?_;clear d
     try simp only[uZ]
     refine zBb 15 (v:=?v16x15) rfl (by kernel_rfl) (by kernel_rfl) (by kernel_rfl) (fun _ _ _ h=>h) (by rfl) trivial ?y16x15 ?_
     case y16x15=>(intro w I;clear I;go_simp;try with_reducible rfl)
     simp only[uZ];refine oon 16 rfl fun K d=>?_;have t:=T.o _ R.o;refine zAm (.tmp 21) (.tmp 28) 116 (by rfl) 127 iF _ 3 48 underlying116 S V U X rfl (by decide) (.slice p6 i c6) i _ (by rfl) G.o (.slice pF (N-(i+1)) (cv-(i+1))) (N-(i+1)) _ (by rfl) t (fun u Z=>H.o u (List.mem_of_mem_drop Z)) (by unfold maxLen;omega) (by omega) ?_;clear t
     intro v7 w7 c m z;have Y:=zh (R.o.grown m R.o.size p.o);have A:=zA0 (B:=w.heap.size) z p.o R.o.size;obtain⟨p7,c7,rfl⟩:=OwnR.shape c;have F:=zh (aa.o w7 _ Y.o c A);clear m z c A;refine d.o _ _ trivial fun _=>?_;clear d
     try simp only[uZ]
     refine Pl [17,18] ?_
     iterate 2 (refine Pc rfl ?_;simp only[uZ])
     refine Pn ?_;refine oon 19 rfl fun K d=>?_;have E:=Q.o _ Y.o;have J:=ab.o _ Y.o;go_wp2_with fail;clear E J;refine d.o _ _ trivial fun _=>?_;clear d
     try simp only[uZ]
     refine odn ?_;go_wp2_with fail
     go_end0
     exact F.o
    ·have E:=Q.o _ O.o;go_wp2_with fail;clear E;refine d.o _ _ trivial fun _=>?_;clear d
     try simp only[uZ]
     refine zBb 15 (v:=?v18x15) rfl (by kernel_rfl) (by kernel_rfl) (by kernel_rfl) (fun _ _ _ h=>h) (by rfl) trivial ?y18x15 ?_
     case y18x15=>(intro w I;clear I;go_simp;try with_reducible rfl)
     simp only[uZ];refine oon 8 rfl fun K d=>?_;have C:=zBK Wd 127 3;have M:=ac.o _ O.o;refine zAm (.tmp 14) (.tmp 20) 116 (by rfl) 127 iF _ 3 48 underlying116 S V U X rfl (by decide) (.slice (some ⟨Wd.heap.size,0,none⟩) 0 0) 0 [] (by rfl) C (.slice pv i cv) i _ (by rfl) M (fun u Z=>H.o u (List.mem_of_mem_take Z)) (by unfold maxLen;omega) (by omega) ?_;clear C M;intro v6 w6 b l y;have R:=zh (O.o.grown l O.o.size (fun j e=>by have:=X0.o.size;simp[Value.ownBlock]at e;omega));have a:=zA0 (B:=w.heap.size) y (fun k hk=>by have:=X0.o.size;simp[Value.ownBlock]at hk;omega) O.o.size;rw[Nat.zero_add,List.nil_append]at b;obtain⟨p6,c6,rfl⟩:=OwnR.shape b;have G:=zh b;have p:=zh a;clear l y b a;refine d.o _ _ trivial fun _=>?_;clear d
     try simp only[uZ]
     refine oon 16 rfl fun K d=>?_;have t:=T.o _ R.o;refine zAm (.tmp 21) (.tmp 28) 116 (by rfl) 127 iF _ 3 48 underlying116 S V U X rfl (by decide) (.slice p6 i c6) i _ (by rfl) G.o (.slice pF (N-(i+1)) (cv-(i+1))) (N-(i+1)) _ (by rfl) t (fun u Z=>H.o u (List.mem_of_mem_drop Z)) (by unfold maxLen;omega) (by omega) ?_;clear t
     intro v7 w7 c m z;have Y:=zh (R.o.grown m R.o.size p.o);have A:=zA0 (B:=w.heap.size) z p.o R.o.size;obtain⟨p7,c7,rfl⟩:=OwnR.shape c;have F:=zh (aa.o w7 _ Y.o c A);clear m z c A;refine d.o _ _ trivial fun _=>?_;clear d
     try simp only[uZ]
     refine Pl [17,18] ?_
     iterate 2 (refine Pc rfl ?_;simp only[uZ])
     refine Pn ?_;refine oon 19 rfl fun K d=>?_;have E:=Q.o _ Y.o;have J:=ab.o _ Y.o;go_wp2_with fail;clear E J;refine d.o _ _ trivial fun _=>?_;clear d
     try simp only[uZ]
     refine odn ?_;go_wp2_with fail
     go_end0
     exact F.o
   ·have E:=Q.o _ X0.o;go_wp2_with fail;clear E;refine d.o _ _ trivial fun _=>?_;clear d
    try simp only[uZ]
    refine zBb 15 (v:=?v21x15) rfl (by kernel_rfl) (by kernel_rfl) (by kernel_rfl) (fun _ _ _ h=>h) (by rfl) trivial ?y21x15 ?_
    case y21x15=>(intro w I;clear I;go_simp;try with_reducible rfl)
    simp only[uZ];refine oon 1 rfl fun K d=>?_;go_wp2_with fail;have O:=zh (X0.o.alloc X0.o.size (.cells #[] 127));refine d.o _ _ trivial fun _=>?_;clear d
    try simp only[uZ]
    refine oon 8 rfl fun K d=>?_;have C:=zBK Wd 127 3;have M:=ac.o _ O.o;refine zAm (.tmp 14) (.tmp 20) 116 (by rfl) 127 iF _ 3 48 underlying116 S V U X rfl (by decide) (.slice (some ⟨Wd.heap.size,0,none⟩) 0 0) 0 [] (by rfl) C (.slice pv i cv) i _ (by rfl) M (fun u Z=>H.o u (List.mem_of_mem_take Z)) (by unfold maxLen;omega) (by omega) ?_;clear C M;intro v6 w6 b l y;have R:=zh (O.o.grown l O.o.size (fun j e=>by have:=X0.o.size;simp[Value.ownBlock]at e;omega));have a:=zA0 (B:=w.heap.size) y (fun k hk=>by have:=X0.o.size;simp[Value.ownBlock]at hk;omega) O.o.size;rw[Nat.zero_add,List.nil_append]at b;obtain⟨p6,c6,rfl⟩:=OwnR.shape b;have G:=zh b;have p:=zh a;clear l y b a;refine d.o _ _ trivial fun _=>?_;clear d
    try simp only[uZ]
    refine oon 16 rfl fun K d=>?_;have t:=T.o _ R.o;refine zAm (.tmp 21) (.tmp 28) 116 (by rfl) 127 iF _ 3 48 underlying116 S V U X rfl (by decide) (.slice p6 i c6) i _ (by rfl) G.o (.slice pF (N-(i+1)) (cv-(i+1))) (N-(i+1)) _ (by rfl) t (fun u Z=>H.o u (List.mem_of_mem_drop Z)) (by unfold maxLen;omega) (by omega) ?_;clear t
    intro v7 w7 c m z;have Y:=zh (R.o.grown m R.o.size p.o);have A:=zA0 (B:=w.heap.size) z p.o R.o.size;obtain⟨p7,c7,rfl⟩:=OwnR.shape c;have F:=zh (aa.o w7 _ Y.o c A);clear m z c A;refine d.o _ _ trivial fun _=>?_;clear d
    try simp only[uZ]
    refine Pl [17,18] ?_
    iterate 2 (refine Pc rfl ?_;simp only[uZ])
    refine Pn ?_;refine oon 19 rfl fun K d=>?_;have E:=Q.o _ Y.o;have J:=ab.o _ Y.o;go_wp2_with fail;clear E J;refine d.o _ _ trivial fun _=>?_;clear d
    try simp only[uZ]
    refine odn ?_;go_wp2_with fail
    go_end0
    exact F.o
  ·have E:=Q.o _ X0.o;go_wp2_with fail;clear E;refine d.o _ _ trivial fun _=>?_;clear d
   try simp only[uZ]
   refine zBb 15 (v:=?v25x15) rfl (by kernel_rfl) (by kernel_rfl) (by kernel_rfl) (fun _ _ _ h=>h) (by rfl) trivial ?y25x15 ?_
   case y25x15=>(intro w I;clear I;go_simp;try with_reducible rfl)
   simp only[uZ];refine zCp 1 5 rfl rfl (by kernel_rfl) (by rfl) (by rfl) (fun K d=>?_) (fun K d=>?_)
   ·go_wp2_with fail;have O:=zh (X0.o.alloc X0.o.size (.cells #[] 127));refine d.o _ _ trivial fun _=>?_;clear d
    try simp only[uZ]
    refine oon 5 rfl fun K d=>?_;have E:=Q.o _ O.o;go_wp2_with fail;clear E;refine d.o _ _ trivial fun _=>?_;clear d
    try simp only[uZ]
    refine zBb 7 (v:=?v27x7) rfl (by kernel_rfl) (by kernel_rfl) (by kernel_rfl) (fun _ _ _ h=>h) (by rfl) trivial ?y27x7 ?_
    case y27x7=>(intro w I;clear I;go_simp;try with_reducible rfl)
    simp only[uZ];refine oon 8 rfl fun K d=>?_;have C:=zBK Wd 127 3;have M:=ac.o _ O.o;refine zAm (.tmp 14) (.tmp 20) 116 (by rfl) 127 iF _ 3 48 underlying116 S V U X rfl (by decide) (.slice (some ⟨Wd.heap.size,0,none⟩) 0 0) 0 [] (by rfl) C (.slice pv i cv) i _ (by rfl) M (fun u Z=>H.o u (List.mem_of_mem_take Z)) (by unfold maxLen;omega) (by omega) ?_;clear C M;intro v6 w6 b l y;have R:=zh (O.o.grown l O.o.size (fun j e=>by have:=X0.o.size;simp[Value.ownBlock]at e;omega));have a:=zA0 (B:=w.heap.size) y (fun k hk=>by have:=X0.o.size;simp[Value.ownBlock]at hk;omega) O.o.size;rw[Nat.zero_add,List.nil_append]at b;obtain⟨p6,c6,rfl⟩:=OwnR.shape b;have G:=zh b;have p:=zh a;clear l y b a;refine d.o _ _ trivial fun _=>?_;clear d
    try simp only[uZ]
    refine oon 16 rfl fun K d=>?_;have t:=T.o _ R.o;refine zAm (.tmp 21) (.tmp 28) 116 (by rfl) 127 iF _ 3 48 underlying116 S V U X rfl (by decide) (.slice p6 i c6) i _ (by rfl) G.o (.slice pF (N-(i+1)) (cv-(i+1))) (N-(i+1)) _ (by rfl) t (fun u Z=>H.o u (List.mem_of_mem_drop Z)) (by unfold maxLen;omega) (by omega) ?_;clear t
    intro v7 w7 c m z;have Y:=zh (R.o.grown m R.o.size p.o);have A:=zA0 (B:=w.heap.size) z p.o R.o.size;obtain⟨p7,c7,rfl⟩:=OwnR.shape c;have F:=zh (aa.o w7 _ Y.o c A);clear m z c A;refine d.o _ _ trivial fun _=>?_;clear d
    try simp only[uZ]
    refine Pl [17,18] ?_
    iterate 2 (refine Pc rfl ?_;simp only[uZ])
    refine Pn ?_;refine oon 19 rfl fun K d=>?_;have E:=Q.o _ Y.o;have J:=ab.o _ Y.o;go_wp2_with fail;clear E J;refine d.o _ _ trivial fun _=>?_;clear d
    try simp only[uZ]
    refine odn ?_;go_wp2_with fail
    go_end0
    exact F.o
   ·have E:=Q.o _ X0.o;go_wp2_with fail;clear E;refine d.o _ _ trivial fun _=>?_;clear d
    try simp only[uZ]
    refine zBb 7 (v:=?v30x7) rfl (by kernel_rfl) (by kernel_rfl) (by kernel_rfl) (fun _ _ _ h=>h) (by rfl) trivial ?y30x7 ?_
    case y30x7=>(intro w I;clear I;go_simp;try with_reducible rfl)
    simp only[uZ];refine oon 1 rfl fun K d=>?_;go_wp2_with fail;have O:=zh (X0.o.alloc X0.o.size (.cells #[] 127));refine d.o _ _ trivial fun _=>?_;clear d
    try simp only[uZ]
    refine oon 8 rfl fun K d=>?_;have C:=zBK Wd 127 3;have M:=ac.o _ O.o;refine zAm (.tmp 14) (.tmp 20) 116 (by rfl) 127 iF _ 3 48 underlying116 S V U X rfl (by decide) (.slice (some ⟨Wd.heap.size,0,none⟩) 0 0) 0 [] (by rfl) C (.slice pv i cv) i _ (by rfl) M (fun u Z=>H.o u (List.mem_of_mem_take Z)) (by unfold maxLen;omega) (by omega) ?_;clear C M;intro v6 w6 b l y;have R:=zh (O.o.grown l O.o.size (fun j e=>by have:=X0.o.size;simp[Value.ownBlock]at e;omega));have a:=zA0 (B:=w.heap.size) y (fun k hk=>by have:=X0.o.size;simp[Value.ownBlock]at hk;omega) O.o.size;rw[Nat.zero_add,List.nil_append]at b;obtain⟨p6,c6,rfl⟩:=OwnR.shape b;have G:=zh b;have p:=zh a;clear l y b a;refine d.o _ _ trivial fun _=>?_;clear d
    try simp only[uZ]
    refine oon 16 rfl fun K d=>?_;have t:=T.o _ R.o;refine zAm (.tmp 21) (.tmp 28) 116 (by rfl) 127 iF _ 3 48 underlying116 S V U X rfl (by decide) (.slice p6 i c6) i _ (by rfl) G.o (.slice pF (N-(i+1)) (cv-(i+1))) (N-(i+1)) _ (by rfl) t (fun u Z=>H.o u (List.mem_of_mem_drop Z)) (by unfold maxLen;omega) (by omega) ?_;clear t
    intro v7 w7 c m z;have Y:=zh (R.o.grown m R.o.size p.o);have A:=zA0 (B:=w.heap.size) z p.o R.o.size;obtain⟨p7,c7,rfl⟩:=OwnR.shape c;have F:=zh (aa.o w7 _ Y.o c A);clear m z c A;refine d.o _ _ trivial fun _=>?_;clear d
    try simp only[uZ]
    refine Pl [17,18] ?_
    iterate 2 (refine Pc rfl ?_;simp only[uZ])
    refine Pn ?_;refine oon 19 rfl fun K d=>?_;have E:=Q.o _ Y.o;have J:=ab.o _ Y.o;go_wp2_with fail;clear E J;refine d.o _ _ trivial fun _=>?_;clear d
    try simp only[uZ]
    refine odn ?_;go_wp2_with fail
    go_end0
    exact F.o
end
section
variable {w:World} {r:Nat} {v:Value} {L:List zAQ} {own:Nat→Prop} {D:zAA}
theorem rrem_calls (h:zAd w r v L own D)(s:ByteArray)(Q:s.size≤9223372036854775807) :
  Calls prog 82 #[.pointer (some ⟨r,0,none⟩),.string s] w (zCh w r own (D.remove [nm s])):=by
 have p:zAd (w.alloc (.cells #[.string s] 9)) r v L own D:=h.below ((Below.refl _ _).alloc (Nat.le_refl _) _);have b:=zCS p (some ⟨w.heap.size,0,none⟩) [s] 1 (zBV w s) (by simp) (by simpa using Q);simp only[List.map_cons,List.map_nil]at b;have y:D.remove [nm s]=D.each1 zAA.gRemove (nm s):=each_one _ _ _;rw[y]
 by_cases j:D.may [nm s]=0
 ·have d:=zBm p s;rw[h.is]at d;rw[j]at b;cases l:Sat.get (nm s) D.files with
  | none =>
   rw[l]at d;have g:zAA.each1 zAA.gRemove D (nm s)=(D,7):=by unfold zAA.each1;rw[if_neg (by rw[j];simp),l]
   rw[g];have z:=zh (fun q=>zBR h (zAt w (.cells #[.string s] 9) q) 7);have c:=zh b;have i:=zh d;clear h p b d j g l y
   go_enter func82,ntmps82
   go_wp2_with fail;refine c.o.mono ?_;rintro e w2 ⟨rfl,rfl⟩;go_wp2_with fail;refine i.o.mono ?_;rintro e w3 ⟨rfl,q,rfl⟩;go_wp2_with fail;go_ret;exact z.o q
  | some f =>
   rw[l]at d;have g:zAA.each1 zAA.gRemove D (nm s)=(zAA.done {D with files:=del (nm s) D.files},0):=by unfold zAA.each1;rw[if_neg (by rw[j];simp),l];rfl
   rw[g];have a:=zh (fun q=>zEY (h.below (zAt w (.cells #[.string s] 9) q)) s);have B:=zFQ j;have n:=zW (∀q e w',RGone ((w.alloc (.cells #[.string s] 9)).drewN q) r own {D with files:=del (nm s) D.files} e w'→Calls prog 72 #[.pointer (some ⟨r,0,none⟩)] w' (zCh w r own (zAA.done {D with files:=del (nm s) D.files},0))) (fun q e w' C=>by
    obtain⟨-,own',v',L',E,A,-,R⟩:=C;have H:=zAt w (.cells #[.string s] 9) q;refine(zCr E B).mono fun T w2 M=>?_;have t:Chg own w w':=zCW H (A.mono fun k _ e=>by rw[e];exact h.or);exact zDa t (fun k O=>(R k O).imp id fun N=>Nat.le_trans H.size N) t.size M)
   have c:=zh b;have i:=zh d;clear h p b d j g l y
   go_enter func82,ntmps82
   go_wp2_with fail;refine c.o.mono ?_;rintro e w2 ⟨rfl,rfl⟩;go_wp2_with fail;refine i.o.mono ?_;rintro e w3 ⟨rfl,q,rfl⟩;go_wp2_with fail;refine(a.o q).mono ?_;intro e S F;have J:=zh (n.o q e S F);obtain⟨rfl,-⟩:=F;go_wp2_with fail;refine J.o.mono ?_;intro e U G;have I:=zh G;obtain⟨rfl,-⟩:=G;go_wp2_with fail;go_ret;exact I.o
 ·have g:zAA.each1 zAA.gRemove D (nm s)=(D,D.may [nm s]):=by unfold zAA.each1;rw[if_pos j]
  rw[g];have z:=zh (zBR h ((Below.refl _ _).alloc (Nat.le_refl _) (.cells #[.string s] 9)) (D.may [nm s]));have c:=zh b;generalize D.may [nm s]=m at *;have P:((m:Int) != 0)=true:=by simp;omega
  clear h p b g y
  go_enter func82,ntmps82
  go_wp2_with fail;refine c.o.mono ?_;rintro e w2 ⟨rfl,rfl⟩;go_wp2_with fail;go_ret;exact z.o
end
theorem put_del_same {α:Type}{L:List (Bs×α)}(h:Srt L){n:Bs}{f:α}(b:Sat.get n L=some f):Sat.put n f (del n L)=L:=by
 refine srt_ext (zCO (zCv h)) h fun m=>?_
 by_cases e:m=n
 ·subst e;rw[zCQ (zCv h),b]
 ·rw[zDE (zCv h) f e,zEN h e]
section
variable {w:World} {r:Nat} {v:Value} {L:List zAQ} {own:Nat→Prop} {D:zAA}
theorem rren_calls (h:zAd w r v L own D)(o s:ByteArray)(bV:o.size≤9223372036854775807)(bW:s.size≤9223372036854775807) :
  Calls prog 199 #[.pointer (some ⟨r,0,none⟩),.string o,.string s] w (zCh w r own (D.rename (nm o) (nm s))):=by
 have h1:zAd (w.alloc (.cells #[.string o,.string s] 9)) r v L own D:=h.below ((Below.refl _ _).alloc (Nat.le_refl _) _);have c:=zCS h1 (some ⟨w.heap.size,0,none⟩) [o,s] 2 (strs_two w o s) (by simp) (by simp;exact⟨bV,bW⟩);simp only[List.map_cons,List.map_nil]at c
 by_cases hm:D.may [nm o,nm s]=0
 ·have Q:=zBm h1 o;rw[h.is]at Q;rw[hm]at c;cases hg:Sat.get (nm o) D.files with
  | none =>
   rw[hg]at Q;have hR:D.rename (nm o) (nm s)=(D,7):=by unfold zAA.rename;rw[if_neg (by rw[hm];simp),hg]
   rw[hR];have Hf:=zh (fun q=>zBR h (zAt w (.cells #[.string o,.string s] 9) q) 7);have C:=zh c;have aw:=zh Q;clear h h1 c Q hm hR hg
   go_enter func199,ntmps199
   go_wp2_with fail;refine C.o.mono ?_;rintro e w2 ⟨rfl,rfl⟩;go_wp2_with fail;refine aw.o.mono ?_;rintro e w3 ⟨rfl,q,rfl⟩;go_wp2_with fail;go_ret;exact Hf.o q
  | some f =>
   rw[hg]at Q;have hR:D.rename (nm o) (nm s)=(zAA.done {D with files:=Sat.put (nm s) f (del (nm o) D.files) },0):=by unfold zAA.rename;rw[if_neg (by rw[hm];simp),hg]
   rw[hR];have bo:=zFQ hm
   by_cases ar:nm o=nm s
   ·have hb:(o.toList==s.toList)=true:=by rw[ByteArray.toList_eq,ByteArray.toList_eq];exact beq_iff_eq.2 ar
    have hD:({D with files:=Sat.put (nm s) f (del (nm o) D.files) }:zAA)=D:=by rw[←ar,put_del_same h.ok.srt hg]
    rw[hD];have au:=zh (fun q=>(zCr (h.below (zAt w (.cells #[.string o,.string s] 9) q)) bo).mono fun e2 w2 h2 =>
     zDa (own:=own) (w:=w) ((Chg.of_below (zAt w (.cells #[.string o,.string s] 9) q)).mono fun _ _ h=>h.elim) (fun _ h=>.inl h) (zAt w (.cells #[.string o,.string s] 9) q).size h2)
    have C:=zh c;have aw:=zh Q;clear h h1 c Q hm hR hg hD ar
    go_enter func199,ntmps199
    go_wp2_with fail;refine C.o.mono ?_;rintro e w2 ⟨rfl,rfl⟩;go_wp2_with fail;refine aw.o.mono ?_;rintro e w3 ⟨rfl,q,rfl⟩;go_wp2_with fail;refine(au.o q).mono ?_;intro e w5 h5;have HE:=zh h5;obtain⟨rfl,-⟩:=h5;go_wp2_with fail;go_ret;exact HE.o
   ·have hb:(o.toList==s.toList)=false:=by
     rw[ByteArray.toList_eq,ByteArray.toList_eq,beq_eq_false_iff_ne];exact ar
    obtain⟨x,hx,ci,rfl⟩:=h.hit hg;have hN:zA5 (nm o) (L.map zAQ.n)<L.length:=(List.getElem?_eq_some_iff.1 hx).1;rcases h.at with h0|⟨g,c0,ap,bT,-⟩
    ·rw[h0]at hN;simp at hN
    have bS:v.ownBlock=some g:=by rw[ap];rfl
    generalize zA5 (nm o) (L.map zAQ.n)=i at *;have ah:=zW (∀W,Below w.heap.size w W→W.cell? ⟨r,1,none⟩=some (.slice (some ⟨g,0,none⟩) L.length c0)∧W.cell? ⟨g,i*3,none⟩=some (.string ⟨x.n.toArray⟩)∧W.cell? ⟨g,i*3+1,none⟩=some x.b∧W.cell? ⟨g,i*3+2,none⟩=some (.int .i64 (x.f.lasts:Int))) (fun W hb=>by
     have hW:=h.below hb;have hc:=hW.core.at bS hx;exact⟨hW.c1.trans (by rw[ap]),hc.1,hc.2.1,hc.2.2⟩)
    obtain⟨U,R,ex,-⟩:=zDY (h.data x (List.mem_of_getElem? hx));rw[ex]at ah;have H:=zh h;have bG:=zh (ok_rename h.ok hg (show okN (nm s)=true from List.all_eq_true.1 (zDk hm).2 (nm s) (by simp)));have C:=zh c;have aw:=zh Q;clear h h1 c Q hm hR hg bT;subst ap
    go_enter func199,ntmps199
    go_wp2_with fail;refine C.o.mono ?_;rintro e w2 ⟨rfl,rfl⟩;go_wp2_with fail;refine aw.o.mono ?_;rintro e w3 ⟨rfl,q,rfl⟩;have aG:=zh (zAt w (.cells #[.string o,.string s] 9) q);obtain⟨bL,bM,bN,bO⟩:=ah.o _ aG.o;generalize (w.alloc (.cells #[.string o,.string s] 9)).drewN q=W at *;have Hx:=zh hx;generalize br:x.f.data.length=S at *;generalize bq:x.f.lasts=la at *;have ce:=zh br;have bF:=zh bq;have bZ:=zh ar;have bB:=zh ex;clear ar hx br bq ex;go_wp2_with fail;have XF:=zh (aG.o.alloc aG.o.size (.cells #[.string s,.slice U S R,.int .i64 (la:Int)] 127));have aR:(W.alloc (.cells #[.string s,.slice U S R,.int .i64 (la:Int)] 127)).heap[W.heap.size]?=some (.cells #[.string s,.slice U S R,.int .i64 (la:Int)] 127 (0,0)):=zAI W _;have aU:W.heap.size≠r:=fun e=>by have h1:=H.o.olt r H.o.or;have h2:=aG.o.size;omega
    have aT:W.heap.size<(W.alloc (.cells #[.string s,.slice U S R,.int .i64 (la:Int)] 127)).heap.size:=by simp
    have V:=zh (And.intro aR (And.intro aU aT));clear aR aU aT;generalize W.heap.size=fb at *;have ab:=H.o.below XF.o;generalize W.alloc (.cells #[.string s,.slice U S R,.int .i64 (la:Int)] 127)=Wf at *;have bf:=zh (zEY ab o);clear ab bL bM bN bO;refine bf.o.mono ?_;rintro e w4 ⟨rfl,cd,v4,L4,aV,aN,aE,bt⟩;have X:=zh (And.intro aN (And.intro aE bt));have bg:=zh (zEY aV s);clear aV aN aE bt;go_wp2_with fail;refine bg.o.mono ?_;rintro e w5 ⟨rfl,J,v5,d,G,aO,aF,bu⟩;have G:zAd w5 r v5 d J {D with files:=del (nm s) (del (nm o) D.files) }:=G;have aD:=zBm G s;have bc:Sat.get (nm s) (del (nm s) (del (nm o) D.files))=none:=zDi _ _;rw[G.is,show Sat.get (nm s) ({D with files:=del (nm s) (del (nm o) D.files) }:zAA).files=none from bc]at aD;have z:=zh G;have av:=zh (And.intro aO (And.intro aF bu));have bh:=zh aD;have bE:=zh bc;clear G aO aF bu aD bc;go_wp2_with fail;refine bh.o.mono ?_;rintro e w6 ⟨rfl,q6,rfl⟩;have aA:=ins_at (nm s) x.f z.o.ok.srt bE.o;have bd:zA5 (nm s) (d.map zAQ.n)≤d.length:=by have:=spotN_le (nm s) (d.map zAQ.n);rwa[List.length_map]at this
    rw[←z.o.names,z.o.files]at aA;generalize zA5 (nm s) (d.map zAQ.n)=j at *;have bb:Below w5.heap.size w5 (w5.drewN q6):=⟨rfl,rfl,rfl,Nat.le_refl _,fun _ _=>rfl⟩;have A:=zh (z.o.below bb);obtain⟨pv,cv,ap⟩:=z.o.slice;have bK:d.length≤cv:=by
     rcases z.o.at with h0|⟨g,c0,e,hc,-⟩
     ·rw[h0];exact Nat.zero_le _
     ·rw[ap]at e;cases e;exact hc
    have cb:=z.o.fit
    -- the new file's block and its row are as they were
    have bn:(w5.drewN q6).heap[fb]?=some (.cells #[.string s,.slice U S R,.int .i64 (la:Int)] 127 (0,0)):=by
     have h4:=X.o.1.block fb V.o.2.2 V.o.2.1;have h5:=av.o.1.block fb (Nat.lt_of_lt_of_le V.o.2.2 X.o.1.size) V.o.2.1;exact h5.trans (h4.trans V.o.1)
    have aW:zAi (w5.drewN q6) 5 (.slice U S R) x.f.data∧∀k,(Value.slice U S R).ownBlock=some k→J k∧k≠r:=by
     have bv:=List.mem_of_getElem? Hx.o;have ab:=H.o.below XF.o;have aq:=H.o.ob x bv;have bm:=ab.data x bv;rw[bB.o]at aq bm;refine⟨OwnR.keep bm fun k I=>?_,fun k I=>⟨av.o.2.1 k (X.o.2.1 k (aq k I).1),(aq k I).2.1⟩⟩;have bp:=ab.olt k (aq k I).1;have h4:=X.o.1.block k bp (aq k I).2.1;have h5:=av.o.1.block k (Nat.lt_of_lt_of_le bp X.o.1.size) (aq k I).2.1;exact h5.trans h4
    have aP:Chg (fun k=>k=r) w (w5.drewN q6):=by
     have h4:=zCW (own:=fun k=>k=r) XF.o X.o.1;have h5:=h4.trans av.o.1 fun _ _ h=>h;exact h5.trans ((Chg.of_below bb).mono (T:=fun _=>False) fun _ _ h=>h) fun _ _ h=>h.elim
    have bw:∀k,J k→own k∨w.heap.size≤k:=fun k I=>by
     rcases av.o.2.2 k I with h|h
     ·rcases X.o.2.2 k h with h|h
      ·exact .inl h
      ·exact .inr (Nat.le_trans XF.o.size h)
     ·exact .inr (Nat.le_trans (Nat.le_trans XF.o.size X.o.1.size) h)
    have Hq:=zh (And.intro bn (And.intro aW (And.intro aP bw)));have be:=zh aA;clear bn aW aP bw aA bb;generalize w5.drewN q6=F at *;subst ap;have az:fb<F.heap.size:=zAB Hq.o.1;have bC:=zW (∀E,Below F.heap.size F E→E.cell? ⟨fb,0,none⟩=some (.string s)∧E.cell? ⟨fb,1,none⟩=some (.slice U S R)∧E.cell? ⟨fb,2,none⟩=some (.int .i64 (la:Int))) (fun E hb =>
     ⟨(hb.cell (p:=⟨fb,0,none⟩) az).trans (zAG Hq.o.1 rfl),(hb.cell (p:=⟨fb,1,none⟩) az).trans (zAG Hq.o.1 rfl),(hb.cell (p:=⟨fb,2,none⟩) az).trans (zAG Hq.o.1 rfl)⟩)
    have aX:=zW (∀E,Below F.heap.size F E→E.cell? ⟨r,1,none⟩=some (.slice pv d.length cv)) fun E hb=>(A.o.below hb).c1;have bD:=zW (∀E,Below F.heap.size F E→E.frozen? ⟨r,1,none⟩=false) fun E hb=>zAE (A.o.below hb).cells 1;have aL:=zW (∀E,Below F.heap.size F E→OwnR E 127 3 (.slice pv d.length cv) d.length (d.flatMap zAQ.cells)) fun E hb=>(A.o.below hb).row;have aK:=zh (cells_one A.o.core.one);obtain⟨iF,ax,aZ,aH,ba⟩:=info_parts (show(prog.info? 127).map (fun i=>(i.zero,i.size,i.bytes))=some (some (.agg #[.string ⟨#[]⟩,.slice none 0 0,.int .i64 0]),3,48) by kernel_rfl);have cg:∀W,(Instr.slice 116 (.slice pv d.length cv) none (some (.int .i64 (j:Int))) none).run prog W=.ok (.slice pv j cv) W:=fun W=>zB3 W underlying116 ax pv _ cv j (by omega);have ch:∀W,(Instr.slice 116 (.slice pv d.length cv) (some (.int .i64 (j:Int))) none none).run prog W=.ok (.slice (if cv-j=0 then pv else pv.map fun x=>x.add (j*3)) (d.length-j) (cv-j)) W:=fun W=>by
     have:=zE5 (P:=prog) W underlying116 ax pv d.length cv j bd bK;rw[aH]at this;exact this
    have aY:=zW (∀E,Below F.heap.size F E→zAK E 3 (.slice (if cv-j=0 then pv else pv.map fun x=>x.add (j*3)) (d.length-j) (cv-j)) (d.length-j) ((d.flatMap zAQ.cells).drop (j*3))) fun E hb=>OwnR.cut_from (aL.o E hb) bd;generalize bU:(if cv-j=0 then pv else pv.map fun x=>x.add (j*3))=pF at *;have X1:=zh ((Below.refl F.heap.size F).alloc (Nat.le_refl _) (.cells #[] 127));have bk:=aX.o _ X1.o;have bH:=zW (zAK (F.alloc (.cells #[] 127)) 3 (.slice pv j cv) j ((d.flatMap zAQ.cells).take (j*3))) (zAK.upto (OwnR.holds (aL.o _ X1.o)) bd cv);clear bU;generalize bj:d.length=N at *;have HN:=zh bj;clear bj;go_wp2_with (first|(at_builtin;refine zAO (F.alloc (.cells #[] 127)) rfl (.tmp 56) (.tmp 62) 116 rfl 127 iF _ 3 48 underlying116 ax aZ aH ba rfl (by decide) (.slice (some ⟨F.heap.size,0,none⟩) 0 0) 0 [] rfl (zBK F _ 3) (.slice pv j cv) j _ rfl bH.o (fun u hu=>aK.o u (List.mem_of_mem_take hu)) (by unfold maxLen;omega) (by omega) ?_;intro cj aJ t Z ak;rw[Nat.zero_add,List.nil_append]at t;have hX:=X1.o.grown Z X1.o.size (fun j e=>by simp[Value.ownBlock]at e;omega);have l:=zA0 (B:=F.heap.size) ak (fun k I=>by simp[Value.ownBlock]at I;omega) X1.o.size;obtain⟨bX,bI,rfl⟩:=OwnR.shape t;have ac:=zh (And.intro hX (And.intro t l));obtain⟨bP,bQ,bR⟩:=bC.o _ ac.o.1;clear t Z ak hX l bk)|(at_builtin;refine zAO (aJ.alloc (.cells #[.string s,.slice U S R,.int .i64 (la:Int)] 127)) rfl (.tmp 64) (.tmp 66) 116 rfl 127 iF _ 3 48 underlying116 ax aZ aH ba rfl (by decide) (.slice bX j bI) j _ rfl (OwnR.keep ac.o.2.1 fun j hj=>zFt aJ _ (OwnR.lt ac.o.2.1 hj)) (.slice (some ⟨aJ.heap.size,0,none⟩) 1 1) 1 [.string s,.slice U S R,.int .i64 (la:Int)] rfl (zEx aJ #[.string s,.slice U S R,.int .i64 (la:Int)] _ 3 1 1 rfl rfl _ _) (fun u hu=>by simp at hu;rcases hu with rfl|rfl|rfl<;>rfl) (by unfold maxLen;omega) (by omega) ?_;intro ck bA M K al;have aI:=ac.o.1.alloc ac.o.1.size (.cells #[.string s,.slice U S R,.int .i64 (la:Int)] 127);have hX:=aI.grown K aI.size (fun j hj=>ac.o.2.2 j hj);have l:=zA0 (B:=F.heap.size) al ac.o.2.2 aI.size;obtain⟨bY,bJ,rfl⟩:=OwnR.shape M;have Y:=zh (And.intro hX (And.intro M l));have bl:=aX.o _ Y.o.1;clear M K al hX l aI bP bQ bR)|(at_builtin;refine zAO bA rfl (.tmp 69) (.tmp 75) 116 rfl 127 iF _ 3 48 underlying116 ax aZ aH ba rfl (by decide) (.slice bY (j+1) bJ) (j+1) _ rfl Y.o.2.1 (.slice pF (N-j) (cv-j)) (N-j) _ rfl (aY.o bA Y.o.1) (fun u hu=>aK.o u (List.mem_of_mem_drop hu)) (by unfold maxLen;omega) (by omega) ?_;intro cl ag O aa am;have hX:=Y.o.1.grown aa Y.o.1.size (fun j hj=>Y.o.2.2 j hj);have l:=zA0 (B:=F.heap.size) am Y.o.2.2 Y.o.1.size;obtain⟨af,ad,rfl⟩:=OwnR.shape O;have ao:=zh (And.intro hX (And.intro O l));have ca:=aX.o _ ao.o.1;have cc:=bD.o _ ao.o.1;clear O aa am hX l bl))
    have an:=ao.o.1;have ai:zAy ag r (.slice pv N cv) d J D.room D.fuse:=(A.o.below an).core;have es:Value.string s=encStr (nm s):=by rw[enc_str];simp[nm]
    have aB:(d.take j++(⟨nm s,.slice U S R,x.f⟩:zAQ)::d.drop j).length=j+1+(N-j):=by
     rw[List.length_append,List.length_take,List.length_cons,List.length_drop,HN.o];omega
    have aC:OwnR ag 127 3 (.slice af (j+1+(N-j)) ad) (d.take j++(⟨nm s,.slice U S R,x.f⟩:zAQ)::d.drop j).length ((d.take j++(⟨nm s,.slice U S R,x.f⟩:zAQ)::d.drop j).flatMap zAQ.cells):=by
     rw[aB,List.flatMap_append,List.flatMap_cons,cells_take,cells_drop,←List.append_assoc]
     show OwnR ag _ 3 _ _ (((d.flatMap zAQ.cells).take (j*3)++[encStr (nm s),.slice U S R,.int .i64 (x.f.lasts:Int)])++_)
     rw[←es,bF.o];exact ao.o.2.1
    have aj:∀k,(Value.slice af (j+1+(N-j)) ad).ownBlock=some k→¬J k:=fun k I ho=>by
     have h1:=ao.o.2.2 k I;have h2:=A.o.olt k ho;omega
    have ay:=ai.relist aC (fun y hy=>by
     rcases List.mem_append.1 hy with hy|hy
     ·exact .inl (List.mem_of_mem_take hy)
     ·rcases List.mem_cons.1 hy with rfl|hy
      ·exact .inr ⟨OwnR.keep Hq.o.2.1.1 fun k I=>an.block k (OwnR.lt Hq.o.2.1.1 I),Hq.o.2.1.2⟩
      ·exact .inl (List.mem_of_mem_drop hy)) aj
    have hF:Sat.put (nm s) x.f (del (nm o) D.files)=(d.take j++(⟨nm s,.slice U S R,x.f⟩:zAQ)::d.drop j).map zAQ.key:=by
     have e1:Sat.put (nm s) x.f (del (nm o) D.files)=ins (nm s,x.f) (del (nm s) (del (nm o) D.files)):=rfl;have e2:del (nm s) (del (nm o) D.files)=d.map zAQ.key:=A.o.files;rw[e1,e2,be.o,List.map_append,List.map_cons,List.map_take,List.map_drop];rfl
    have aS:zAd (ag.setCell ⟨r,1,none⟩ (.slice af (j+1+(N-j)) ad)) r (.slice af (j+1+(N-j)) ad) _ _ {D with files:=Sat.put (nm s) x.f (del (nm o) D.files) }:=ay.full rfl rfl hF bG.o;have aM:Chg (fun k=>k=r) w (ag.setCell ⟨r,1,none⟩ (.slice af (j+1+(N-j)) ad)) :=
     (Hq.o.2.2.1.trans ((Chg.of_below an).mono (T:=fun _=>False) fun _ _ h=>h) fun _ _ h=>h.elim).trans (zDo (own:=fun k=>k=r) (w:=ag) (a:=⟨r,1,none⟩) rfl) fun _ _ h=>h
    have ae:Chg own w (ag.setCell ⟨r,1,none⟩ (.slice af (j+1+(N-j)) ad)):=aM.mono fun k _ e=>by rw[e];exact H.o.or
    have bs:=Hq.o.2.2.1.size;have aQ:∀k,(J k∨(Value.slice af (j+1+(N-j)) ad).ownBlock=some k)→own k∨w.heap.size≤k:=fun k I=>by
     rcases I with I|I
     ·exact Hq.o.2.2.2 k I
     ·exact .inr (Nat.le_trans bs (ao.o.2.2 k I))
    have au:=zh ((zCr aS bo).mono fun e2 w2 h2=>zDa ae aQ ae.size h2);clear an ai es aB aC aj ay hF aS aM ae bs aQ;refine au.o.mono ?_;intro e cm bi;have HE:=zh bi;obtain⟨rfl,-⟩:=bi;go_wp2_with fail;go_ret;exact HE.o
 ·have hR:D.rename (nm o) (nm s)=(D,D.may [nm o,nm s]):=by unfold zAA.rename;rw[if_pos hm]
  rw[hR];have Hf:=zh (zBR h ((Below.refl _ _).alloc (Nat.le_refl _) (.cells #[.string o,.string s] 9)) (D.may [nm o,nm s]));have C:=zh c;generalize D.may [nm o,nm s]=m at *;have cf:((m:Int) != 0)=true:=by simp;omega
  clear h h1 c hR
  go_enter func199,ntmps199
  go_wp2_with fail;refine C.o.mono ?_;rintro e w2 ⟨rfl,rfl⟩;go_wp2_with fail;go_ret;exact Hf.o
end
end Go.Proofs.YtapfnehdgailmaaGreat
