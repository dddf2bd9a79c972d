/- What the program's functions and the document's do, and plain laws, for PJournalKept. -/
import Derived.Test.YtapfnehdgailmaaGreatMA
import Derived.Test.YtapfnehdgailmaaGreatMD
import Derived.Test.YtapfnehdgailmaaGreatME
import Derived.Test.YtapfnehdgailmaaGreatMF
import Derived.Test.YtapfnehdgailmaaGreatMJ
import Derived.Test.YtapfnehdgailmaaGreatMK
open Go.Proofs.Tryz
set_option maxRecDepth 100000
set_option maxHeartbeats 64000000
namespace Go.Sat
open Go Go.RowKit
theorem zBC (w:World)(e:TypeId)(size:Nat):OwnR (w.alloc (.cells #[] e)) e size (.slice (some ⟨w.heap.size,0,none⟩) 0 0) 0 [] :=
 ⟨by simp,.inr ⟨_,0,#[],rfl,zAJ w _,Nat.le_refl _,Nat.zero_le _,by simp,by simp⟩⟩
theorem zGF (w:World)(cs:Array Value)(xs:List Value)(size n c:Nat)(g:cs.toList=xs)(j:xs.length=n*size)(e:TypeId)(d:Nat×Nat):zAM (w.alloc (.cells cs e d)) size (.slice (some ⟨w.heap.size,0,none⟩) n c) n xs:=by
 refine⟨j,some ⟨w.heap.size,0,none⟩,c,rfl,fun e=>(by cases e),fun a f i u b=>?_⟩;cases f;rw[add_zero];refine zAG (zAJ w _) ?_;rw[←g]at b;simpa using b
end Go.Sat
namespace Go.Proofs.YtapfnehdgailmaaGreat
open Go.RowKit Go.Sat Go.Maps
theorem has_void {w w':World}{v:Value}{l:Bs}(h:zAY w v l)(b:l=[]):zAY w' v l:=by
 subst b;obtain⟨b,p,c,e,d,-⟩:=h;exact⟨b,p,c,e,d,fun a g i u f=>by simp[zAQ]at f⟩
section
variable {w:World} {r:Nat} {v:Value} {L:List zAR} {own:Nat→Prop} {D:zAA}
def nilF (n:Bs):zAR:=⟨n,.slice none 0 0,⟨[],0⟩⟩
theorem new_cells (L:List zAR)(i:Nat)(n:Bs):(L.take i++nilF n::L.drop i).flatMap zAR.cells=((L.flatMap zAR.cells).take (i*3)++(nilF n).cells)++(L.flatMap zAR.cells).drop (i*3):=by
 rw[List.flatMap_append,List.flatMap_cons,cells_take,cells_drop,List.append_assoc]
theorem zAf.putn (h:zAf w r v L own D){n:Bs}(c:Sat.get n D.files=none)(v':Value)(f:zAS):Sat.put n f D.files=((L.take (zA3 n (L.map zAR.n))++nilF n::L.drop (zA3 n (L.map zAR.n))).set (zA3 n (L.map zAR.n)) ⟨n,v',f⟩).map zAR.key:=by
 have b:zA3 n (L.map zAR.n)≤L.length:=by have:=spotN_le n (L.map zAR.n);rwa[List.length_map]at this
 have d:Sat.put n f D.files=ins (n,f) D.files:=by unfold Sat.put;rw[zC1 c]
 rw[d,ins_at n f h.ok.srt c,←h.names,h.files];generalize zA3 n (L.map zAR.n)=i at *;rw[List.set_append_right _ _ (by rw[List.length_take];omega),List.length_take,Nat.min_eq_left b,Nat.sub_self,List.set_cons_zero,List.map_append,List.map_cons,List.map_take,List.map_drop];rfl
theorem rappend_new (h:zAf w r v L own D)(s:ByteArray)(hs:s.size≤9223372036854775807){pb:Option Addr}{m cb:Nat}{l:Bs}(hl:zAY w (.slice pb m cb) l)(bk:l≠[]→∀k,(Value.slice pb m cb).ownBlock=some k→¬own k)(hm:D.may [nm s]=0)(hg:Sat.get (nm s) D.files=none)(bB:D.used+m≤D.room)(bg:D.files.length<4096)
  (bl:zAA.OK {D with files:=put (nm s) ⟨[]++l,0⟩ D.files}) :
  Calls prog 16 #[.pointer (some ⟨r,0,none⟩),.string s,.slice pb m cb] w (zCn w r own (zAA.done {D with files:=put (nm s) ⟨[]++l,0⟩ D.files},0)):=by
 have bj:m=l.length:=(zCc hl).1;have h1:zAf (w.alloc (.cells #[.string s] 9)) r v L own D:=h.below ((Below.refl _ _).alloc (Nat.le_refl _) _);have ao:=zCY h1 (some ⟨w.heap.size,0,none⟩) [s] 1 (zBc w s) (by simp) (by simpa using hs);simp only[List.map_cons,List.map_nil]at ao;have aT:=zBu h1 s;rw[h.is,hg]at aT;rw[hm]at ao;have HU:=zh (fun W hb=>zFr (h.below (w':=W) hb));have bL:D.used≤1073741824:=Nat.le_trans h.ok.used h.ok.room;have bI:=h.ok.room;have aL:=fun v'=>h.putn hg v' ⟨[]++l,0⟩;have bi:=zFS hm;rw[←h.len]at bg;have aC:zA3 (nm s) (L.map zAR.n)≤L.length:=by have:=spotN_le (nm s) (L.map zAR.n);rwa[List.length_map]at this
 obtain⟨pv,cv,aB⟩:=h.slice;have bx:L.length≤cv:=by
  rcases h.at with h0|⟨g,c0,e,hc,-⟩
  ·rw[h0];exact Nat.zero_le _
  ·rw[aB]at e;cases e;exact hc
 generalize zA3 (nm s) (L.map zAR.n)=i at *;have F:=zW (∀W,Below w.heap.size w W→W.cell? ⟨r,0,none⟩=some (.int .i64 (D.room:Int))∧W.cell? ⟨r,1,none⟩=some (.slice pv L.length cv)) (fun W hb=>⟨(h.below hb).c0,(h.below hb).c1.trans (by rw[aB])⟩);have bp:=zW (∀W,Below w.heap.size w W→W.frozen? ⟨r,1,none⟩=false) fun W hb=>zAE (h.below hb).cells 1;have aK:=zW (∀W,Below w.heap.size w W→OwnR W 127 3 (.slice pv L.length cv) L.length (L.flatMap zAR.cells)) (fun W hb=>by rw[←aB];exact(h.below hb).row);have aJ:=zh (cells_one h.core.one);have Hl:=zh hl;have aY:=zh bj;have br:=zh bk;have aZ:=zh aL;have bs:=zh bl;have bq:=zh bi;have H:=zh h;obtain⟨i0,hi,aD,aE,aF⟩:=info_parts (show(prog.info? 5).map (fun i=>(i.zero,i.size,i.bytes))=some (some (.int .u8 0),1,1) by kernel_rfl);obtain⟨iF,ar,aP,az,aQ⟩:=info_parts (show(prog.info? 127).map (fun i=>(i.zero,i.size,i.bytes))=some (some (.agg #[.string ⟨#[]⟩,.slice none 0 0,.int .i64 0]),3,48) by kernel_rfl);have bJ:∀W,(Instr.slice 116 (.slice pv L.length cv) none (some (.int .i64 (i:Int))) none).run prog W=.ok (.slice pv i cv) W:=fun W=>zCO W underlying116 ar pv _ cv i (by omega);have bK:∀W,(Instr.slice 116 (.slice pv L.length cv) (some (.int .i64 (i:Int))) none none).run prog W=.ok (.slice (if cv-i=0 then pv else pv.map fun x=>x.add (i*3)) (L.length-i) (cv-i)) W:=fun W=>by
  have:=zE8 (P:=prog) W underlying116 ar pv L.length cv i aC bx;rw[az]at this;exact this
 have aN:=zW (∀W,Below w.heap.size w W→zAM W 3 (.slice (if cv-i=0 then pv else pv.map fun x=>x.add (i*3)) (L.length-i) (cv-i)) (L.length-i) ((L.flatMap zAR.cells).drop (i*3))) fun W hb=>OwnR.cut_from (aK.o W hb) aC;generalize bA:(if cv-i=0 then pv else pv.map fun x=>x.add (i*3))=pF at *;clear h h1 hm hg bl aL bj hl bi bk bA;subst aB;have bF:decide ((D.room:Int)<(D.used:Int)+(m:Int))=false:=by simp;omega
 have bG:decide (D.room<D.used+m)=false:=by simp;omega
 generalize hU:D.used=U at *;generalize hN:L.length=N at *;have HN:=zh hN;clear hN hU;have aX:=zh ao;have bt:=zh aT;clear ao aT
 go_enter func16,ntmps16
 go_wp2_with fail;refine aX.o.mono ?_;rintro e w2 ⟨rfl,rfl⟩;go_wp2_with fail;refine bt.o.mono ?_;rintro e w3 ⟨rfl,q,rfl⟩;have aM:=zh (zAu w (.cells #[.string s] 9) q);have aO:=zh (fun n=>HU.o _ (aM.o.trans (show Below _ _ (((w.alloc (.cells #[.string s] 9)).drewN q).drewN n)from⟨rfl,rfl,rfl,Nat.le_refl _,fun _ _=>rfl⟩)));obtain⟨bz,ah⟩:=F.o _ aM.o;generalize (w.alloc (.cells #[.string s] 9)).drewN q=W at *;go_wp2_with fail
 go_quiet ((go_at_call 71;refine Calls.quiet_of_same (aO.o _)))
 clear bz ah;have Y:=zW (Below w.heap.size w (W.drewN nq)) (aM.o.trans ⟨rfl,rfl,rfl,Nat.le_refl _,fun _ _=>rfl⟩);generalize W.drewN nq=Wq at *;have T:=zh (Y.o.alloc Y.o.size (.cells #[] 127));have bb:=(F.o _ T.o).2;have bu:=zW (zAM (Wq.alloc (.cells #[] 127)) 3 (.slice pv i cv) i ((L.flatMap zAR.cells).take (i*3))) (zAM.upto (OwnR.holds (aK.o _ T.o)) aC cv);go_wp2_with (first|(at_builtin;refine zAP (Wq.alloc (.cells #[] 127)) rfl (.tmp 48) (.tmp 54) 116 rfl 127 iF _ 3 48 underlying116 ar aP az aQ rfl (by decide) (.slice (some ⟨Wq.heap.size,0,none⟩) 0 0) 0 [] rfl (zBC Wq _ 3) (.slice pv i cv) i _ rfl bu.o (fun u hu=>aJ.o u (List.mem_of_mem_take hu)) (by unfold maxLen;omega) (by omega) ?_;intro bM aG G ab al;rw[Nat.zero_add,List.nil_append]at G;have hX:=T.o.grown ab T.o.size (fun j e=>by have:=Y.o.size;simp[Value.ownBlock]at e;omega);have E:=zA5 (B:=w.heap.size) al (fun k hk=>by have:=Y.o.size;simp[Value.ownBlock]at hk;omega) T.o.size;obtain⟨bC,bv,rfl⟩:=OwnR.shape G;have ap:=zh (And.intro hX (And.intro G E));clear G ab al hX E bb)|(at_builtin;refine zAP (aG.alloc (.cells #[.string s,.slice none 0 0,.int .i64 0] 127)) rfl (.tmp 56) (.tmp 59) 116 rfl 127 iF _ 3 48 underlying116 ar aP az aQ rfl (by decide) (.slice bC i bv) i _ rfl (OwnR.keep ap.o.2.1 fun j hj=>zF0 aG _ (OwnR.lt ap.o.2.1 hj)) (.slice (some ⟨aG.heap.size,0,none⟩) 1 1) 1 [.string s,.slice none 0 0,.int .i64 0] rfl (zGF aG #[.string s,.slice none 0 0,.int .i64 0] _ 3 1 1 rfl rfl _ _) (fun u hu=>by simp at hu;rcases hu with rfl|rfl|rfl<;>rfl) (by unfold maxLen;omega) (by omega) ?_;intro bN bn V ac am;have aA:=ap.o.1.alloc ap.o.1.size (.cells #[.string s,.slice none 0 0,.int .i64 0] 127);have hX:=aA.grown ac aA.size (fun j hj=>ap.o.2.2 j hj);have E:=zA5 (B:=w.heap.size) am ap.o.2.2 aA.size;obtain⟨bD,bw,rfl⟩:=OwnR.shape V;have Z:=zh (And.intro hX (And.intro V E));have bc:=(F.o _ Z.o.1).2;clear V ac am hX E aA)|(at_builtin;refine zAP bn rfl (.tmp 62) (.tmp 68) 116 rfl 127 iF _ 3 48 underlying116 ar aP az aQ rfl (by decide) (.slice bD (i+1) bw) (i+1) _ rfl Z.o.2.1 (.slice pF (N-i) (cv-i)) (N-i) _ rfl (aN.o bn Z.o.1) (fun u hu=>aJ.o u (List.mem_of_mem_drop hu)) (by unfold maxLen;omega) (by omega) ?_;intro bO A X ad an;have hX:=Z.o.1.grown ad Z.o.1.size (fun j hj=>Z.o.2.2 j hj);have E:=zA5 (B:=w.heap.size) an Z.o.2.2 Z.o.1.size;obtain⟨aq,f,rfl⟩:=OwnR.shape X;have aa:=zh (And.intro hX (And.intro X E));have bd:=(F.o _ aa.o.1).2;have bh:=bp.o _ aa.o.1;clear X ad an hX E bc))
 clear bd bh;have aw:=aa.o.2.1;have aj:=(H.o.below aa.o.1).core;have es:Value.string s=encStr (nm s):=by rw[enc_str];simp[nm]
 have av:(L.take i++nilF (nm s)::L.drop i).length=i+1+(N-i):=by
  rw[List.length_append,List.length_take,List.length_cons,List.length_drop,HN.o];omega
 have ax:OwnR A 127 3 (.slice aq (i+1+(N-i)) f) (L.take i++nilF (nm s)::L.drop i).length ((L.take i++nilF (nm s)::L.drop i).flatMap zAR.cells):=by
  rw[new_cells,av]
  show OwnR A _ 3 _ _ (((L.flatMap zAR.cells).take (i*3)++[encStr (nm s),.slice none 0 0,.int .i64 0])++_)
  rw[←es];exact aw
 have ak:∀k,(Value.slice aq (i+1+(N-i)) f).ownBlock=some k→¬own k:=fun k hk ho=>by
  have h1:=aa.o.2.2 k hk;have h2:=H.o.olt k ho;omega
 have C:=aj.relist ax (fun x hx=>by
  rcases List.mem_append.1 hx with hx|hx
  ·exact .inl (List.mem_of_mem_take hx)
  ·rcases List.mem_cons.1 hx with rfl|hx
   ·exact .inr ⟨OwnR.nil _ _ _,fun k hk=>by cases hk⟩
   ·exact .inl (List.mem_of_mem_drop hx)) ak
 have ae:zAY (A.setCell ⟨r,1,none⟩ (.slice aq (i+1+(N-i)) f)) (.slice pb m cb) l:=by
  by_cases aS:l=[]
  ·exact has_void Hl.o aS
  ·exact Hl.o.same fun k hk=>by
    have h1:=Hl.o.lt aS hk;have h2:k≠r:=fun e=>br.o aS k hk (by rw[e];exact H.o.or);exact(set_other _ h2).trans (aa.o.1.block k h1)
 have bf:Chg own w (A.setCell ⟨r,1,none⟩ (.slice aq (i+1+(N-i)) f)):=zCd aa.o.1 (zEK H.o.or);have bm:∀k,(own k∨(Value.slice aq (i+1+(N-i)) f).ownBlock=some k)→own k∨w.heap.size≤k:=fun k hk=>hk.imp id (aa.o.2.2 k);have aU:(L.take i++nilF (nm s)::L.drop i)[i]?=some (nilF (nm s)):=by
  rw[List.getElem?_append_right (by rw[List.length_take];omega),List.length_take,HN.o,Nat.min_eq_left aC,Nat.sub_self];rfl
 obtain⟨g,rfl⟩:∃g,aq=some ⟨g,0,none⟩:=by
  rcases aw.2 with⟨e,hn⟩|⟨g',bE,cur,e,_⟩
  ·omega
  ·cases e;exact⟨g',rfl⟩
 have aV:=zW (r≠g) ((C.ov g rfl).2.symm);have bo:=zh C;have b:=zW (∀W,Below (A.setCell ⟨r,1,none⟩ (.slice (some ⟨g,0,none⟩) (i+1+(N-i)) f)).heap.size (A.setCell ⟨r,1,none⟩ (.slice (some ⟨g,0,none⟩) (i+1+(N-i)) f)) W→W.cell? ⟨r,1,none⟩=some (.slice (some ⟨g,0,none⟩) (i+1+(N-i)) f)∧W.cell? ⟨g,i*3+1,none⟩=some (.slice none 0 0)∧W.frozen? ⟨g,i*3+1,none⟩=false) (fun W hb=>by
  have hW:=C.keep (w':=W) hb.size fun k hk=>hb.block k (C.olt k hk);exact⟨hW.c1,(hW.at rfl aU).2.1,hW.free rfl _⟩)
 have ba:=zh (fun(W:World) (_:Below (A.setCell ⟨r,1,none⟩ (.slice (some ⟨g,0,none⟩) (i+1+(N-i)) f)).heap.size (A.setCell ⟨r,1,none⟩ (.slice (some ⟨g,0,none⟩) (i+1+(N-i)) f)) W)=>(show zAM W 1 (.slice none 0 0) 0 (zAQ [])from⟨rfl,none,0,rfl,fun _=>rfl,fun a ha=>by cases ha⟩));have aW:=zh (fun(W:World) (hb:Below (A.setCell ⟨r,1,none⟩ (.slice (some ⟨g,0,none⟩) (i+1+(N-i)) f)).heap.size (A.setCell ⟨r,1,none⟩ (.slice (some ⟨g,0,none⟩) (i+1+(N-i)) f)) W)=>(show zAM W 1 (.slice pb m cb) m (zAQ l) by
  have hW:=ae.below hb;unfold zAY at hW;rw[←aY.o]at hW;exact hW))
 have aH:=zh (fun(w7:World) (v7:Value) (hb:Below (A.setCell ⟨r,1,none⟩ (.slice (some ⟨g,0,none⟩) (i+1+(N-i)) f)).heap.size (A.setCell ⟨r,1,none⟩ (.slice (some ⟨g,0,none⟩) (i+1+(N-i)) f)) w7) (h7:zAk w7 5 v7 ([]++l)) (hn7:∀k,v7.ownBlock=some k→(A.setCell ⟨r,1,none⟩ (.slice (some ⟨g,0,none⟩) (i+1+(N-i)) f)).heap.size≤k)=>rapp_end (D:=D) C rfl aU hb h7 hn7 (aZ.o v7) bs.o bf bm bq.o);have aI:=zW (([]++l:Bs).length=m) (by rw[List.nil_append,aY.o]);clear aw aj es av ax ak C ae bf bm aU Y T;generalize A.setCell ⟨r,1,none⟩ (.slice (some ⟨g,0,none⟩) (i+1+(N-i)) f)=Ws at *;generalize hM:i+1+(N-i)=M at *;have bH:i<M:=by omega
 clear hM;obtain⟨be,-,-⟩:=b.o _ (Below.refl _ _);go_wp2_with fail;clear be;have Y:=zW (Below Ws.heap.size Ws Ws.drew) (⟨rfl,rfl,rfl,Nat.le_refl _,fun _ _=>rfl⟩);have hS:=(b.o _ Y.o).1;refine ost (fun W':World=>W'.cell? ⟨r,1,none⟩=some (.slice (some ⟨g,0,none⟩) M f)) 20 hS fun c=>?_;clear hS;generalize Ws.drew=Wd at *;refine Pl [0,1,2,3,4,6,7,8,9,10,11,12,15] ?_
 iterate 13 (refine Pc rfl ?_;simp only[uZ])
 refine Pn ?_;refine zDB 5 13 rfl rfl (by kernel_rfl) (by rfl) (by rfl) (fun K t=>?_) (fun K t=>?_)
 focus
  go_wp2_with fail;have T:=zh (Y.o.alloc Y.o.size (.cells #[] 5));refine t.o _ _ ((b.o _ T.o).1) fun c=>?_;clear t;try simp only[uZ]
  refine oon 13 rfl fun K t=>?_;have ai:=(b.o _ T.o).2.1;go_wp2_with fail;clear ai
 rotate_left
 focus
  have ai:=(b.o _ Y.o).2.1;go_wp2_with fail;clear ai;refine t.o _ _ ((b.o _ Y.o).1) fun c=>?_;clear t;try simp only[uZ]
  refine oon 5 rfl fun K t=>?_;go_wp2_with fail;have T:=zh (Y.o.alloc Y.o.size (.cells #[] 5))
 all_goals
  refine t.o _ _ ((b.o _ T.o).1) fun c=>?_;clear t;try simp only[uZ]
  refine oon 14 rfl fun K t=>?_;have S:=zBH Wd 5;have ay:=ba.o _ T.o;refine zAq (.tmp 77) (.tmp 85) 22 (by rfl) 5 i0 (.int .u8 0) 1 1 underlying22 hi aD aE aF rfl (by decide) (.slice (some ⟨Wd.heap.size,0,none⟩) 0 0) 0 [] (by rfl) S (.slice none 0 0) 0 _ (by rfl) ay (zAO _) (by unfold maxLen;omega) (by omega) ?_;clear S ay;intro v6 w6 p y J;have X6:=zh (T.o.grown y T.o.size (fun j e=>by have:=Y.o.size;simp[Value.ownBlock]at e;omega));have Q:=zA5 (B:=Ws.heap.size) J (fun k hk=>by have:=Y.o.size;simp[Value.ownBlock]at hk;omega) T.o.size;rw[Nat.zero_add,List.nil_append]at p;obtain⟨p6,c6,rfl⟩:=OwnR.shape p;have ag:=zh p;have I:=zh Q;clear y J p Q;refine t.o _ _ ((b.o _ X6.o).1) fun c=>?_;clear t;try simp only[uZ]
  refine oon 16 rfl fun K t=>?_;have ae:=aW.o _ X6.o;refine zAq (.tmp 86) (.tmp 87) 22 (by rfl) 5 i0 (.int .u8 0) 1 1 underlying22 hi aD aE aF rfl (by decide) (.slice p6 0 c6) 0 _ (by rfl) ag.o (.slice pb m cb) m _ (by rfl) ae (zAO _) (by unfold maxLen;omega) (by omega) ?_;clear ae;intro v7 w7 d z O;have X7:=zh (X6.o.grown z X6.o.size I.o);have R:=zA5 (B:=Ws.heap.size) O I.o X6.o.size;rw[Nat.zero_add]at d;obtain⟨p7,c7,rfl⟩:=OwnR.shape d;rw[←zBt]at d;have af:=zh (aH.o w7 (.slice p7 m c7) X7.o (by unfold zAk;rw[aI.o];exact d) R);clear z O d R;refine t.o _ _ ((b.o _ X7.o).1) fun c=>?_;clear t;try simp only[uZ]
  refine Pl [17,18] ?_;iterate 2 (refine Pc rfl ?_;simp only[uZ])
  refine Pn ?_;refine oon 19 rfl fun K t=>?_;obtain⟨ah,ai,au⟩:=b.o _ X7.o;go_wp2_with fail;have aR:(w7.setCell ⟨g,i*3+1,none⟩ (.slice p7 m c7)).cell? ⟨r,1,none⟩=some (.slice (some ⟨g,0,none⟩) M f):=(World.cell?_of_block (set_other _ aV.o)).trans ah;clear ah ai au;refine t.o _ _ (aR) fun c=>?_;clear t;try simp only[uZ]
  refine odn ?_;clear c;go_wp2_with fail;refine af.o.mono ?_;intro e w8 hE;have HE:=zh hE;obtain⟨rfl,-⟩:=hE;go_wp2_with fail;go_ret;exact HE.o
end
section
variable {w:World} {r:Nat} {v:Value} {L:List zAR} {own:Nat→Prop} {D:zAA}
theorem zEY (h:zAf w r v L own D)(s:ByteArray)(t:s.size≤9223372036854775807){C:Option Addr}{m y:Nat}{l:Bs}(q:zAY w (.slice C m y) l)(I:l.length≤140737488355328)(B:l≠[]→∀k,(Value.slice C m y).ownBlock=some k→¬own k) :
  Calls prog 16 #[.pointer (some ⟨r,0,none⟩),.string s,.slice C m y] w (zCn w r own (D.append (nm s) l)):=by
 have A:m=l.length:=(zCc q).1
 by_cases i:D.may [nm s]=0
 ·by_cases d:D.full (nm s) l=true
  ·have j:D.append (nm s) l=(D,6):=by unfold zAA.append;rw[if_neg (by rw[i];simp),if_pos d]
   rw[j];refine rappend_full h s t (by omega) i ?_;unfold zAA.full at d;rw[Bool.or_eq_true,Bool.and_eq_true,decide_eq_true_eq,decide_eq_true_eq,Option.isNone_iff_eq_none]at d;rw[A];exact d
  ·have a:D.full (nm s) l=false:=by simpa using d
   have g:=ok_append h.ok i a;have j:D.append (nm s) l=(zAA.done {D with files:=put (nm s) ⟨(D.cur (nm s)).data++l,(D.cur (nm s)).lasts⟩ D.files},0):=by unfold zAA.append;rw[if_neg (by rw[i];simp),if_neg d]
   rw[j];unfold zAA.full at d;rw[Bool.or_eq_true,Bool.and_eq_true,decide_eq_true_eq,decide_eq_true_eq,Option.isNone_iff_eq_none,not_or]at d;have c:D.used+m≤D.room:=by omega
   cases p:Sat.get (nm s) D.files with
   | some f =>
    have z:D.cur (nm s)=f:=by unfold zAA.cur;rw[p];rfl
    rw[z]at g ⊢;exact rappend_is h s t q i p c g
   | none =>
    have z:D.cur (nm s)=⟨[],0⟩:=by unfold zAA.cur;rw[p];rfl
    rw[z]at g ⊢;exact rappend_new h s t q B i p c (Nat.lt_of_not_le fun H=>d.2 ⟨p,H⟩) g
 ·have j:D.append (nm s) l=(D,D.may [nm s]):=by unfold zAA.append;rw[if_pos i]
  rw[j];have E:zAf (w.alloc (.cells #[.string s] 9)) r v L own D:=h.below ((Below.refl _ _).alloc (Nat.le_refl _) _);have b:=zCY E (some ⟨w.heap.size,0,none⟩) [s] 1 (zBc w s) (by simp) (by simpa using t);simp only[List.map_cons,List.map_nil]at b;have F:=zh (zBY h ((Below.refl _ _).alloc (Nat.le_refl _) (.cells #[.string s] 9)) (D.may [nm s]));have n:=zh b;generalize D.may [nm s]=G at *;have J:((G:Int) != 0)=true:=by simp;omega
  clear h E b j q
  go_enter func16,ntmps16
  go_wp2_with fail;refine n.o.mono ?_;rintro e w2 ⟨rfl,rfl⟩;go_wp2_with fail;go_ret;exact F.o
end
end Go.Proofs.YtapfnehdgailmaaGreat
namespace Go.Sat
open Go Go.RowKit
theorem ord_three {P:Program}{l:List Oper}{Q:Exit→Act→World→Prop}{f:Region.Mode}{S:World→Prop}{c:Nat}{b:Array Bool}{a:Act}{w:World}(i j k:Nat){r s t:Oper}{A B C:List Oper}(g:l.drop i=r::A)(m:l.drop j=s::B)(n:l.drop k=t::C)(h:Region.ready f l.toArray b=[i,j,k])
  (o:Region.wanted r (yielded l.toArray a.tmps)=true) (p:Region.wanted s (yielded l.toArray a.tmps)=true) (q:Region.wanted t (yielded l.toArray a.tmps)=true)
  (v:∀K:Act→World→Prop,Shut (∀a w,S w→(S w→wpAnyH P f l.toArray Q S c (b.setIfInBounds i true) a w)→K a w)→Oper.wp P r a w K Q)
  (y:∀K:Act→World→Prop,Shut (∀a w,S w→(S w→wpAnyH P f l.toArray Q S c (b.setIfInBounds j true) a w)→K a w)→Oper.wp P s a w K Q)
  (z:∀K:Act→World→Prop,Shut (∀a w,S w→(S w→wpAnyH P f l.toArray Q S c (b.setIfInBounds k true) a w)→K a w)→Oper.wp P t a w K Q):wpAnyH P f l.toArray Q S (c+1) b a w :=
 wpAnyH_ready h (by simp) (AllReadyH.cons (zBx g) (fun K d=>by rw[if_pos o];exact v K d) (AllReadyH.cons (zBx m) (fun K d=>by rw[if_pos p];exact y K d) (AllReadyH.cons (zBx n) (fun K d=>by rw[if_pos q];exact z K d) AllReadyH.nil)))
end Go.Sat
namespace Go.Proofs.YtapfnehdgailmaaGreat
open Go.RowKit Go.Sat Go.Maps
section
variable {w:World} {r:Nat} {v:Value} {L:List zAR} {own:Nat→Prop} {D:zAA}
theorem wrap_small {z:Int}(b:-9223372036854775808≤z)(c:z≤9223372036854775807):IntKind.i64.wrap z=z:=IntWalk.i64_in z ⟨b,c⟩
def RGone (w:World)(r:Nat)(own:Nat→Prop)(D:zAA)(e:Ending)(w':World):Prop :=
 e=.returned (.tuple #[])∧∃own' v' L',zAf w' r v' L' own' D∧Chg (fun k=>k=r) w w'∧(∀k,own k→own' k)∧∀k,own' k→own k∨w.heap.size≤k
theorem zEd (h:zAf w r v L own D)(s:ByteArray) :
  Calls prog 161 #[.pointer (some ⟨r,0,none⟩),.string s] w (RGone w r own {D with files:=del (nm s) D.files}):=by
 have ad:=zBu h s;rw[h.is]at ad;cases hg:Sat.get (nm s) D.files with
 | none =>
  rw[hg]at ad;have hD:({D with files:=del (nm s) D.files}:zAA)=D:=by rw[zC1 hg]
  rw[hD];have Hf:=zh (fun q=>show RGone w r own D (.returned (.tuple #[])) (w.drewN q)from⟨rfl,own,v,L,h.below ⟨rfl,rfl,rfl,Nat.le_refl _,fun _ _=>rfl⟩,⟨rfl,rfl,rfl,Nat.le_refl _,fun _ _ _=>rfl⟩,fun _ h=>h,fun _ h=>.inl h⟩);have ah:=zh ad;clear h ad hg hD
  go_enter func161,ntmps161
  go_wp2_with fail;refine ah.o.mono ?_;rintro e w3 ⟨rfl,q,rfl⟩;go_wp2_with fail
  go_end0
  exact Hf.o q
 | some f =>
  rw[hg]at ad;obtain⟨x,hx,av,rfl⟩:=h.hit hg;have ap:zA3 (nm s) (L.map zAR.n)<L.length:=(List.getElem?_eq_some_iff.1 hx).1;have ag:del (nm s) D.files=(L.take (zA3 (nm s) (L.map zAR.n))++L.drop (zA3 (nm s) (L.map zAR.n)+1)).map zAR.key:=by
   have h1:isAt (nm s) (D.files.map (·.1))=true:=by rw[(zGd (nm s) h.ok.srt).1,hg];rfl
   rw[del_at (nm s) h.ok.srt h1,←h.names,List.map_append,List.map_take,List.map_drop,←h.files]
  obtain⟨pv,cv,ae⟩:=h.slice;have am:L.length≤cv:=by
   rcases h.at with h0|⟨g,c0,e,hc,-⟩
   ·rw[h0];exact Nat.zero_le _
   ·rw[ae]at e;cases e;exact hc
  have ao:=h.fit;have al:=ok_del h.ok (nm s);generalize zA3 (nm s) (L.map zAR.n)=i at *;have Q:=zW (∀W,Below w.heap.size w W→W.cell? ⟨r,1,none⟩=some (.slice pv L.length cv)) (fun W hb=>(h.below hb).c1.trans (by rw[ae]));have ab:=zW (∀W,Below w.heap.size w W→W.frozen? ⟨r,1,none⟩=false) fun W hb=>zAE (h.below hb).cells 1;have af:=zW (∀W,Below w.heap.size w W→OwnR W 127 3 (.slice pv L.length cv) L.length (L.flatMap zAR.cells)) (fun W hb=>by rw[←ae];exact(h.below hb).row);have H:=zh (cells_one h.core.one);have aa:=zW (∀w7 v7,Below w.heap.size w w7→OwnR w7 127 3 v7 (i+(L.length-(i+1))) ((L.flatMap zAR.cells).take (i*3)++(L.flatMap zAR.cells).drop ((i+1)*3))→(∀k,v7.ownBlock=some k→w.heap.size≤k)→RGone w r own {D with files:=del (nm s) D.files} (.returned (.tuple #[])) (w7.setCell ⟨r,1,none⟩ v7)) (fun w7 v7 hb h7 ak=>by
   have aj:(L.take i++L.drop (i+1)).length=i+(L.length-(i+1)):=by
    rw[List.length_append,List.length_take,List.length_drop];omega
   have ai:=(h.below hb).core.relist (v':=v7) (L':=L.take i++L.drop (i+1)) (by rw[aj,List.flatMap_append,cells_take,cells_drop];exact h7) (fun x hx=>by
    rcases List.mem_append.1 hx with hx|hx
    ·exact .inl (List.mem_of_mem_take hx)
    ·exact .inl (List.mem_of_mem_drop hx)) (fun k hk ho=>by
     have h1:=ak k hk;have h2:=h.olt k ho;omega)
   exact⟨rfl,_,_,_,ai.full rfl rfl ag al,zCd hb (zEK (own:=fun k=>k=r) rfl),fun _ h=>.inl h,fun k hk=>hk.imp id (ak k)⟩)
  obtain⟨iF,S,V,U,X⟩:=info_parts (show(prog.info? 127).map (fun i=>(i.zero,i.size,i.bytes))=some (some (.agg #[.string ⟨#[]⟩,.slice none 0 0,.int .i64 0]),3,48) by kernel_rfl);have aq:∀W,(Instr.slice 116 (.slice pv L.length cv) none (some (.int .i64 (i:Int))) none).run prog W=.ok (.slice pv i cv) W:=fun W=>zCO W underlying116 S pv _ cv i (by omega);have ar:∀W,(Instr.slice 116 (.slice pv L.length cv) (some (.int .i64 ((i:Int)+1))) none none).run prog W=.ok (.slice (if cv-(i+1)=0 then pv else pv.map fun x=>x.add ((i+1)*3)) (L.length-(i+1)) (cv-(i+1))) W:=fun W=>by
   have:=zE8 (P:=prog) W underlying116 S pv L.length cv (i+1) (by omega) am;rw[U]at this;exact this
  have au:IntKind.i64.wrap ((i:Int)+1)=(i:Int)+1:=wrap_small (by omega) (by omega);have ac:=zW (∀W,Below w.heap.size w W→zAM W 3 (.slice pv i cv) i ((L.flatMap zAR.cells).take (i*3))) (fun W hb=>zAM.upto (OwnR.holds (af.o _ hb)) (by omega) cv);have T:=zW (∀W,Below w.heap.size w W→zAM W 3 (.slice (if cv-(i+1)=0 then pv else pv.map fun x=>x.add ((i+1)*3)) (L.length-(i+1)) (cv-(i+1))) (L.length-(i+1)) ((L.flatMap zAR.cells).drop ((i+1)*3))) (fun W hb=>OwnR.cut_from (af.o W hb) (by omega));generalize an:(if cv-(i+1)=0 then pv else pv.map fun x=>x.add ((i+1)*3))=pF at *;have ah:=zh ad;clear h hg al ad ag an hx;subst ae;generalize hN:L.length=N at *;clear hN
  go_enter func161,ntmps161
  go_wp2_with fail;refine ah.o.mono ?_;rintro e w3 ⟨rfl,q,rfl⟩;have X0:=zW (Below w.heap.size w (w.drewN q).drew) (⟨rfl,rfl,rfl,Nat.le_refl _,fun _ _=>rfl⟩);go_wp2_with fail;refine ord_start (fun _:World=>True) (n:=20) (by kernel_rfl) rfl trivial fun _=>?_;generalize (w.drewN q).drew=Wd at *;refine Pl [0,2,3,4,6,9,10,11,13,14] ?_
  iterate 10 (refine Pc rfl ?_;simp only[uZ])
  refine Pn ?_;refine ord_three 1 5 12 rfl rfl rfl (by kernel_rfl) (by rfl) (by rfl) (by rfl) (fun K d=>?_) (fun K d=>?_) (fun K d=>?_)
  ·go_wp2_with fail;have O:=zh (X0.o.alloc X0.o.size (.cells #[] 127));refine d.o _ _ trivial fun _=>?_;clear d
   try simp only[uZ]
   refine zDB 5 12 rfl rfl (by kernel_rfl) (by rfl) (by rfl) (fun K d=>?_) (fun K d=>?_)
   ·have E:=Q.o _ O.o;go_wp2_with fail;clear E;refine d.o _ _ trivial fun _=>?_;clear d
    try simp only[uZ]
    refine zBi 7 (v:=?v2x7) rfl (by kernel_rfl) (by kernel_rfl) (by kernel_rfl) (fun _ _ _ h=>h) (by rfl) trivial ?y2x7 ?_
    case y2x7=>(intro w I;clear I;go_simp;try with_reducible rfl)
    simp only[uZ];refine zDB 8 12 rfl rfl (by kernel_rfl) (by rfl) (by rfl) (fun K d=>?_) (fun K d=>?_)
    ·have C:=zBC Wd 127 3;have M:=ac.o _ O.o;refine zAq (.tmp 14) (.tmp 20) 116 (by rfl) 127 iF _ 3 48 underlying116 S V U X rfl (by decide) (.slice (some ⟨Wd.heap.size,0,none⟩) 0 0) 0 [] (by rfl) C (.slice pv i cv) i _ (by rfl) M (fun u Z=>H.o u (List.mem_of_mem_take Z)) (by unfold maxLen;omega) (by omega) ?_;clear C M;intro v6 w6 b l y;have R:=zh (O.o.grown l O.o.size (fun j e=>by have:=X0.o.size;simp[Value.ownBlock]at e;omega));have a:=zA5 (B:=w.heap.size) y (fun k hk=>by have:=X0.o.size;simp[Value.ownBlock]at hk;omega) O.o.size;rw[Nat.zero_add,List.nil_append]at b;obtain⟨p6,c6,rfl⟩:=OwnR.shape b;have G:=zh b;have p:=zh a;clear l y b a;refine d.o _ _ trivial fun _=>?_;clear d
     try simp only[uZ]
     refine oon 12 rfl fun K d=>?_;have E:=Q.o _ R.o;go_wp2_with fail;clear E;refine d.o _ _ trivial fun _=>?_;clear d
     try simp only[uZ]
     refine zBi 15 (v:=?v4x15) rfl (by kernel_rfl) (by kernel_rfl) (by kernel_rfl) (fun _ _ _ h=>h) (by rfl) trivial ?y4x15 ?_
     case y4x15=>(intro w I;clear I;go_simp;try with_reducible rfl)
     simp only[uZ];refine oon 16 rfl fun K d=>?_;have t:=T.o _ R.o;refine zAq (.tmp 21) (.tmp 28) 116 (by rfl) 127 iF _ 3 48 underlying116 S V U X rfl (by decide) (.slice p6 i c6) i _ (by rfl) G.o (.slice pF (N-(i+1)) (cv-(i+1))) (N-(i+1)) _ (by rfl) t (fun u Z=>H.o u (List.mem_of_mem_drop Z)) (by unfold maxLen;omega) (by omega) ?_;clear t
     intro v7 w7 c m z;have Y:=zh (R.o.grown m R.o.size p.o);have A:=zA5 (B:=w.heap.size) z p.o R.o.size;obtain⟨p7,c7,rfl⟩:=OwnR.shape c;have F:=zh (aa.o w7 _ Y.o c A);clear m z c A;refine d.o _ _ trivial fun _=>?_;clear d
     try simp only[uZ]
     refine Pl [17,18] ?_
     iterate 2 (refine Pc rfl ?_;simp only[uZ])
     refine Pn ?_;refine oon 19 rfl fun K d=>?_;have E:=Q.o _ Y.o;have J:=ab.o _ Y.o;go_wp2_with fail;clear E J;refine d.o _ _ trivial fun _=>?_;clear d
     try simp only[uZ]
     refine odn ?_;go_wp2_with fail
     go_end0
     exact F.o
    ·have E:=Q.o _ O.o;go_wp2_with fail;clear E;refine d.o _ _ trivial fun _=>?_;clear d
     try simp only[uZ]
     refine zBi 15 (v:=?v6x15) rfl (by kernel_rfl) (by kernel_rfl) (by kernel_rfl) (fun _ _ _ h=>h) (by rfl) trivial ?y6x15 ?_
     case y6x15=>(intro w I;clear I;go_simp;try with_reducible rfl)
     simp only[uZ];refine oon 8 rfl fun K d=>?_;have C:=zBC Wd 127 3;have M:=ac.o _ O.o;refine zAq (.tmp 14) (.tmp 20) 116 (by rfl) 127 iF _ 3 48 underlying116 S V U X rfl (by decide) (.slice (some ⟨Wd.heap.size,0,none⟩) 0 0) 0 [] (by rfl) C (.slice pv i cv) i _ (by rfl) M (fun u Z=>H.o u (List.mem_of_mem_take Z)) (by unfold maxLen;omega) (by omega) ?_;clear C M;intro v6 w6 b l y;have R:=zh (O.o.grown l O.o.size (fun j e=>by have:=X0.o.size;simp[Value.ownBlock]at e;omega));have a:=zA5 (B:=w.heap.size) y (fun k hk=>by have:=X0.o.size;simp[Value.ownBlock]at hk;omega) O.o.size;rw[Nat.zero_add,List.nil_append]at b;obtain⟨p6,c6,rfl⟩:=OwnR.shape b;have G:=zh b;have p:=zh a;clear l y b a;refine d.o _ _ trivial fun _=>?_;clear d
     try simp only[uZ]
     refine oon 16 rfl fun K d=>?_;have t:=T.o _ R.o;refine zAq (.tmp 21) (.tmp 28) 116 (by rfl) 127 iF _ 3 48 underlying116 S V U X rfl (by decide) (.slice p6 i c6) i _ (by rfl) G.o (.slice pF (N-(i+1)) (cv-(i+1))) (N-(i+1)) _ (by rfl) t (fun u Z=>H.o u (List.mem_of_mem_drop Z)) (by unfold maxLen;omega) (by omega) ?_;clear t
     intro v7 w7 c m z;have Y:=zh (R.o.grown m R.o.size p.o);have A:=zA5 (B:=w.heap.size) z p.o R.o.size;obtain⟨p7,c7,rfl⟩:=OwnR.shape c;have F:=zh (aa.o w7 _ Y.o c A);clear m z c A;refine d.o _ _ trivial fun _=>?_;clear d
     try simp only[uZ]
     refine Pl [17,18] ?_
     iterate 2 (refine Pc rfl ?_;simp only[uZ])
     refine Pn ?_;refine oon 19 rfl fun K d=>?_;have E:=Q.o _ Y.o;have J:=ab.o _ Y.o;go_wp2_with fail;clear E J;refine d.o _ _ trivial fun _=>?_;clear d
     try simp only[uZ]
     refine odn ?_;go_wp2_with fail
     go_end0
     exact F.o
   ·have E:=Q.o _ O.o;go_wp2_with fail;clear E;refine d.o _ _ trivial fun _=>?_;clear d
    try simp only[uZ]
    refine zBi 15 (v:=?v9x15) rfl (by kernel_rfl) (by kernel_rfl) (by kernel_rfl) (fun _ _ _ h=>h) (by rfl) trivial ?y9x15 ?_
    case y9x15=>(intro w I;clear I;go_simp;try with_reducible rfl)
    simp only[uZ];refine oon 5 rfl fun K d=>?_;have E:=Q.o _ O.o;go_wp2_with fail;clear E;refine d.o _ _ trivial fun _=>?_;clear d
    try simp only[uZ]
    refine zBi 7 (v:=?v10x7) rfl (by kernel_rfl) (by kernel_rfl) (by kernel_rfl) (fun _ _ _ h=>h) (by rfl) trivial ?y10x7 ?_
    case y10x7=>(intro w I;clear I;go_simp;try with_reducible rfl)
    simp only[uZ];refine oon 8 rfl fun K d=>?_;have C:=zBC Wd 127 3;have M:=ac.o _ O.o;refine zAq (.tmp 14) (.tmp 20) 116 (by rfl) 127 iF _ 3 48 underlying116 S V U X rfl (by decide) (.slice (some ⟨Wd.heap.size,0,none⟩) 0 0) 0 [] (by rfl) C (.slice pv i cv) i _ (by rfl) M (fun u Z=>H.o u (List.mem_of_mem_take Z)) (by unfold maxLen;omega) (by omega) ?_;clear C M;intro v6 w6 b l y;have R:=zh (O.o.grown l O.o.size (fun j e=>by have:=X0.o.size;simp[Value.ownBlock]at e;omega));have a:=zA5 (B:=w.heap.size) y (fun k hk=>by have:=X0.o.size;simp[Value.ownBlock]at hk;omega) O.o.size;rw[Nat.zero_add,List.nil_append]at b;obtain⟨p6,c6,rfl⟩:=OwnR.shape b;have G:=zh b;have p:=zh a;clear l y b a;refine d.o _ _ trivial fun _=>?_;clear d
    try simp only[uZ]
    refine oon 16 rfl fun K d=>?_;have t:=T.o _ R.o;refine zAq (.tmp 21) (.tmp 28) 116 (by rfl) 127 iF _ 3 48 underlying116 S V U X rfl (by decide) (.slice p6 i c6) i _ (by rfl) G.o (.slice pF (N-(i+1)) (cv-(i+1))) (N-(i+1)) _ (by rfl) t (fun u Z=>H.o u (List.mem_of_mem_drop Z)) (by unfold maxLen;omega) (by omega) ?_;clear t
    intro v7 w7 c m z;have Y:=zh (R.o.grown m R.o.size p.o);have A:=zA5 (B:=w.heap.size) z p.o R.o.size;obtain⟨p7,c7,rfl⟩:=OwnR.shape c;have F:=zh (aa.o w7 _ Y.o c A);clear m z c A;refine d.o _ _ trivial fun _=>?_;clear d
    try simp only[uZ]
    refine Pl [17,18] ?_
    iterate 2 (refine Pc rfl ?_;simp only[uZ])
    refine Pn ?_;refine oon 19 rfl fun K d=>?_;have E:=Q.o _ Y.o;have J:=ab.o _ Y.o;go_wp2_with fail;clear E J;refine d.o _ _ trivial fun _=>?_;clear d
    try simp only[uZ]
    refine odn ?_;go_wp2_with fail
    go_end0
    exact F.o
  ·have E:=Q.o _ X0.o;go_wp2_with fail;clear E;refine d.o _ _ trivial fun _=>?_;clear d
   try simp only[uZ]
   refine zBi 7 (v:=?v13x7) rfl (by kernel_rfl) (by kernel_rfl) (by kernel_rfl) (fun _ _ _ h=>h) (by rfl) trivial ?y13x7 ?_
   case y13x7=>(intro w I;clear I;go_simp;try with_reducible rfl)
   simp only[uZ];refine zDB 1 12 rfl rfl (by kernel_rfl) (by rfl) (by rfl) (fun K d=>?_) (fun K d=>?_)
   ·go_wp2_with fail;have O:=zh (X0.o.alloc X0.o.size (.cells #[] 127));refine d.o _ _ trivial fun _=>?_;clear d
    try simp only[uZ]
    refine zDB 8 12 rfl rfl (by kernel_rfl) (by rfl) (by rfl) (fun K d=>?_) (fun K d=>?_)
    ·have C:=zBC Wd 127 3;have M:=ac.o _ O.o;refine zAq (.tmp 14) (.tmp 20) 116 (by rfl) 127 iF _ 3 48 underlying116 S V U X rfl (by decide) (.slice (some ⟨Wd.heap.size,0,none⟩) 0 0) 0 [] (by rfl) C (.slice pv i cv) i _ (by rfl) M (fun u Z=>H.o u (List.mem_of_mem_take Z)) (by unfold maxLen;omega) (by omega) ?_;clear C M;intro v6 w6 b l y;have R:=zh (O.o.grown l O.o.size (fun j e=>by have:=X0.o.size;simp[Value.ownBlock]at e;omega));have a:=zA5 (B:=w.heap.size) y (fun k hk=>by have:=X0.o.size;simp[Value.ownBlock]at hk;omega) O.o.size;rw[Nat.zero_add,List.nil_append]at b;obtain⟨p6,c6,rfl⟩:=OwnR.shape b;have G:=zh b;have p:=zh a;clear l y b a;refine d.o _ _ trivial fun _=>?_;clear d
     try simp only[uZ]
     refine oon 12 rfl fun K d=>?_;have E:=Q.o _ R.o;go_wp2_with fail;clear E;refine d.o _ _ trivial fun _=>?_;clear d
     try simp only[uZ]
     refine zBi 15 (v:=?v16x15) rfl (by kernel_rfl) (by kernel_rfl) (by kernel_rfl) (fun _ _ _ h=>h) (by rfl) trivial ?y16x15 ?_
     case y16x15=>(intro w I;clear I;go_simp;try with_reducible rfl)
     simp only[uZ];refine oon 16 rfl fun K d=>?_;have t:=T.o _ R.o;refine zAq (.tmp 21) (.tmp 28) 116 (by rfl) 127 iF _ 3 48 underlying116 S V U X rfl (by decide) (.slice p6 i c6) i _ (by rfl) G.o (.slice pF (N-(i+1)) (cv-(i+1))) (N-(i+1)) _ (by rfl) t (fun u Z=>H.o u (List.mem_of_mem_drop Z)) (by unfold maxLen;omega) (by omega) ?_;clear t
     intro v7 w7 c m z;have Y:=zh (R.o.grown m R.o.size p.o);have A:=zA5 (B:=w.heap.size) z p.o R.o.size;obtain⟨p7,c7,rfl⟩:=OwnR.shape c;have F:=zh (aa.o w7 _ Y.o c A);clear m z c A;refine d.o _ _ trivial fun _=>?_;clear d
     try simp only[uZ]
     refine Pl [17,18] ?_
     iterate 2 (refine Pc rfl ?_;simp only[uZ])
     refine Pn ?_;refine oon 19 rfl fun K d=>?_;have E:=Q.o _ Y.o;have J:=ab.o _ Y.o;go_wp2_with fail;clear E J;refine d.o _ _ trivial fun _=>?_;clear d
     try simp only[uZ]
     refine odn ?_;go_wp2_with fail
     go_end0
     exact F.o
    ·have E:=Q.o _ O.o;go_wp2_with fail;clear E;refine d.o _ _ trivial fun _=>?_;clear d
     try simp only[uZ]
     refine zBi 15 (v:=?v18x15) rfl (by kernel_rfl) (by kernel_rfl) (by kernel_rfl) (fun _ _ _ h=>h) (by rfl) trivial ?y18x15 ?_
     case y18x15=>(intro w I;clear I;go_simp;try with_reducible rfl)
     simp only[uZ];refine oon 8 rfl fun K d=>?_;have C:=zBC Wd 127 3;have M:=ac.o _ O.o;refine zAq (.tmp 14) (.tmp 20) 116 (by rfl) 127 iF _ 3 48 underlying116 S V U X rfl (by decide) (.slice (some ⟨Wd.heap.size,0,none⟩) 0 0) 0 [] (by rfl) C (.slice pv i cv) i _ (by rfl) M (fun u Z=>H.o u (List.mem_of_mem_take Z)) (by unfold maxLen;omega) (by omega) ?_;clear C M;intro v6 w6 b l y;have R:=zh (O.o.grown l O.o.size (fun j e=>by have:=X0.o.size;simp[Value.ownBlock]at e;omega));have a:=zA5 (B:=w.heap.size) y (fun k hk=>by have:=X0.o.size;simp[Value.ownBlock]at hk;omega) O.o.size;rw[Nat.zero_add,List.nil_append]at b;obtain⟨p6,c6,rfl⟩:=OwnR.shape b;have G:=zh b;have p:=zh a;clear l y b a;refine d.o _ _ trivial fun _=>?_;clear d
     try simp only[uZ]
     refine oon 16 rfl fun K d=>?_;have t:=T.o _ R.o;refine zAq (.tmp 21) (.tmp 28) 116 (by rfl) 127 iF _ 3 48 underlying116 S V U X rfl (by decide) (.slice p6 i c6) i _ (by rfl) G.o (.slice pF (N-(i+1)) (cv-(i+1))) (N-(i+1)) _ (by rfl) t (fun u Z=>H.o u (List.mem_of_mem_drop Z)) (by unfold maxLen;omega) (by omega) ?_;clear t
     intro v7 w7 c m z;have Y:=zh (R.o.grown m R.o.size p.o);have A:=zA5 (B:=w.heap.size) z p.o R.o.size;obtain⟨p7,c7,rfl⟩:=OwnR.shape c;have F:=zh (aa.o w7 _ Y.o c A);clear m z c A;refine d.o _ _ trivial fun _=>?_;clear d
     try simp only[uZ]
     refine Pl [17,18] ?_
     iterate 2 (refine Pc rfl ?_;simp only[uZ])
     refine Pn ?_;refine oon 19 rfl fun K d=>?_;have E:=Q.o _ Y.o;have J:=ab.o _ Y.o;go_wp2_with fail;clear E J;refine d.o _ _ trivial fun _=>?_;clear d
     try simp only[uZ]
     refine odn ?_;go_wp2_with fail
     go_end0
     exact F.o
   ·have E:=Q.o _ X0.o;go_wp2_with fail;clear E;refine d.o _ _ trivial fun _=>?_;clear d
    try simp only[uZ]
    refine zBi 15 (v:=?v21x15) rfl (by kernel_rfl) (by kernel_rfl) (by kernel_rfl) (fun _ _ _ h=>h) (by rfl) trivial ?y21x15 ?_
    case y21x15=>(intro w I;clear I;go_simp;try with_reducible rfl)
    simp only[uZ];refine oon 1 rfl fun K d=>?_;go_wp2_with fail;have O:=zh (X0.o.alloc X0.o.size (.cells #[] 127));refine d.o _ _ trivial fun _=>?_;clear d
    try simp only[uZ]
    refine oon 8 rfl fun K d=>?_;have C:=zBC Wd 127 3;have M:=ac.o _ O.o;refine zAq (.tmp 14) (.tmp 20) 116 (by rfl) 127 iF _ 3 48 underlying116 S V U X rfl (by decide) (.slice (some ⟨Wd.heap.size,0,none⟩) 0 0) 0 [] (by rfl) C (.slice pv i cv) i _ (by rfl) M (fun u Z=>H.o u (List.mem_of_mem_take Z)) (by unfold maxLen;omega) (by omega) ?_;clear C M;intro v6 w6 b l y;have R:=zh (O.o.grown l O.o.size (fun j e=>by have:=X0.o.size;simp[Value.ownBlock]at e;omega));have a:=zA5 (B:=w.heap.size) y (fun k hk=>by have:=X0.o.size;simp[Value.ownBlock]at hk;omega) O.o.size;rw[Nat.zero_add,List.nil_append]at b;obtain⟨p6,c6,rfl⟩:=OwnR.shape b;have G:=zh b;have p:=zh a;clear l y b a;refine d.o _ _ trivial fun _=>?_;clear d
    try simp only[uZ]
    refine oon 16 rfl fun K d=>?_;have t:=T.o _ R.o;refine zAq (.tmp 21) (.tmp 28) 116 (by rfl) 127 iF _ 3 48 underlying116 S V U X rfl (by decide) (.slice p6 i c6) i _ (by rfl) G.o (.slice pF (N-(i+1)) (cv-(i+1))) (N-(i+1)) _ (by rfl) t (fun u Z=>H.o u (List.mem_of_mem_drop Z)) (by unfold maxLen;omega) (by omega) ?_;clear t
    intro v7 w7 c m z;have Y:=zh (R.o.grown m R.o.size p.o);have A:=zA5 (B:=w.heap.size) z p.o R.o.size;obtain⟨p7,c7,rfl⟩:=OwnR.shape c;have F:=zh (aa.o w7 _ Y.o c A);clear m z c A;refine d.o _ _ trivial fun _=>?_;clear d
    try simp only[uZ]
    refine Pl [17,18] ?_
    iterate 2 (refine Pc rfl ?_;simp only[uZ])
    refine Pn ?_;refine oon 19 rfl fun K d=>?_;have E:=Q.o _ Y.o;have J:=ab.o _ Y.o;go_wp2_with fail;clear E J;refine d.o _ _ trivial fun _=>?_;clear d
    try simp only[uZ]
    refine odn ?_;go_wp2_with fail
    go_end0
    exact F.o
  ·have E:=Q.o _ X0.o;go_wp2_with fail;clear E;refine d.o _ _ trivial fun _=>?_;clear d
   try simp only[uZ]
   refine zBi 15 (v:=?v25x15) rfl (by kernel_rfl) (by kernel_rfl) (by kernel_rfl) (fun _ _ _ h=>h) (by rfl) trivial ?y25x15 ?_
   case y25x15=>(intro w I;clear I;go_simp;try with_reducible rfl)
   simp only[uZ];refine zDB 1 5 rfl rfl (by kernel_rfl) (by rfl) (by rfl) (fun K d=>?_) (fun K d=>?_)
   ·go_wp2_with fail;have O:=zh (X0.o.alloc X0.o.size (.cells #[] 127));refine d.o _ _ trivial fun _=>?_;clear d
    try simp only[uZ]
    refine oon 5 rfl fun K d=>?_;have E:=Q.o _ O.o;go_wp2_with fail;clear E;refine d.o _ _ trivial fun _=>?_;clear d
    try simp only[uZ]
    refine zBi 7 (v:=?v27x7) rfl (by kernel_rfl) (by kernel_rfl) (by kernel_rfl) (fun _ _ _ h=>h) (by rfl) trivial ?y27x7 ?_
    case y27x7=>(intro w I;clear I;go_simp;try with_reducible rfl)
    simp only[uZ];refine oon 8 rfl fun K d=>?_;have C:=zBC Wd 127 3;have M:=ac.o _ O.o;refine zAq (.tmp 14) (.tmp 20) 116 (by rfl) 127 iF _ 3 48 underlying116 S V U X rfl (by decide) (.slice (some ⟨Wd.heap.size,0,none⟩) 0 0) 0 [] (by rfl) C (.slice pv i cv) i _ (by rfl) M (fun u Z=>H.o u (List.mem_of_mem_take Z)) (by unfold maxLen;omega) (by omega) ?_;clear C M;intro v6 w6 b l y;have R:=zh (O.o.grown l O.o.size (fun j e=>by have:=X0.o.size;simp[Value.ownBlock]at e;omega));have a:=zA5 (B:=w.heap.size) y (fun k hk=>by have:=X0.o.size;simp[Value.ownBlock]at hk;omega) O.o.size;rw[Nat.zero_add,List.nil_append]at b;obtain⟨p6,c6,rfl⟩:=OwnR.shape b;have G:=zh b;have p:=zh a;clear l y b a;refine d.o _ _ trivial fun _=>?_;clear d
    try simp only[uZ]
    refine oon 16 rfl fun K d=>?_;have t:=T.o _ R.o;refine zAq (.tmp 21) (.tmp 28) 116 (by rfl) 127 iF _ 3 48 underlying116 S V U X rfl (by decide) (.slice p6 i c6) i _ (by rfl) G.o (.slice pF (N-(i+1)) (cv-(i+1))) (N-(i+1)) _ (by rfl) t (fun u Z=>H.o u (List.mem_of_mem_drop Z)) (by unfold maxLen;omega) (by omega) ?_;clear t
    intro v7 w7 c m z;have Y:=zh (R.o.grown m R.o.size p.o);have A:=zA5 (B:=w.heap.size) z p.o R.o.size;obtain⟨p7,c7,rfl⟩:=OwnR.shape c;have F:=zh (aa.o w7 _ Y.o c A);clear m z c A;refine d.o _ _ trivial fun _=>?_;clear d
    try simp only[uZ]
    refine Pl [17,18] ?_
    iterate 2 (refine Pc rfl ?_;simp only[uZ])
    refine Pn ?_;refine oon 19 rfl fun K d=>?_;have E:=Q.o _ Y.o;have J:=ab.o _ Y.o;go_wp2_with fail;clear E J;refine d.o _ _ trivial fun _=>?_;clear d
    try simp only[uZ]
    refine odn ?_;go_wp2_with fail
    go_end0
    exact F.o
   ·have E:=Q.o _ X0.o;go_wp2_with fail;clear E;refine d.o _ _ trivial fun _=>?_;clear d
    try simp only[uZ]
    refine zBi 7 (v:=?v30x7) rfl (by kernel_rfl) (by kernel_rfl) (by kernel_rfl) (fun _ _ _ h=>h) (by rfl) trivial ?y30x7 ?_
    case y30x7=>(intro w I;clear I;go_simp;try with_reducible rfl)
    simp only[uZ];refine oon 1 rfl fun K d=>?_;go_wp2_with fail;have O:=zh (X0.o.alloc X0.o.size (.cells #[] 127));refine d.o _ _ trivial fun _=>?_;clear d
    try simp only[uZ]
    refine oon 8 rfl fun K d=>?_;have C:=zBC Wd 127 3;have M:=ac.o _ O.o;refine zAq (.tmp 14) (.tmp 20) 116 (by rfl) 127 iF _ 3 48 underlying116 S V U X rfl (by decide) (.slice (some ⟨Wd.heap.size,0,none⟩) 0 0) 0 [] (by rfl) C (.slice pv i cv) i _ (by rfl) M (fun u Z=>H.o u (List.mem_of_mem_take Z)) (by unfold maxLen;omega) (by omega) ?_;clear C M;intro v6 w6 b l y;have R:=zh (O.o.grown l O.o.size (fun j e=>by have:=X0.o.size;simp[Value.ownBlock]at e;omega));have a:=zA5 (B:=w.heap.size) y (fun k hk=>by have:=X0.o.size;simp[Value.ownBlock]at hk;omega) O.o.size;rw[Nat.zero_add,List.nil_append]at b;obtain⟨p6,c6,rfl⟩:=OwnR.shape b;have G:=zh b;have p:=zh a;clear l y b a;refine d.o _ _ trivial fun _=>?_;clear d
    try simp only[uZ]
    refine oon 16 rfl fun K d=>?_;have t:=T.o _ R.o;refine zAq (.tmp 21) (.tmp 28) 116 (by rfl) 127 iF _ 3 48 underlying116 S V U X rfl (by decide) (.slice p6 i c6) i _ (by rfl) G.o (.slice pF (N-(i+1)) (cv-(i+1))) (N-(i+1)) _ (by rfl) t (fun u Z=>H.o u (List.mem_of_mem_drop Z)) (by unfold maxLen;omega) (by omega) ?_;clear t
    intro v7 w7 c m z;have Y:=zh (R.o.grown m R.o.size p.o);have A:=zA5 (B:=w.heap.size) z p.o R.o.size;obtain⟨p7,c7,rfl⟩:=OwnR.shape c;have F:=zh (aa.o w7 _ Y.o c A);clear m z c A;refine d.o _ _ trivial fun _=>?_;clear d
    try simp only[uZ]
    refine Pl [17,18] ?_
    iterate 2 (refine Pc rfl ?_;simp only[uZ])
    refine Pn ?_;refine oon 19 rfl fun K d=>?_;have E:=Q.o _ Y.o;have J:=ab.o _ Y.o;go_wp2_with fail;clear E J;refine d.o _ _ trivial fun _=>?_;clear d
    try simp only[uZ]
    refine odn ?_;go_wp2_with fail
    go_end0
    exact F.o
end
section
variable {w:World} {r:Nat} {v:Value} {L:List zAR} {own:Nat→Prop} {D:zAA}
theorem rrem_calls (h:zAf w r v L own D)(s:ByteArray)(Q:s.size≤9223372036854775807) :
  Calls prog 82 #[.pointer (some ⟨r,0,none⟩),.string s] w (zCn w r own (D.remove [nm s])):=by
 have p:zAf (w.alloc (.cells #[.string s] 9)) r v L own D:=h.below ((Below.refl _ _).alloc (Nat.le_refl _) _);have b:=zCY p (some ⟨w.heap.size,0,none⟩) [s] 1 (zBc w s) (by simp) (by simpa using Q);simp only[List.map_cons,List.map_nil]at b;have y:D.remove [nm s]=D.each1 zAA.gRemove (nm s):=each_one _ _ _;rw[y]
 by_cases j:D.may [nm s]=0
 ·have d:=zBu p s;rw[h.is]at d;rw[j]at b;cases l:Sat.get (nm s) D.files with
  | none =>
   rw[l]at d;have g:zAA.each1 zAA.gRemove D (nm s)=(D,7):=by unfold zAA.each1;rw[if_neg (by rw[j];simp),l]
   rw[g];have z:=zh (fun q=>zBY h (zAu w (.cells #[.string s] 9) q) 7);have c:=zh b;have i:=zh d;clear h p b d j g l y
   go_enter func82,ntmps82
   go_wp2_with fail;refine c.o.mono ?_;rintro e w2 ⟨rfl,rfl⟩;go_wp2_with fail;refine i.o.mono ?_;rintro e w3 ⟨rfl,q,rfl⟩;go_wp2_with fail;go_ret;exact z.o q
  | some f =>
   rw[l]at d;have g:zAA.each1 zAA.gRemove D (nm s)=(zAA.done {D with files:=del (nm s) D.files},0):=by unfold zAA.each1;rw[if_neg (by rw[j];simp),l];rfl
   rw[g];have a:=zh (fun q=>zEd (h.below (zAu w (.cells #[.string s] 9) q)) s);have B:=zFS j;have n:=zW (∀q e w',RGone ((w.alloc (.cells #[.string s] 9)).drewN q) r own {D with files:=del (nm s) D.files} e w'→Calls prog 72 #[.pointer (some ⟨r,0,none⟩)] w' (zCn w r own (zAA.done {D with files:=del (nm s) D.files},0))) (fun q e w' C=>by
    obtain⟨-,own',v',L',E,A,-,R⟩:=C;have H:=zAu w (.cells #[.string s] 9) q;refine(zCw E B).mono fun T w2 M=>?_;have t:Chg own w w':=zCd H (A.mono fun k _ e=>by rw[e];exact h.or);exact zDb t (fun k O=>(R k O).imp id fun N=>Nat.le_trans H.size N) t.size M)
   have c:=zh b;have i:=zh d;clear h p b d j g l y
   go_enter func82,ntmps82
   go_wp2_with fail;refine c.o.mono ?_;rintro e w2 ⟨rfl,rfl⟩;go_wp2_with fail;refine i.o.mono ?_;rintro e w3 ⟨rfl,q,rfl⟩;go_wp2_with fail;refine(a.o q).mono ?_;intro e S F;have J:=zh (n.o q e S F);obtain⟨rfl,-⟩:=F;go_wp2_with fail;refine J.o.mono ?_;intro e U G;have I:=zh G;obtain⟨rfl,-⟩:=G;go_wp2_with fail;go_ret;exact I.o
 ·have g:zAA.each1 zAA.gRemove D (nm s)=(D,D.may [nm s]):=by unfold zAA.each1;rw[if_pos j]
  rw[g];have z:=zh (zBY h ((Below.refl _ _).alloc (Nat.le_refl _) (.cells #[.string s] 9)) (D.may [nm s]));have c:=zh b;generalize D.may [nm s]=m at *;have P:((m:Int) != 0)=true:=by simp;omega
  clear h p b g y
  go_enter func82,ntmps82
  go_wp2_with fail;refine c.o.mono ?_;rintro e w2 ⟨rfl,rfl⟩;go_wp2_with fail;go_ret;exact z.o
end
theorem put_del_same {α:Type}{L:List (Bs×α)}(h:Srt L){n:Bs}{f:α}(b:Sat.get n L=some f):Sat.put n f (del n L)=L:=by
 refine srt_ext (zBr (zCU h)) h fun m=>?_
 by_cases e:m=n
 ·subst e;rw[zBQ (zCU h),b]
 ·rw[zBP (zCU h) f e,zCg h e]
section
variable {w:World} {r:Nat} {v:Value} {L:List zAR} {own:Nat→Prop} {D:zAA}
theorem rren_calls (h:zAf w r v L own D)(o s:ByteArray)(bT:o.size≤9223372036854775807)(bU:s.size≤9223372036854775807) :
  Calls prog 199 #[.pointer (some ⟨r,0,none⟩),.string o,.string s] w (zCn w r own (D.rename (nm o) (nm s))):=by
 have h1:zAf (w.alloc (.cells #[.string o,.string s] 9)) r v L own D:=h.below ((Below.refl _ _).alloc (Nat.le_refl _) _);have c:=zCY h1 (some ⟨w.heap.size,0,none⟩) [o,s] 2 (strs_two w o s) (by simp) (by simp;exact⟨bT,bU⟩);simp only[List.map_cons,List.map_nil]at c
 by_cases hm:D.may [nm o,nm s]=0
 ·have Q:=zBu h1 o;rw[h.is]at Q;rw[hm]at c;cases hg:Sat.get (nm o) D.files with
  | none =>
   rw[hg]at Q;have hR:D.rename (nm o) (nm s)=(D,7):=by unfold zAA.rename;rw[if_neg (by rw[hm];simp),hg]
   rw[hR];have Hf:=zh (fun q=>zBY h (zAu w (.cells #[.string o,.string s] 9) q) 7);have C:=zh c;have aw:=zh Q;clear h h1 c Q hm hR hg
   go_enter func199,ntmps199
   go_wp2_with fail;refine C.o.mono ?_;rintro e w2 ⟨rfl,rfl⟩;go_wp2_with fail;refine aw.o.mono ?_;rintro e w3 ⟨rfl,q,rfl⟩;go_wp2_with fail;go_ret;exact Hf.o q
  | some f =>
   rw[hg]at Q;have hR:D.rename (nm o) (nm s)=(zAA.done {D with files:=Sat.put (nm s) f (del (nm o) D.files) },0):=by unfold zAA.rename;rw[if_neg (by rw[hm];simp),hg]
   rw[hR];have bo:=zFS hm
   by_cases ar:nm o=nm s
   ·have hb:(o.toList==s.toList)=true:=by rw[ByteArray.toList_eq,ByteArray.toList_eq];exact beq_iff_eq.2 ar
    have hD:({D with files:=Sat.put (nm s) f (del (nm o) D.files) }:zAA)=D:=by rw[←ar,put_del_same h.ok.srt hg]
    rw[hD];have au:=zh (fun q=>(zCw (h.below (zAu w (.cells #[.string o,.string s] 9) q)) bo).mono fun e2 w2 h2 =>
     zDb (own:=own) (w:=w) ((Chg.of_below (zAu w (.cells #[.string o,.string s] 9) q)).mono fun _ _ h=>h.elim) (fun _ h=>.inl h) (zAu w (.cells #[.string o,.string s] 9) q).size h2)
    have C:=zh c;have aw:=zh Q;clear h h1 c Q hm hR hg hD ar
    go_enter func199,ntmps199
    go_wp2_with fail;refine C.o.mono ?_;rintro e w2 ⟨rfl,rfl⟩;go_wp2_with fail;refine aw.o.mono ?_;rintro e w3 ⟨rfl,q,rfl⟩;go_wp2_with fail;refine(au.o q).mono ?_;intro e w5 h5;have HE:=zh h5;obtain⟨rfl,-⟩:=h5;go_wp2_with fail;go_ret;exact HE.o
   ·have hb:(o.toList==s.toList)=false:=by
     rw[ByteArray.toList_eq,ByteArray.toList_eq,beq_eq_false_iff_ne];exact ar
    obtain⟨x,hx,cg,rfl⟩:=h.hit hg;have hN:zA3 (nm o) (L.map zAR.n)<L.length:=(List.getElem?_eq_some_iff.1 hx).1;rcases h.at with h0|⟨g,c0,ap,bR,-⟩
    ·rw[h0]at hN;simp at hN
    have bQ:v.ownBlock=some g:=by rw[ap];rfl
    generalize zA3 (nm o) (L.map zAR.n)=i at *;have ah:=zW (∀W,Below w.heap.size w W→W.cell? ⟨r,1,none⟩=some (.slice (some ⟨g,0,none⟩) L.length c0)∧W.cell? ⟨g,i*3,none⟩=some (.string ⟨x.n.toArray⟩)∧W.cell? ⟨g,i*3+1,none⟩=some x.b∧W.cell? ⟨g,i*3+2,none⟩=some (.int .i64 (x.f.lasts:Int))) (fun W hb=>by
     have hW:=h.below hb;have hc:=hW.core.at bQ hx;exact⟨hW.c1.trans (by rw[ap]),hc.1,hc.2.1,hc.2.2⟩)
    obtain⟨U,R,ex,-⟩:=zEA (h.data x (List.mem_of_getElem? hx));rw[ex]at ah;have H:=zh h;have bE:=zh (ok_rename h.ok hg (show okN (nm s)=true from List.all_eq_true.1 (zDj hm).2 (nm s) (by simp)));have C:=zh c;have aw:=zh Q;clear h h1 c Q hm hR hg bR;subst ap
    go_enter func199,ntmps199
    go_wp2_with fail;refine C.o.mono ?_;rintro e w2 ⟨rfl,rfl⟩;go_wp2_with fail;refine aw.o.mono ?_;rintro e w3 ⟨rfl,q,rfl⟩;have aG:=zh (zAu w (.cells #[.string o,.string s] 9) q);obtain⟨bJ,bK,bL,bM⟩:=ah.o _ aG.o;generalize (w.alloc (.cells #[.string o,.string s] 9)).drewN q=W at *;have Hx:=zh hx;generalize br:x.f.data.length=S at *;generalize bq:x.f.lasts=la at *;have cc:=zh br;have bD:=zh bq;have bX:=zh ar;have bz:=zh ex;clear ar hx br bq ex;go_wp2_with fail;have XF:=zh (aG.o.alloc aG.o.size (.cells #[.string s,.slice U S R,.int .i64 (la:Int)] 127));have aR:(W.alloc (.cells #[.string s,.slice U S R,.int .i64 (la:Int)] 127)).heap[W.heap.size]?=some (.cells #[.string s,.slice U S R,.int .i64 (la:Int)] 127 (0,0)):=zAJ W _;have aU:W.heap.size≠r:=fun e=>by have h1:=H.o.olt r H.o.or;have h2:=aG.o.size;omega
    have aT:W.heap.size<(W.alloc (.cells #[.string s,.slice U S R,.int .i64 (la:Int)] 127)).heap.size:=by simp
    have V:=zh (And.intro aR (And.intro aU aT));clear aR aU aT;generalize W.heap.size=fb at *;have ab:=H.o.below XF.o;generalize W.alloc (.cells #[.string s,.slice U S R,.int .i64 (la:Int)] 127)=Wf at *;have bf:=zh (zEd ab o);clear ab bJ bK bL bM;refine bf.o.mono ?_;rintro e w4 ⟨rfl,cb,v4,L4,aV,aN,aE,bt⟩;have X:=zh (And.intro aN (And.intro aE bt));have bg:=zh (zEd aV s);clear aV aN aE bt;go_wp2_with fail;refine bg.o.mono ?_;rintro e w5 ⟨rfl,J,v5,d,G,aO,aF,bu⟩;have G:zAf w5 r v5 d J {D with files:=del (nm s) (del (nm o) D.files) }:=G;have aD:=zBu G s;have bc:Sat.get (nm s) (del (nm s) (del (nm o) D.files))=none:=zCX _ _;rw[G.is,show Sat.get (nm s) ({D with files:=del (nm s) (del (nm o) D.files) }:zAA).files=none from bc]at aD;have z:=zh G;have av:=zh (And.intro aO (And.intro aF bu));have bh:=zh aD;have bC:=zh bc;clear G aO aF bu aD bc;go_wp2_with fail;refine bh.o.mono ?_;rintro e w6 ⟨rfl,q6,rfl⟩;have aA:=ins_at (nm s) x.f z.o.ok.srt bC.o;have bd:zA3 (nm s) (d.map zAR.n)≤d.length:=by have:=spotN_le (nm s) (d.map zAR.n);rwa[List.length_map]at this
    rw[←z.o.names,z.o.files]at aA;generalize zA3 (nm s) (d.map zAR.n)=j at *;have bb:Below w5.heap.size w5 (w5.drewN q6):=⟨rfl,rfl,rfl,Nat.le_refl _,fun _ _=>rfl⟩;have A:=zh (z.o.below bb);obtain⟨pv,cv,ap⟩:=z.o.slice;have bI:d.length≤cv:=by
     rcases z.o.at with h0|⟨g,c0,e,hc,-⟩
     ·rw[h0];exact Nat.zero_le _
     ·rw[ap]at e;cases e;exact hc
    have bZ:=z.o.fit
    -- the new file's block and its row are as they were
    have bn:(w5.drewN q6).heap[fb]?=some (.cells #[.string s,.slice U S R,.int .i64 (la:Int)] 127 (0,0)):=by
     have h4:=X.o.1.block fb V.o.2.2 V.o.2.1;have h5:=av.o.1.block fb (Nat.lt_of_lt_of_le V.o.2.2 X.o.1.size) V.o.2.1;exact h5.trans (h4.trans V.o.1)
    have aW:zAk (w5.drewN q6) 5 (.slice U S R) x.f.data∧∀k,(Value.slice U S R).ownBlock=some k→J k∧k≠r:=by
     have bv:=List.mem_of_getElem? Hx.o;have ab:=H.o.below XF.o;have aq:=H.o.ob x bv;have bm:=ab.data x bv;rw[bz.o]at aq bm;refine⟨OwnR.keep bm fun k I=>?_,fun k I=>⟨av.o.2.1 k (X.o.2.1 k (aq k I).1),(aq k I).2.1⟩⟩;have bp:=ab.olt k (aq k I).1;have h4:=X.o.1.block k bp (aq k I).2.1;have h5:=av.o.1.block k (Nat.lt_of_lt_of_le bp X.o.1.size) (aq k I).2.1;exact h5.trans h4
    have aP:Chg (fun k=>k=r) w (w5.drewN q6):=by
     have h4:=zCd (own:=fun k=>k=r) XF.o X.o.1;have h5:=h4.trans av.o.1 fun _ _ h=>h;exact h5.trans ((Chg.of_below bb).mono (T:=fun _=>False) fun _ _ h=>h) fun _ _ h=>h.elim
    have bw:∀k,J k→own k∨w.heap.size≤k:=fun k I=>by
     rcases av.o.2.2 k I with h|h
     ·rcases X.o.2.2 k h with h|h
      ·exact .inl h
      ·exact .inr (Nat.le_trans XF.o.size h)
     ·exact .inr (Nat.le_trans (Nat.le_trans XF.o.size X.o.1.size) h)
    have Hq:=zh (And.intro bn (And.intro aW (And.intro aP bw)));have be:=zh aA;clear bn aW aP bw aA bb;generalize w5.drewN q6=F at *;subst ap;have az:fb<F.heap.size:=zAB Hq.o.1;have bA:=zW (∀E,Below F.heap.size F E→E.cell? ⟨fb,0,none⟩=some (.string s)∧E.cell? ⟨fb,1,none⟩=some (.slice U S R)∧E.cell? ⟨fb,2,none⟩=some (.int .i64 (la:Int))) (fun E hb =>
     ⟨(hb.cell (p:=⟨fb,0,none⟩) az).trans (zAG Hq.o.1 rfl),(hb.cell (p:=⟨fb,1,none⟩) az).trans (zAG Hq.o.1 rfl),(hb.cell (p:=⟨fb,2,none⟩) az).trans (zAG Hq.o.1 rfl)⟩)
    have aX:=zW (∀E,Below F.heap.size F E→E.cell? ⟨r,1,none⟩=some (.slice pv d.length cv)) fun E hb=>(A.o.below hb).c1;have bB:=zW (∀E,Below F.heap.size F E→E.frozen? ⟨r,1,none⟩=false) fun E hb=>zAE (A.o.below hb).cells 1;have aL:=zW (∀E,Below F.heap.size F E→OwnR E 127 3 (.slice pv d.length cv) d.length (d.flatMap zAR.cells)) fun E hb=>(A.o.below hb).row;have aK:=zh (cells_one A.o.core.one);obtain⟨iF,ax,aZ,aH,ba⟩:=info_parts (show(prog.info? 127).map (fun i=>(i.zero,i.size,i.bytes))=some (some (.agg #[.string ⟨#[]⟩,.slice none 0 0,.int .i64 0]),3,48) by kernel_rfl);have ce:∀W,(Instr.slice 116 (.slice pv d.length cv) none (some (.int .i64 (j:Int))) none).run prog W=.ok (.slice pv j cv) W:=fun W=>zCO W underlying116 ax pv _ cv j (by omega);have cf:∀W,(Instr.slice 116 (.slice pv d.length cv) (some (.int .i64 (j:Int))) none none).run prog W=.ok (.slice (if cv-j=0 then pv else pv.map fun x=>x.add (j*3)) (d.length-j) (cv-j)) W:=fun W=>by
     have:=zE8 (P:=prog) W underlying116 ax pv d.length cv j bd bI;rw[aH]at this;exact this
    have aY:=zW (∀E,Below F.heap.size F E→zAM E 3 (.slice (if cv-j=0 then pv else pv.map fun x=>x.add (j*3)) (d.length-j) (cv-j)) (d.length-j) ((d.flatMap zAR.cells).drop (j*3))) fun E hb=>OwnR.cut_from (aL.o E hb) bd;generalize bS:(if cv-j=0 then pv else pv.map fun x=>x.add (j*3))=pF at *;have X1:=zh ((Below.refl F.heap.size F).alloc (Nat.le_refl _) (.cells #[] 127));have bk:=aX.o _ X1.o;have bF:=zW (zAM (F.alloc (.cells #[] 127)) 3 (.slice pv j cv) j ((d.flatMap zAR.cells).take (j*3))) (zAM.upto (OwnR.holds (aL.o _ X1.o)) bd cv);clear bS;generalize bj:d.length=N at *;have HN:=zh bj;clear bj;go_wp2_with (first|(at_builtin;refine zAP (F.alloc (.cells #[] 127)) rfl (.tmp 56) (.tmp 62) 116 rfl 127 iF _ 3 48 underlying116 ax aZ aH ba rfl (by decide) (.slice (some ⟨F.heap.size,0,none⟩) 0 0) 0 [] rfl (zBC F _ 3) (.slice pv j cv) j _ rfl bF.o (fun u hu=>aK.o u (List.mem_of_mem_take hu)) (by unfold maxLen;omega) (by omega) ?_;intro ch aJ t Z ak;rw[Nat.zero_add,List.nil_append]at t;have hX:=X1.o.grown Z X1.o.size (fun j e=>by simp[Value.ownBlock]at e;omega);have l:=zA5 (B:=F.heap.size) ak (fun k I=>by simp[Value.ownBlock]at I;omega) X1.o.size;obtain⟨bV,bG,rfl⟩:=OwnR.shape t;have ac:=zh (And.intro hX (And.intro t l));obtain⟨bN,bO,bP⟩:=bA.o _ ac.o.1;clear t Z ak hX l bk)|(at_builtin;refine zAP (aJ.alloc (.cells #[.string s,.slice U S R,.int .i64 (la:Int)] 127)) rfl (.tmp 64) (.tmp 66) 116 rfl 127 iF _ 3 48 underlying116 ax aZ aH ba rfl (by decide) (.slice bV j bG) j _ rfl (OwnR.keep ac.o.2.1 fun j hj=>zF0 aJ _ (OwnR.lt ac.o.2.1 hj)) (.slice (some ⟨aJ.heap.size,0,none⟩) 1 1) 1 [.string s,.slice U S R,.int .i64 (la:Int)] rfl (zGF aJ #[.string s,.slice U S R,.int .i64 (la:Int)] _ 3 1 1 rfl rfl _ _) (fun u hu=>by simp at hu;rcases hu with rfl|rfl|rfl<;>rfl) (by unfold maxLen;omega) (by omega) ?_;intro ci bx M K al;have aI:=ac.o.1.alloc ac.o.1.size (.cells #[.string s,.slice U S R,.int .i64 (la:Int)] 127);have hX:=aI.grown K aI.size (fun j hj=>ac.o.2.2 j hj);have l:=zA5 (B:=F.heap.size) al ac.o.2.2 aI.size;obtain⟨bW,bH,rfl⟩:=OwnR.shape M;have Y:=zh (And.intro hX (And.intro M l));have bl:=aX.o _ Y.o.1;clear M K al hX l aI bN bO bP)|(at_builtin;refine zAP bx rfl (.tmp 69) (.tmp 75) 116 rfl 127 iF _ 3 48 underlying116 ax aZ aH ba rfl (by decide) (.slice bW (j+1) bH) (j+1) _ rfl Y.o.2.1 (.slice pF (N-j) (cv-j)) (N-j) _ rfl (aY.o bx Y.o.1) (fun u hu=>aK.o u (List.mem_of_mem_drop hu)) (by unfold maxLen;omega) (by omega) ?_;intro cj ag O aa am;have hX:=Y.o.1.grown aa Y.o.1.size (fun j hj=>Y.o.2.2 j hj);have l:=zA5 (B:=F.heap.size) am Y.o.2.2 Y.o.1.size;obtain⟨af,ad,rfl⟩:=OwnR.shape O;have ao:=zh (And.intro hX (And.intro O l));have bY:=aX.o _ ao.o.1;have ca:=bB.o _ ao.o.1;clear O aa am hX l bl))
    have an:=ao.o.1;have ai:zAy ag r (.slice pv N cv) d J D.room D.fuse:=(A.o.below an).core;have es:Value.string s=encStr (nm s):=by rw[enc_str];simp[nm]
    have aB:(d.take j++(⟨nm s,.slice U S R,x.f⟩:zAR)::d.drop j).length=j+1+(N-j):=by
     rw[List.length_append,List.length_take,List.length_cons,List.length_drop,HN.o];omega
    have aC:OwnR ag 127 3 (.slice af (j+1+(N-j)) ad) (d.take j++(⟨nm s,.slice U S R,x.f⟩:zAR)::d.drop j).length ((d.take j++(⟨nm s,.slice U S R,x.f⟩:zAR)::d.drop j).flatMap zAR.cells):=by
     rw[aB,List.flatMap_append,List.flatMap_cons,cells_take,cells_drop,←List.append_assoc]
     show OwnR ag _ 3 _ _ (((d.flatMap zAR.cells).take (j*3)++[encStr (nm s),.slice U S R,.int .i64 (x.f.lasts:Int)])++_)
     rw[←es,bD.o];exact ao.o.2.1
    have aj:∀k,(Value.slice af (j+1+(N-j)) ad).ownBlock=some k→¬J k:=fun k I ho=>by
     have h1:=ao.o.2.2 k I;have h2:=A.o.olt k ho;omega
    have ay:=ai.relist aC (fun y hy=>by
     rcases List.mem_append.1 hy with hy|hy
     ·exact .inl (List.mem_of_mem_take hy)
     ·rcases List.mem_cons.1 hy with rfl|hy
      ·exact .inr ⟨OwnR.keep Hq.o.2.1.1 fun k I=>an.block k (OwnR.lt Hq.o.2.1.1 I),Hq.o.2.1.2⟩
      ·exact .inl (List.mem_of_mem_drop hy)) aj
    have hF:Sat.put (nm s) x.f (del (nm o) D.files)=(d.take j++(⟨nm s,.slice U S R,x.f⟩:zAR)::d.drop j).map zAR.key:=by
     have e1:Sat.put (nm s) x.f (del (nm o) D.files)=ins (nm s,x.f) (del (nm s) (del (nm o) D.files)):=rfl;have e2:del (nm s) (del (nm o) D.files)=d.map zAR.key:=A.o.files;rw[e1,e2,be.o,List.map_append,List.map_cons,List.map_take,List.map_drop];rfl
    have aS:zAf (ag.setCell ⟨r,1,none⟩ (.slice af (j+1+(N-j)) ad)) r (.slice af (j+1+(N-j)) ad) _ _ {D with files:=Sat.put (nm s) x.f (del (nm o) D.files) }:=ay.full rfl rfl hF bE.o;have aM:Chg (fun k=>k=r) w (ag.setCell ⟨r,1,none⟩ (.slice af (j+1+(N-j)) ad)) :=
     (Hq.o.2.2.1.trans ((Chg.of_below an).mono (T:=fun _=>False) fun _ _ h=>h) fun _ _ h=>h.elim).trans (zEK (own:=fun k=>k=r) (w:=ag) (a:=⟨r,1,none⟩) rfl) fun _ _ h=>h
    have ae:Chg own w (ag.setCell ⟨r,1,none⟩ (.slice af (j+1+(N-j)) ad)):=aM.mono fun k _ e=>by rw[e];exact H.o.or
    have bs:=Hq.o.2.2.1.size;have aQ:∀k,(J k∨(Value.slice af (j+1+(N-j)) ad).ownBlock=some k)→own k∨w.heap.size≤k:=fun k I=>by
     rcases I with I|I
     ·exact Hq.o.2.2.2 k I
     ·exact .inr (Nat.le_trans bs (ao.o.2.2 k I))
    have au:=zh ((zCw aS bo).mono fun e2 w2 h2=>zDb ae aQ ae.size h2);clear an ai es aB aC aj ay hF aS aM ae bs aQ;refine au.o.mono ?_;intro e ck bi;have HE:=zh bi;obtain⟨rfl,-⟩:=bi;go_wp2_with fail;go_ret;exact HE.o
 ·have hR:D.rename (nm o) (nm s)=(D,D.may [nm o,nm s]):=by unfold zAA.rename;rw[if_pos hm]
  rw[hR];have Hf:=zh (zBY h ((Below.refl _ _).alloc (Nat.le_refl _) (.cells #[.string o,.string s] 9)) (D.may [nm o,nm s]));have C:=zh c;generalize D.may [nm o,nm s]=m at *;have cd:((m:Int) != 0)=true:=by simp;omega
  clear h h1 c hR
  go_enter func199,ntmps199
  go_wp2_with fail;refine C.o.mono ?_;rintro e w2 ⟨rfl,rfl⟩;go_wp2_with fail;go_ret;exact Hf.o
end
section
variable {w:World} {r:Nat} {v:Value} {L:List zAR} {own:Nat→Prop} {D:zAA}
theorem zAy.left {room:Nat}{b:Option Nat}(h:zAy w r v L own room b)(f:Option Nat):zAy (w.setCell ⟨r,2,none⟩ (.int .i64 (leftOf f))) r v L own room f where
 cells:=zAD h.cells 2 _
 row:=h.row.keep fun k c=>set_other _ (h.ov k c).2
 data:=fun x d=>OwnR.keep (h.data x d) fun k c=>set_other _ (h.ob x d k c).2.1
 or:=h.or
 ov:=h.ov
 ob:=h.ob
 olt:=fun k c=>by
  have:=h.olt k c;simpa[World.setCell]using this
end
section
variable {w:World} {r:Nat} {v:Value} {L:List zAR} {own:Nat→Prop} {D:zAA}
structure RCopy (w W:World)(r2:Nat)(v2:Value)(L:List zAR)(D:zAA)(k:Nat)(M:List zAR)(own2:Nat→Prop):Prop where
 core:zAy W r2 v2 M own2 D.room none
 keys:M.map zAR.key=(L.take k).map zAR.key
 new:∀j,own2 j→w.heap.size≤j
 bel:Below w.heap.size w W
theorem RCopy.len {W:World}{c:Nat}{v2:Value}{k:Nat}{M:List zAR}{own2:Nat→Prop}(h:RCopy w W c v2 L D k M own2)(b:k≤L.length):M.length=k:=by
 have:=congrArg List.length h.keys;rw[List.length_map,List.length_map,List.length_take,Nat.min_eq_left b]at this;exact this
end
def Pair (w w1:World)(d:Nat)(D:zAA)(r:Nat)(R:zAA):Prop:=∃own v L,St w w1 d D own∧zAf w1 r v L own R∧∀k,own k→w.heap.size≤k
section
variable {w w1:World} {d:Nat} {D:zAA} {r:Nat} {R:zAA}
theorem Pair.bel (h:Pair w w1 d D r R):Below w.heap.size w w1:=let ⟨_,_,_,hS,_,_⟩:=h;hS.below
theorem Pair.okD (h:Pair w w1 d D r R):D.OK:=let ⟨_,_,_,hS,_,_⟩:=h;hS.ok
theorem Pair.next (h:Pair w w1 d D r R){w2:World}(b:Below w1.heap.size w1 w2):Pair w w2 d D r R:=by
 obtain⟨own,v,L,hS,c,hn⟩:=h;exact⟨own,v,L,hS.next b,c.below b,hn⟩
theorem Pair.alloc (h:Pair w w1 d D r R)(o:Obj):Pair w (w1.alloc o) d D r R:=h.next ((Below.refl _ _).alloc (Nat.le_refl _) o)
theorem Pair.drewN (h:Pair w w1 d D r R)(n:Nat):Pair w (w1.drewN n) d D r R:=h.next ⟨rfl,rfl,rfl,Nat.le_refl _,fun _ _=>rfl⟩
theorem zAf.same {w2:World}{own:Nat→Prop}{v:Value}{L:List zAR}(h:zAf w1 r v L own R)(hS:St w w2 d D own)(c:Same own w1 w2):zAf w2 r v L own R where
 cells:=(c r h.or).trans h.cells
 row:=h.row.keep fun k b=>c k (h.ov k b).1
 files:=h.files
 data:=fun x f=>OwnR.keep (h.data x f) fun k b=>c k (h.ob x f k b).1
 or:=h.or
 ov:=h.ov
 ob:=h.ob
 olt:=fun _ b=>hS.flt b
 ok:=h.ok
end
section
variable {w:World} {r:Nat} {v:Value} {L:List zAR} {own:Nat→Prop} {D:zAA}
theorem rhas_calls (h:zAf w r v L own D)(s:ByteArray) :
  Calls prog 198 #[.pointer (some ⟨r,0,none⟩),.string s] w fun e w'=>e=.returned (.bool (Sat.get (nm s) D.files).isSome)∧Below w.heap.size w w':=by
 have H:=zh (zCy h s);clear h;cases d:Sat.get (nm s) D.files with
 | none =>
  rw[d]at H
  go_enter func198,ntmps198
  go_wp2_with fail;refine H.o.mono ?_;rintro e w' ⟨v,rfl,-,-,b⟩;have c:=zh b;clear b;go_wp2_with fail;go_ret;exact⟨rfl,c.o⟩
 | some f =>
  rw[d]at H
  go_enter func198,ntmps198
  go_wp2_with fail;refine H.o.mono ?_;rintro e w' ⟨v,rfl,-,-,b⟩;have c:=zh b;clear b;go_wp2_with fail;go_ret;exact⟨rfl,c.o⟩
def RGotL (w:World)(o:Option zAS)(e:Ending)(w':World):Prop :=
 ∃v,e=.returned (.tuple #[v,.int .i64 (loadE o:Int)])∧zAk w' 5 v (zEX o)∧(∀k,v.ownBlock=some k→w.heap.size≤k)∧Below w.heap.size w w'
theorem rload_calls (h:zAf w r v L own D)(s:ByteArray) :
  Calls prog 83 #[.pointer (some ⟨r,0,none⟩),.string s] w (RGotL w (Sat.get (nm s) D.files)):=by
 have i:=zFI h.ok (nm s);have H:=zh (zCy h s);clear h;cases A:Sat.get (nm s) D.files with
 | none =>
  rw[A]at H;clear i
  go_enter func83,ntmps83
  go_wp2_with fail;refine H.o.mono ?_;rintro e w2 ⟨v,rfl,-,-,m⟩;have l:=zW (RGotL w none (.returned (.tuple #[.slice none 0 0,.int .i64 7])) w2) (⟨.slice none 0 0,by rw[zD7];rfl,by rw[loadB_none];exact OwnR.nil _ _ _,fun k n=>(by cases n),m⟩);clear m;go_wp2_with fail
  go_ret2
  exact l.o
 | some f =>
  rw[A]at H i
  go_enter func83,ntmps83
  go_wp2_with fail;refine H.o.mono ?_;rintro e w2 ⟨v,rfl,j,-,m⟩;obtain⟨p,c,rfl,q⟩:=zEA j;have B:=zh (rone_calls j.has q (by omega));have y:=zh m;have a:=loadE_some f;have z:=zFR f;generalize zDC (some f)=b at *;generalize F:b.length=N at *;clear j m q i;go_wp2_with fail;refine B.o.mono ?_;rintro e w3 ⟨v,rfl,j,hn,g⟩;have d:=y.o.trans (g.mono y.o.size)
  by_cases t:oneE b=0
  ·have l:=zW (RGotL w (some f) (.returned (.tuple #[v,.int .i64 0])) w3) (⟨v,by rw[a,if_pos t];rfl,by rw[z];exact j,fun k n=>Nat.le_trans y.o.size (hn k n),d⟩);rw[t];clear j hn g d;go_wp2_with fail
   go_ret2
   exact l.o
  ·have l:=zW (RGotL w (some f) (.returned (.tuple #[.slice none 0 0,.int .i64 3])) w3) (⟨.slice none 0 0,by rw[a,if_neg t];rfl,by rw[z];unfold oneB;rw[if_neg t];exact OwnR.nil _ _ _,fun k n=>(by cases n),d⟩);have C:((oneE b:Int) != 0)=true:=by simp;omega
   generalize oneE b=E at *;clear j hn g d;go_wp2_with fail
   go_ret2
   exact l.o
end
def RSt (w0 w1:World)(r:Nat)(own0:Nat→Prop)(D:zAA)(F:Nat→Prop):Prop :=
 ∃own v L,zAf w1 r v L own D∧Chg own0 w0 w1∧(∀k,own k→(own0 k∨w0.heap.size≤k)∧¬F k)∧∀k,F k→k<w1.heap.size
section
variable {w w0 w1 w2:World} {r:Nat} {v:Value} {L:List zAR} {own own0:Nat→Prop} {D:zAA} {F:Nat→Prop}
theorem RSt.start (h:zAf w r v L own D)(c:Below w.heap.size w w1)(hF:∀k,F k→¬own k∧k<w1.heap.size):RSt w w1 r own D F :=
 ⟨own,v,L,h.below c,(Chg.of_below c).mono fun _ _ h=>h.elim,fun k b=>⟨.inl b,fun d=>(hF k d).1 b⟩,fun k b=>(hF k b).2⟩
theorem RSt.ok (h:RSt w0 w1 r own0 D F):D.OK:=let ⟨_,_,_,hR,_⟩:=h;hR.ok
theorem RSt.flt (h:RSt w0 w1 r own0 D F){k:Nat}(b:F k):k<w1.heap.size:=let ⟨_,_,_,_,_,_,hF⟩:=h;hF k b
theorem RSt.next (h:RSt w0 w1 r own0 D F)(b:Below w1.heap.size w1 w2):RSt w0 w2 r own0 D F:=by
 obtain⟨own,v,L,c,d,g,hF⟩:=h;exact⟨own,v,L,c.below b,d.trans (Chg.of_below b) fun _ _ h=>h.elim,g,fun k f=>Nat.lt_of_lt_of_le (hF k f) b.size⟩
theorem RSt.same (h:RSt w0 w1 r own0 D F)(b:Below w1.heap.size w1 w2):Same F w1 w2:=fun _ c=>b.block _ (h.flt c)
theorem RSt.apart {F':Nat→Prop}(h:RSt w0 w1 r own0 D F)(d:Below w1.heap.size w1 w2)(b:∀k,F' k→F k∨(w1.heap.size≤k∧k<w2.heap.size)):RSt w0 w2 r own0 D F':=by
 obtain⟨own,v,L,f,i,g,hF⟩:=h;refine⟨own,v,L,f.below d,i.trans (Chg.of_below d) fun _ _ h=>h.elim,fun k c=>⟨(g k c).1,fun j=>?_⟩,fun k c=>?_⟩
 ·rcases b k j with h|h
  ·exact(g k c).2 h
  ·have:=f.olt k c;omega
 ·rcases b k c with h|h
  ·exact Nat.lt_of_lt_of_le (hF k h) d.size
  ·exact h.2
theorem zEf {P:Program}{f:FuncId}{args:Array Value}{Re:zAA×Nat}(h:RSt w0 w1 r own0 D F)(p:∀own v L,zAf w1 r v L own D→(∀k,own k→¬F k)→Calls P f args w1 (zCn w1 r own Re)) :
  Calls P f args w1 fun e w'=>e=.returned (.int .i64 (Re.2:Int))∧RSt w0 w' r own0 Re.1 F∧Same F w1 w':=by
 obtain⟨own,v,L,m,l,b,hF⟩:=h;refine(p own v L m fun k c=>(b k c).2).mono ?_;rintro e w' ⟨rfl,own',⟨v',L',g⟩,d,n⟩;refine⟨rfl,⟨own',v',L',g,l.trans d fun i q j=>?_,fun k c=>?_,fun k c=>Nat.lt_of_lt_of_le (hF k c) d.size⟩,fun k c=>d.block k (hF k c) fun j=>(b k j).2 c⟩
 ·rcases(b i j).1 with h|h
  ·exact h
  ·omega
 ·rcases n k c with h|h
  ·exact b k h
  ·exact⟨.inr (Nat.le_trans l.size h),fun o=>by have:=hF k o;omega⟩
theorem RSt.stop (h:RSt w0 w1 r own0 D F)(k:Nat):zCn w0 r own0 (D,k) (.returned (.int .i64 (k:Int))) w1:=by
 obtain⟨own,v,L,b,c,f,-⟩:=h;exact⟨rfl,own,⟨v,L,b⟩,c,fun k d=>(f k d).1⟩
theorem rst_has (h:RSt w0 w1 r own0 D F)(s:ByteArray) :
  Calls prog 198 #[.pointer (some ⟨r,0,none⟩),.string s] w1 fun e w'=>e=.returned (.bool (Sat.get (nm s) D.files).isSome)∧RSt w0 w' r own0 D F∧Same F w1 w':=by
 have b:=h;obtain⟨own,v,L,d,-⟩:=h;exact(rhas_calls d s).mono fun e w' ⟨f,c⟩=>⟨f,b.next c,b.same c⟩
theorem rstep_below {w':World}{R:zAA×Nat}{e:Ending}{b:World}(c:Below w.heap.size w w')(h:zCn w' r own R e b):zCn w r own R e b:=by
 obtain⟨g,own',d,f,j⟩:=h;exact⟨g,own',d,zCd c f,fun k i=>(j k i).imp id fun h=>Nat.le_trans c.size h⟩
end
structure zFx (w:World)(j r:Nat)(pre:ByteArray)(O C:Nat→Prop)(M:zAH)(gv dv ev:Value)(vs:List EV):Prop where
 cells:w.heap[j]?=some (RJC r (M.number:Int) M.term gv pre M.now M.vote dv ev M.dead)
 group:zBg w gv M.group
 data:zAY w dv M.data
 row:OwnR w 50 4 ev M.entries.length (zAz M.entries vs)
 rlen:vs.length=M.entries.length
 rows:∀(i:Nat) e v,M.entries[i]?=some e→vs[i]?=some v→zBS w e v
 oj:O j
 oe:∀k,ev.ownBlock=some k→O k∧k≠j
 cg:∀k,gv.ownBlock=some k→C k
 cd:∀k,dv.ownBlock=some k→C k
 cv:∀u∈vs,∀k,(u.1.ownBlock=some k∨u.2.ownBlock=some k)→C k
 dis:∀k,C k→¬O k
 olt:∀k,O k→k<w.heap.size
 clt:∀k,C k→k<w.heap.size
 psz:1≤pre.size∧pre.size≤20
 ok:M.OK
section
variable {w w':World} {j r:Nat} {pre:ByteArray} {O C:Nat→Prop} {M:zAH} {gv dv ev:Value} {vs:List EV}
theorem zBS.keep {e:Ent}{v:EV}(h:zBS w e v)(c:∀k,(v.1.ownBlock=some k∨v.2.ownBlock=some k)→w'.heap[k]?=w.heap[k]?):zBS w' e v :=
 ⟨zAM.keep h.data fun k b=>c k (.inl b),zAM.keep h.nodes fun k b=>c k (.inr b),h.dl,h.nl⟩
theorem zFx.keep (h:zFx w j r pre O C M gv dv ev vs)(c:∀k,O k∨C k→w'.heap[k]?=w.heap[k]?)(d:∀k,O k∨C k→k<w'.heap.size):zFx w' j r pre O C M gv dv ev vs where
 cells:=(c j (.inl h.oj)).trans h.cells
 group:=zAM.keep h.group fun k b=>c k (.inr (h.cg k b))
 data:=zAM.keep h.data fun k b=>c k (.inr (h.cd k b))
 row:=h.row.keep fun k b=>c k (.inl (h.oe k b).1)
 rlen:=h.rlen
 rows:=fun i e v g f=>(h.rows i e v g f).keep fun k b=>c k (.inr (h.cv v (List.mem_of_getElem? f) k b))
 oj:=h.oj
 oe:=h.oe
 cg:=h.cg
 cd:=h.cd
 cv:=h.cv
 dis:=h.dis
 olt:=fun k b=>d k (.inl b)
 clt:=fun k b=>d k (.inr b)
 psz:=h.psz
 ok:=h.ok
theorem zFx.below (h:zFx w j r pre O C M gv dv ev vs)(c:Below w.heap.size w w'):zFx w' j r pre O C M gv dv ev vs :=
 h.keep (fun k b=>c.block k (b.elim (h.olt k) (h.clt k))) fun k b=>Nat.lt_of_lt_of_le (b.elim (h.olt k) (h.clt k)) c.size
theorem zFx.chg {S:Nat→Prop}(h:zFx w j r pre O C M gv dv ev vs)(c:Chg S w w')(hS:∀k,S k→¬O k∧¬C k):zFx w' j r pre O C M gv dv ev vs :=
 h.keep (fun k b=>c.block k (b.elim (h.olt k) (h.clt k)) fun s=>b.elim (hS k s).1 (hS k s).2) fun k b=>Nat.lt_of_lt_of_le (b.elim (h.olt k) (h.clt k)) c.size
theorem zFx.c (h:zFx w j r pre O C M gv dv ev vs)(i:Nat){v:Value}(b:(#[.int .i64 (M.number:Int),.int .i64 M.term,gv,.pointer (some ⟨r,0,none⟩),.string pre,.int .i64 M.now,.int .i64 M.vote,dv,ev,.bool M.dead]:Array Value)[i]?=some v):w.cell? ⟨j,i,none⟩=some v:=zAG h.cells b
theorem zFx.fr (h:zFx w j r pre O C M gv dv ev vs)(i:Nat):w.frozen? ⟨j,i,none⟩=false:=zAE h.cells i
theorem zFx.ent (h:zFx w j r pre O C M gv dv ev vs){i:Nat}{e:Ent}(l:M.entries[i]?=some e):∃g c v,ev=.slice (some ⟨g,0,none⟩) M.entries.length c∧vs[i]?=some v∧zBS w e v ∧
  w.cell? ⟨g,i*4,none⟩=some (.int .i64 e.term)∧w.cell? ⟨g,i*4+1,none⟩=some (.int .i64 e.kind)∧w.cell? ⟨g,i*4+2,none⟩=some v.1∧w.cell? ⟨g,i*4+3,none⟩=some v.2:=by
 have m:=(List.getElem?_eq_some_iff.1 l).1;have d:vs[i]?=some (vs[i]'(by rw[h.rlen];exact m)):=List.getElem?_eq_getElem _;generalize vs[i]'(by rw[h.rlen];exact m)=v at d;rcases h.row.2 with⟨-,o⟩|⟨g,f,cur,rfl,-⟩
 ·omega
 ·have b:∀(k:Nat) u,(zEm e v)[k]?=some u→w.cell? ⟨g,i*4+k,none⟩=some u:=fun k u n=>by
   have:=h.row.cells (g:=g) rfl (i*4+k) u (zEM _ _ i e v l d k u n);rwa[add_zero]at this
  exact⟨g,f,v,rfl,d,h.rows i e v l d,b 0 _ rfl,b 1 _ rfl,b 2 _ rfl,b 3 _ rfl⟩
end
def RJF (w1:World)(j r:Nat)(pre:ByteArray)(D:zAA)(M:zAH)(Hot Cold:Nat→Prop):Prop :=
 ∃O own gv dv ev vs v L,zFx w1 j r pre O Cold M gv dv ev vs∧zAf w1 r v L own D∧(∀k,O k→¬own k)∧(∀k,Cold k→¬own k)∧∀k,Hot k↔O k∨own k
section
variable {w1 w2:World} {j r:Nat} {pre:ByteArray} {D:zAA} {M:zAH} {Hot Cold:Nat→Prop}
theorem RJF.okM (h:RJF w1 j r pre D M Hot Cold):M.OK:=let ⟨_,_,_,_,_,_,_,_,hJ,_⟩:=h;hJ.ok
theorem RJF.okD (h:RJF w1 j r pre D M Hot Cold):D.OK:=let ⟨_,_,_,_,_,_,_,_,_,hR,_⟩:=h;hR.ok
theorem RJF.hlt (h:RJF w1 j r pre D M Hot Cold){k:Nat}(f:Hot k):k<w1.heap.size:=by
 obtain⟨_,_,_,_,_,_,_,_,c,d,_,_,b⟩:=h;exact((b k).1 f).elim (c.olt k) (d.olt k)
theorem RJF.clt (h:RJF w1 j r pre D M Hot Cold){k:Nat}(b:Cold k):k<w1.heap.size:=let ⟨_,_,_,_,_,_,_,_,hJ,_⟩:=h;hJ.clt k b
theorem RJF.dis (h:RJF w1 j r pre D M Hot Cold){k:Nat}(b:Cold k):¬Hot k:=by
 obtain⟨_,_,_,_,_,_,_,_,f,i,_,c,d⟩:=h;exact fun g=>((d k).1 g).elim (f.dis k b) (c k b)
theorem RJF.jhot (h:RJF w1 j r pre D M Hot Cold):Hot j:=let ⟨_,_,_,_,_,_,_,_,hJ,_,_,_,hH⟩:=h;(hH j).2 (.inl hJ.oj)
theorem RJF.psz (h:RJF w1 j r pre D M Hot Cold):1≤pre.size∧pre.size≤20:=let ⟨_,_,_,_,_,_,_,_,hJ,_⟩:=h;hJ.psz
theorem RJF.chg {S:Nat→Prop}(h:RJF w1 j r pre D M Hot Cold)(c:Chg S w1 w2)(hS:∀k,S k→¬Hot k∧¬Cold k):RJF w2 j r pre D M Hot Cold:=by
 obtain⟨O,own,gv,dv,ev,vs,v,L,i,d,l,g,b⟩:=h;exact⟨O,own,gv,dv,ev,vs,v,L,i.chg c fun k s=>⟨fun o=>(hS k s).1 ((b k).2 (.inl o)),(hS k s).2⟩,d.keep c.size (fun k f=>c.block k (d.olt k f) fun s=>(hS k s).1 ((b k).2 (.inr f))),l,g,b⟩
theorem RJF.below (h:RJF w1 j r pre D M Hot Cold)(b:Below w1.heap.size w1 w2):RJF w2 j r pre D M Hot Cold:=h.chg (Chg.of_below b) fun _ s=>s.elim
theorem RJF.drewN (h:RJF w1 j r pre D M Hot Cold)(q:Nat):RJF (w1.drewN q) j r pre D M Hot Cold:=h.below ⟨rfl,rfl,rfl,Nat.le_refl _,fun _ _=>rfl⟩
def zB1 (w1:World)(j r:Nat)(pre:ByteArray)(Hot Cold:Nat→Prop)(b:zDS)(e:Ending)(w':World):Prop :=
 e=.returned (.int .i64 (b.err:Int))∧∃Hot' Cold',RJF w' j r pre b.disk b.jou Hot' Cold'∧Chg Hot w1 w'∧(∀k,Hot' k→Hot k∨w1.heap.size≤k)∧∀k,Cold' k→Cold k∨w1.heap.size≤k
theorem zDm (h:RJF w1 j r pre D M Hot Cold):Calls prog 42 #[.pointer (some ⟨j,0,none⟩)] w1 fun e w'=>e=.returned (.tuple #[.int .i64 (M.last:Int),.int .i64 M.lastT])∧∃q,w'=w1.drewN q:=by
 have d:=h.okM.last;obtain⟨O,own,gv,dv,ev,vs,v,L,k,B,A,z,a⟩:=h;have R:=k.c 0 rfl;have S:=k.c 1 rfl;have y:=k.c 8 rfl;obtain⟨p,c,l⟩:=k.row.shape;have t:=zW (M.last=M.number+M.entries.length) rfl
 by_cases m:M.entries.length=0
 ·have E:M.entries=[]:=List.eq_nil_of_length_eq_zero m;have s:=zW ((M.last:Int)=(M.number:Int)∧M.lastT=M.term) (⟨by rw[t.o,m];rfl,by unfold zAH.lastT;rw[E];rfl⟩);rw[l,m]at y;clear k B A z a l E m d
  go_enter func42,ntmps42
  go_wp2_with fail
  go_quiet (fail)
  go_wp2_with fail
  go_ret2
  exact⟨by rw[s.o.1,s.o.2];rfl,_,rfl⟩
 ·have f:M.entries.length-1<M.entries.length:=by omega
  obtain⟨g,Q,v',i,H,-,N,-,-,-⟩:=k.ent (List.getElem?_eq_getElem f);have C:M.lastT=M.entries[M.entries.length-1].term:=by
   unfold zAH.lastT;rw[List.getLast?_eq_getElem?,List.getElem?_eq_getElem f]
  rw[←C]at N;rw[i]at y;unfold zAH.last at d;clear k B A z a l i H f C;generalize M.entries.length=n at *;generalize M.number=b at *;generalize M.last=P at *;generalize M.lastT=T at *;have G:((n:Int)==0)=false:=by simp;omega
  have I:IntKind.i64.wrap ((b:Int)+(n:Int))=(P:Int):=by rw[IntWalk.i64_in _ (by omega),t.o];omega
  have J:IntKind.i64.wrap ((n:Int)-1)=((n-1:Nat):Int):=by rw[IntWalk.i64_in _ (by omega)];omega
  have F:n-1<n:=by omega
  go_enter func42,ntmps42
  go_wp2_with fail
  go_quiet (fail)
  go_wp2_with fail
  go_ret2
  exact⟨rfl,_,rfl⟩
end
theorem zEr {w w':World}{e:TypeId}{v:Value}{m:Nat}{xs:List Value}(b:OwnR w' e 1 v (0+m) ([]++xs))(f:(w.alloc (.cells #[] e)).grownBy w' (some w.heap.size))(i:v.ownBlock=some w.heap.size∨∃g,v.ownBlock=some g∧(w.alloc (.cells #[] e)).heap.size≤g) :
  OwnR w' e 1 v m xs∧(∀k,v.ownBlock=some k→w.heap.size≤k)∧Below w.heap.size w w':=by
 rw[Nat.zero_add,List.nil_append]at b;refine⟨b,fun k c=>?_,(zAC w _).trans ((Chg.of_grown f).below (by simp) fun k c e=>?_)⟩
 ·rcases i with h|⟨g,h,d⟩
  ·rw[h]at c;cases c;exact Nat.le_refl _
  ·rw[h]at c;cases c;simp at d;omega
 ·have:=Option.some.inj e;omega
def zAH.upto (M:zAH)(z:Int):Nat:=min (z-(M.number:Int)).toNat M.entries.length
section
variable {w1 w2:World} {j r:Nat} {pre:ByteArray} {D:zAA} {M:zAH} {Hot Cold:Nat→Prop}
theorem grp_min_yes {m k:Nat}{e:Ent}(b:M.entries[k]?=some e)(c:e.kind=2)(d:k+1≤m):M.grpIn (min (k+1) m)=(e.nodes,M.number+k+1):=by
 rw[Nat.min_eq_left d];exact grpIn_yes b c
theorem grp_min_no {m k:Nat}{e:Ent}(c:M.entries[k]?=some e)(h:e.kind≠2∨¬k+1≤m):M.grpIn (min (k+1) m)=M.grpIn (min k m):=by
 by_cases b:k+1≤m
 ·rw[Nat.min_eq_left b,Nat.min_eq_left (by omega)];exact grpIn_no c (h.resolve_right fun h=>h b)
 ·rw[Nat.min_eq_right (by omega),Nat.min_eq_right (by omega)]
theorem upto_all (M:zAH){z:Int}(h:(M.last:Int)≤z):M.upto z=M.entries.length:=by
 unfold zAH.upto;unfold zAH.last at h;omega
end
end Go.Proofs.YtapfnehdgailmaaGreat
