/- What ReadPiecesP leans on, part 27. -/
import Derived.Test.YtkbbgjloifmmbaaGreatDoorRp26
import Derived.Test.YtkbbgjloifmmbaaGreatDoorRp22
set_option linter.unusedVariables false
set_option maxRecDepth 100000
set_option maxHeartbeats 800000
namespace Go.Proofs.YtkbbgjloifmmbaaGreatDoor
open Go.RowKit Go.Sort
mutual
theorem walkN_bare(arch:Int): ∀(x:Nd) (met deep:Nat),walkN arch (bareN x) met deep=walkN arch x met deep
 | .mk k t v a c l,met,deep=>by
   rw[bareN,walkN,walkN,bareL_length,walkL_bare arch l]
theorem walkL_bare(arch:Int): ∀(l:List Nd) (met deep:Nat),walkL arch (bareL l) met deep=walkL arch l met deep
 |[],met,deep=>by rw[bareL]
 |x::r,met,deep=>by rw[bareL,walkL,walkL,walkN_bare arch x,walkL_bare arch r]
end
abbrev pC(w4:World)(b:Nat)(q:Int)(y:Nd):World:=((((((w4.setCell ⟨b,0,none⟩ (.int .i64 q)).setCell ⟨b,1,none⟩ (.int .i64 y.kind)).setCell ⟨b,2,none⟩ (.int .i64 y.th.thread)).setCell ⟨b,3,none⟩ (.int .i64 y.th.reg)).setCell ⟨b,4,none⟩ (.string (tx y.th.loc))).setCell ⟨b,5,none⟩ (.int .i64 y.val)).setCell ⟨b,6,none⟩ (.slice y.a y.kids.length y.c)
theorem put3{w w5 w6 w7 w8:World}{B:Nat}(h0:Below B w w5)(h3:PutB w7 w8 (B+1+1))(h2:PutB w6 w7 (B+1))(h1:PutB w5 w6 B)(hB:B<=w5.heap.size):Below B w w8:=by
 have a1:=h0.grown h1.grown hB (fun r hr=>by simp at hr;omega);have a2:=a1.grown h2.grown (by rw[h1.size];exact hB) (fun r hr=>by simp at hr;omega);exact a2.grown h3.grown (by rw[h2.size,h1.size];exact hB) (fun r hr=>by simp at hr;omega)
theorem NdW.put3{w5 w6 w7 w8:World}{B:Nat}{y:Nd}(h0:NdW w5 (B+3) y)(h3:PutB w7 w8 (B+1+1))(h2:PutB w6 w7 (B+1))(h1:PutB w5 w6 B):NdW w8 B y:=by
 have a1:=h0.kept h1.grown (fun b hb e=>by have:=(h0.lt b hb).1;simp at e;omega);have a2:=a1.kept h2.grown (fun b hb e=>by have:=(a1.lt b hb).1;simp at e;omega);exact(a2.kept h3.grown (fun b hb e=>by have:=(a2.lt b hb).1;simp at e;omega)).mono (by omega)
theorem fin4{w w5 w6 w7 w8:World}{q:Int}{x y:Nd}{e:Ending}(h0:Below w.heap.size w w5)(hN:NdW w5 (w.heap.size+3) y)(hn:(blkN y).Nodup)(hy:bareN y=x)(he:e= .returned (.tuple #[vC q y,.int .i64 0,.int .i64 0]))(h3:PutB w7 w8 (w.heap.size+1+1))(h2:PutB w6 w7 (w.heap.size+1))(h1:PutB w5 w6 w.heap.size):RetCP (.ok (q,x)) w e w8:=
 ⟨put3 h0 h3 h2 h1 h0.size,y,hy,he,hN.put3 h3 h2 h1,hn⟩
theorem fin5{w w5 w6 w7 w8:World}{er:Int}{e:Ending}(h0:Below w.heap.size w w5)(he:e= .returned (.tuple #[.agg #[.int .i64 0,.int .i64 0,.int .i64 0,.int .i64 0,.string ⟨#[]⟩,.int .i64 0,.slice none 0 0],.int .i64 er,.int .i64 0]))(h3:PutB w7 w8 (w.heap.size+1+1))(h2:PutB w6 w7 (w.heap.size+1))(h1:PutB w5 w6 w.heap.size):RetCP (.error (er,0)) w e w8:=
 ⟨put3 h0 h3 h2 h1 h0.size,he⟩
theorem condE_bare(arch q:Int)(x:Nd):condE arch q (bareN x)=condE arch q x:=by unfold condE;rw[walkN_bare]
theorem condParse_4{arch q:Int}{s:Tx}{l:List Tok}{x:Nd}(h:archB arch=true)(hl:s.length<=262144)(hc:condR' arch (lex 0 s)= .ok ((q,x),l))(h0:condE arch q x=0)(w:World)(g:Gl w):Calls Tryz.prog 82 #[.int .i64 arch,.string (tx s)] w (RetCP (parseC arch s) w):=by
 rw[parseC_4 h hl hc h0];have KN:=hid (fun w=>condKnown arch w);have TK:=hid (condTokens s hl (w3C w));have HA:=hid h;have hsz:(tx s).size=s.length:=tx_size s;have HS:=hid hl;have HC:=hid hc;have HG:=hid g;generalize hu:tx s=u at*;have z:decide ((262144:Int)<(u.size:Int))=false:=by simp;omega
 have hm2:u.size<=9223372036854775807:=by omega
 obtain⟨er,her⟩: ∃er,condE arch q x=er:=⟨_,rfl⟩;have HE:=hid her;rw[her]at h0;have z0:(er==0)=true:=by simpa using h0
 have gg:=z0;clear h hsz hl hc g her;have hmf: ∀(fn:Fn) (first cap:Array Value) (w:World),(Instr.makeFunc fn first cap).run Tryz.prog w= .ok (.func fn first cap) w:=fun _ _ _ _=>rfl
 go_enter_defers Tryz.func82,Tryz.ntmps82
 go_wp2_with (first|(go_at_call 142;refine(KN.out _).mono ?_;rintro e w' ⟨rfl,rfl⟩;rw[HA.out])|fail)
 refine TK.out.mono ?_;rintro e w2 ⟨a,c,rfl,hO,E2⟩;subst hu;have hsz2:=E2.size;have RC:=hid (readCond (RdG.new (arch:=arch) (Own.mono hO (Nat.zero_le _)) HS.out ((HG.out.below (below_w3C w)).below E2)));have E2:=hid E2;clear hO;go_wp2_with fail;refine RC.out.mono ?_;rintro e w4 h;obtain⟨k1,-, ⟨y,hy,rfl,hyo,hyn⟩,R3,S3⟩:=h.okay (show _=Except.ok ((q,x),l) by rw[List.drop_zero];exact HC.out);have S:St (w3C w) w4 w2.heap.size:=(step_below E2.out).trans ((step_below (al w2 (rdO arch s a (lex 0 s).length c))).trans S3);have hrb:w.heap.size+2<w2.heap.size:=by simp at hsz2;omega
 have hs4:=S3.grown.size;obtain⟨v1,v2,v3,f1,f2,f3⟩:=w3C_vars S hrb;have hyo:=hyo.mono (B':=w.heap.size+3) (by simp;omega);have hf10:=f1 0;have hf20:=f2 0;have hf30:=f3 0;have p0:=v1.get 0 _ rfl;have p1:=v1.get 1 _ rfl;have p2:=v1.get 2 _ rfl;have p3:=v1.get 3 _ rfl;have p4:=v1.get 4 _ rfl;have p5:=v1.get 5 _ rfl;have p6:=v1.get 6 _ rfl;have hne:w2.heap.size≠w.heap.size:=by omega
 have B4:Below w.heap.size w w4:=(below_w3C w).grown S.grown (by simp;omega) (fun r hr=>by simp at hr;omega);clear h S3 R3 S;have hs4b:w.heap.size+3<=w4.heap.size:=by simp at hs4;omega
 have I5:=hyo.kept (w':=pC w4 w.heap.size q y) (PutB.grown (b:=w.heap.size) (by(repeat with_reducible refine PutB.put ?_ _ _);exact PutB.refl _ _)) (fun b hb e=>by have:=(hyo.lt b hb).1;simp at e;omega);have PG:w4.grownBy (pC w4 w.heap.size q y) (Option.some w.heap.size):=PutB.grown (by(repeat with_reducible refine PutB.put ?_ _ _);exact PutB.refl _ _);unfold pC at I5 PG;have g2:=PG.cell v2 (by simp);have g3:=PG.cell v3 (by simp;omega);have B4:=B4.grown PG (by omega) (fun r hr=>by simp at hr;omega);have bx:=((((((v1.set 0 (.int .i64 q)).set 1 (.int .i64 y.kind)).set 2 (.int .i64 y.th.thread)).set 3 (.int .i64 y.th.reg)).set 4 (.string (tx y.th.loc))).set 5 (.int .i64 y.val)).set 6 (.slice y.a y.kids.length y.c);have F1:=hid f1;have F2:=hid f2;have F3:=hid f3;have hgs: ∀a:Nat,a<w.heap.size+3->a<(pC w4 w.heap.size q y).heap.size:=fun a h=>by simp;omega
 unfold pC at hgs;have bx:=hid bx;have g2:=hid g2;have g3:=hid g3;have hgs:=hid hgs;have hy:=hid hy;have hyn:=hid hyn;clear PG v2 v3;have CK:=hid (condCheck arch q y _ I5.inn);rw[<-condE_bare,hy.out,HE.out]at CK;have I5:=hid I5;have B4:=hid B4;clear hyo v1;go_wp2_with fail;refine CK.out.mono ?_;rintro e w5 ⟨rfl,E5⟩;have d2:=(E5.cell (p:=⟨w.heap.size+1,0,none⟩) (hgs.out (w.heap.size+1) (by omega))).trans g2.out;have d3:=(E5.cell (p:=⟨w.heap.size+1+1,0,none⟩) (hgs.out (w.heap.size+1+1) (by omega))).trans g3.out;have h10: ∀j,w5.frozen? ⟨w.heap.size,j,none⟩=false:=fun j=>by rw[E5.frozen (p:=⟨w.heap.size,j,none⟩) (hgs.out (w.heap.size) (by omega))];simp only[World.frozen?_setCell];exact F1.out j
 have h20: ∀j,w5.frozen? ⟨w.heap.size+1,j,none⟩=false:=fun j=>by rw[E5.frozen (p:=⟨w.heap.size+1,j,none⟩) (hgs.out (w.heap.size+1) (by omega))];simp only[World.frozen?_setCell];exact F2.out j
 have h30: ∀j,w5.frozen? ⟨w.heap.size+1+1,j,none⟩=false:=fun j=>by rw[E5.frozen (p:=⟨w.heap.size+1+1,j,none⟩) (hgs.out (w.heap.size+1+1) (by omega))];simp only[World.frozen?_setCell];exact F3.out j
 have b5:=bx.out.below E5;have q0:=b5.get 0 _ rfl;have q1:=b5.get 1 _ rfl;have q2:=b5.get 2 _ rfl;have q3:=b5.get 3 _ rfl;have q4:=b5.get 4 _ rfl;have q5:=b5.get 5 _ rfl;have q6:=b5.get 6 _ rfl;have I6:=hid (I5.out.keep E5);have B5:=hid (B4.out.trans (E5.mono B4.out.size));clear f1 f2 f3 E5 b5 p0 p1 p2 p3 p4 p5 p6 hf10 hf20 hf30;go_wp2_with fail;refine leaves_cons (f:=156) (args:=#[.pointer (some ⟨w.heap.size,0,none⟩),.pointer (some ⟨w.heap.size+1,0,none⟩),.pointer (some ⟨w.heap.size+1+1,0,none⟩)]) (by simp) (by simp[go_sem]) ?_;refine(cond_idle ⟨w.heap.size,0,none⟩ ⟨w.heap.size+1,0,none⟩ ⟨w.heap.size+1+1,0,none⟩ _).mono ?_;rintro e u' w6 ⟨rfl,rfl,rfl⟩;refine⟨.tuple #[vC q y,.int .i64 0,.int .i64 0],by simp[results,Tryz.results82,go_sem,q0,q1,q2,q3,q4,q5,q6,d2,d3],?_⟩;exact fin4 B5.out I6.out hyn.out hy.out rfl ((PutB.refl _ _).put 0 _) ((PutB.refl _ _).put 0 _) ((((((((PutB.refl _ _).put 0 _).put 1 _).put 2 _).put 3 _).put 4 _).put 5 _).put 6 _)
theorem condParse_5{arch q:Int}{s:Tx}{l:List Tok}{x:Nd}(h:archB arch=true)(hl:s.length<=262144)(hc:condR' arch (lex 0 s)= .ok ((q,x),l))(h0:condE arch q x≠0)(w:World)(g:Gl w):Calls Tryz.prog 82 #[.int .i64 arch,.string (tx s)] w (RetCP (parseC arch s) w):=by
 rw[parseC_5 h hl hc h0];have KN:=hid (fun w=>condKnown arch w);have TK:=hid (condTokens s hl (w3C w));have HA:=hid h;have hsz:(tx s).size=s.length:=tx_size s;have HS:=hid hl;have HC:=hid hc;have HG:=hid g;generalize hu:tx s=u at*;have z:decide ((262144:Int)<(u.size:Int))=false:=by simp;omega
 have hm2:u.size<=9223372036854775807:=by omega
 obtain⟨er,her⟩: ∃er,condE arch q x=er:=⟨_,rfl⟩;have HE:=hid her;rw[her]at h0;have z0:(er != 0)=true:=by simpa using h0
 rw[her];clear h hsz hl hc g her;have hmf: ∀(fn:Fn) (first cap:Array Value) (w:World),(Instr.makeFunc fn first cap).run Tryz.prog w= .ok (.func fn first cap) w:=fun _ _ _ _=>rfl
 go_enter_defers Tryz.func82,Tryz.ntmps82
 go_wp2_with (first|(go_at_call 142;refine(KN.out _).mono ?_;rintro e w' ⟨rfl,rfl⟩;rw[HA.out])|fail)
 refine TK.out.mono ?_;rintro e w2 ⟨a,c,rfl,hO,E2⟩;subst hu;have hsz2:=E2.size;have RC:=hid (readCond (RdG.new (arch:=arch) (Own.mono hO (Nat.zero_le _)) HS.out ((HG.out.below (below_w3C w)).below E2)));have E2:=hid E2;clear hO;go_wp2_with fail;refine RC.out.mono ?_;rintro e w4 h;obtain⟨k1,-, ⟨y,hy,rfl,hyo,hyn⟩,R3,S3⟩:=h.okay (show _=Except.ok ((q,x),l) by rw[List.drop_zero];exact HC.out);have S:St (w3C w) w4 w2.heap.size:=(step_below E2.out).trans ((step_below (al w2 (rdO arch s a (lex 0 s).length c))).trans S3);have hrb:w.heap.size+2<w2.heap.size:=by simp at hsz2;omega
 have hs4:=S3.grown.size;obtain⟨v1,v2,v3,f1,f2,f3⟩:=w3C_vars S hrb;have hyo:=hyo.mono (B':=w.heap.size+3) (by simp;omega);have hf10:=f1 0;have hf20:=f2 0;have hf30:=f3 0;have p0:=v1.get 0 _ rfl;have p1:=v1.get 1 _ rfl;have p2:=v1.get 2 _ rfl;have p3:=v1.get 3 _ rfl;have p4:=v1.get 4 _ rfl;have p5:=v1.get 5 _ rfl;have p6:=v1.get 6 _ rfl;have hne:w2.heap.size≠w.heap.size:=by omega
 have B4:Below w.heap.size w w4:=(below_w3C w).grown S.grown (by simp;omega) (fun r hr=>by simp at hr;omega);clear h S3 R3 S;have hs4b:w.heap.size+3<=w4.heap.size:=by simp at hs4;omega
 have I5:=hyo.kept (w':=pC w4 w.heap.size q y) (PutB.grown (b:=w.heap.size) (by(repeat with_reducible refine PutB.put ?_ _ _);exact PutB.refl _ _)) (fun b hb e=>by have:=(hyo.lt b hb).1;simp at e;omega);have PG:w4.grownBy (pC w4 w.heap.size q y) (Option.some w.heap.size):=PutB.grown (by(repeat with_reducible refine PutB.put ?_ _ _);exact PutB.refl _ _);unfold pC at I5 PG;have g2:=PG.cell v2 (by simp);have g3:=PG.cell v3 (by simp;omega);have B4:=B4.grown PG (by omega) (fun r hr=>by simp at hr;omega);have bx:=((((((v1.set 0 (.int .i64 q)).set 1 (.int .i64 y.kind)).set 2 (.int .i64 y.th.thread)).set 3 (.int .i64 y.th.reg)).set 4 (.string (tx y.th.loc))).set 5 (.int .i64 y.val)).set 6 (.slice y.a y.kids.length y.c);have F1:=hid f1;have F2:=hid f2;have F3:=hid f3;have hgs: ∀a:Nat,a<w.heap.size+3->a<(pC w4 w.heap.size q y).heap.size:=fun a h=>by simp;omega
 unfold pC at hgs;have bx:=hid bx;have g2:=hid g2;have g3:=hid g3;have hgs:=hid hgs;have hy:=hid hy;have hyn:=hid hyn;clear PG v2 v3;have CK:=hid (condCheck arch q y _ I5.inn);rw[<-condE_bare,hy.out,HE.out]at CK;have I5:=hid I5;have B4:=hid B4;clear hyo v1;go_wp2_with fail;refine CK.out.mono ?_;rintro e w5 ⟨rfl,E5⟩;have d2:=(E5.cell (p:=⟨w.heap.size+1,0,none⟩) (hgs.out (w.heap.size+1) (by omega))).trans g2.out;have d3:=(E5.cell (p:=⟨w.heap.size+1+1,0,none⟩) (hgs.out (w.heap.size+1+1) (by omega))).trans g3.out;have h10: ∀j,w5.frozen? ⟨w.heap.size,j,none⟩=false:=fun j=>by rw[E5.frozen (p:=⟨w.heap.size,j,none⟩) (hgs.out (w.heap.size) (by omega))];simp only[World.frozen?_setCell];exact F1.out j
 have h20: ∀j,w5.frozen? ⟨w.heap.size+1,j,none⟩=false:=fun j=>by rw[E5.frozen (p:=⟨w.heap.size+1,j,none⟩) (hgs.out (w.heap.size+1) (by omega))];simp only[World.frozen?_setCell];exact F2.out j
 have h30: ∀j,w5.frozen? ⟨w.heap.size+1+1,j,none⟩=false:=fun j=>by rw[E5.frozen (p:=⟨w.heap.size+1+1,j,none⟩) (hgs.out (w.heap.size+1+1) (by omega))];simp only[World.frozen?_setCell];exact F3.out j
 have b5:=bx.out.below E5;have q0:=b5.get 0 _ rfl;have q1:=b5.get 1 _ rfl;have q2:=b5.get 2 _ rfl;have q3:=b5.get 3 _ rfl;have q4:=b5.get 4 _ rfl;have q5:=b5.get 5 _ rfl;have q6:=b5.get 6 _ rfl;have I6:=hid (I5.out.keep E5);have B5:=hid (B4.out.trans (E5.mono B4.out.size));clear f1 f2 f3 E5 b5 p0 p1 p2 p3 p4 p5 p6 hf10 hf20 hf30;go_wp2_with fail;refine leaves_cons (f:=156) (args:=#[.pointer (some ⟨w.heap.size,0,none⟩),.pointer (some ⟨w.heap.size+1,0,none⟩),.pointer (some ⟨w.heap.size+1+1,0,none⟩)]) (by simp) (by simp[go_sem]) ?_;refine(cond_idle ⟨w.heap.size,0,none⟩ ⟨w.heap.size+1,0,none⟩ ⟨w.heap.size+1+1,0,none⟩ _).mono ?_;rintro e u' w6 ⟨rfl,rfl,rfl⟩;refine⟨.tuple #[.agg #[.int .i64 0,.int .i64 0,.int .i64 0,.int .i64 0,.string ⟨#[]⟩,.int .i64 0,.slice none 0 0],.int .i64 er,.int .i64 0],by simp[results,Tryz.results82,go_sem,q0,q1,q2,q3,q4,q5,q6,d2,d3],?_⟩;exact fin5 B5.out rfl ((PutB.refl _ _).put 0 _) ((PutB.refl _ _).put 0 _) ((((((((PutB.refl _ _).put 0 _).put 1 _).put 2 _).put 3 _).put 4 _).put 5 _).put 6 _)
theorem condParse{arch:Int}{s:Tx}(hm:s.length<=9223372036854775807)(w:World)(g:Gl w):Calls Tryz.prog 82 #[.int .i64 arch,.string (tx s)] w (RetCP (parseC arch s) w):=by
 cases h:archB arch with
 |false=>exact condParse_1 h w
 | true=>
   rcases Nat.lt_or_ge 262144 s.length with hl|hl
   ·exact condParse_2 h hl hm w
   ·cases hc:condR' arch (lex 0 s)with
    |error l=>exact condParse_3 h hl hc w g
    | ok p=>
      obtain⟨⟨q,x⟩,l⟩:=p
      by_cases h0:condE arch q x=0
      ·exact condParse_4 h hl hc h0 w g
      ·exact condParse_5 h hl hc h0 w g
end Go.Proofs.YtkbbgjloifmmbaaGreatDoor
namespace Go.Proofs.YtkbbgjloifmmbaaGreatDoor
def Ends(s:Tx):Prop:=(∀c,s.head?=some c->blankC c=false)/\ ∀c,s.getLast?=some c->blankC c=false
theorem cell_blank{c:UInt8}(h:cellC c=true)(h2:c≠32):blankC c=false:=by
 have k:=u8_all (p:=fun c=> !cellC c||(c==32|| !blankC c)) (by decide+kernel) c;rw[h]at k;simpa[h2]using k
theorem Ends.of{s:Tx}(hb:CellB s)(hl:Lst s)(h0: ∀c,s.head?=some c->c≠32):Ends s:=by
 refine⟨fun c hc=>cell_blank (hb c (List.mem_of_head? hc)) (h0 c hc),fun c hc=>cell_blank (hb c (List.mem_of_getLast? hc)) ?_⟩;obtain⟨p,d,rfl,hd⟩:=hl;rw[List.getLast?_concat]at hc;cases hc;exact hd
inductive CellsR(arch:Int):List Tx->List (List Ins)->List (List Ins)->Prop where
 |nil:CellsR arch [] [] []
 |skip {c:Tx} {L:List Tx} (x:List Ins) {acc out:List (List Ins)} (h:trimT c=[]) (t:CellsR arch L acc out):CellsR arch (c::L) (x::acc) (x::out)
 |put {c:Tx} {L:List Tx} (x:List Ins) {acc out:List (List Ins)} {i:Ins} (h:trimT c≠[]) (hi:insP arch (trimT c)=some i) (t:CellsR arch L acc out):CellsR arch (c::L) (x::acc) ((x++[i])::out)
theorem CellsR.ok{arch:Int}{N:Nat}{L:List Tx}{acc out:List (List Ins)}(h:CellsR arch L acc out): ∀v:Tx,cellsP arch N L v acc= .ok out:=by
 induction h with
 |nil=>intro v;rfl
 |skip x h t ih=>intro v;rw[cellsP,if_pos h,ih]
 |put x h hi t ih=>intro v;rw[cellsP,if_neg h,hi];dsimp only;rw[ih]
def condC(b:UInt8):Bool:=tokC b||(b==32||(b==47||(b==92||(b==40||(b==41||b==126)))))
def CondB(s:Tx):Prop:= ∀b∈s,condC b=true
theorem CondB.app{a b:Tx}(h1:CondB a)(h2:CondB b):CondB (a++b):=fun c hc=>(List.mem_append.1 hc).elim (h1 c) (h2 c)
theorem CondB.lit{l:Tx}(h:l.all condC=true):CondB l:=fun b hb=>List.all_eq_true.1 h b hb
theorem CondB.tok{l:Tx}(h: ∀b∈l,tokC b=true):CondB l:=fun b hb=>by unfold condC;rw[h b hb];rfl
theorem CondB.inB{s:Tx}(b:Bool)(h:CondB s):CondB (inB b s):=by
 unfold Go.Proofs.YtkbbgjloifmmbaaGreatDoor.inB;split
 ·exact CondB.app (a:=[40]) (.lit (by decide)) (h.app (.lit (by decide)))
 ·exact h
mutual
theorem gatherN_bare: ∀(x:Nd) (acc:List Th),gatherN (bareN x) acc=gatherN x acc
 | .mk k t v a c l,acc=>by rw[bareN,gatherN,gatherN,gatherL_bare l]
theorem gatherL_bare: ∀(l:List Nd) (acc:List Th),gatherL (bareL l) acc=gatherL l acc
 |[],acc=>by rw[bareL]
 |x::r,acc=>by rw[bareL,gatherL,gatherL,gatherN_bare x,gatherL_bare r]
end
theorem thingsC_bare(q:Int)(x:Nd):thingsC q (bareN x)=thingsC q x:=by
 unfold thingsC thingsN;rw[condE_bare',gatherN_bare]
def bareT(t:Tst):Tst:=mkTs t.arch t.name t.cycle t.init (codL t.code) t.q (bareN t.node)
def withN(t:Tst)(x:Nd):Tst:=⟨t.arch,t.name,t.cycle,t.ia,t.ic,t.init,t.ca,t.cc,t.code,t.q,x⟩
theorem bareT_eq(t:Tst):bareT t=withN (bare t) (bareN (bare t).node):=by
 unfold bareT mkTs withN bare bareC codL;rw[List.map_map];rfl
theorem tstE_withN(u:Tst):tstE (withN u (bareN u.node))=tstE u:=by
 have hA:askT (withN u (bareN u.node))=askT u:=thingsC_bare _ _;have hN:namesT (withN u (bareN u.node))=namesT u:=by unfold namesT rawT;rw[hA];rfl
 have h1:codedE (withN u (bareN u.node))=codedE u:=rfl;have h2:begunE (withN u (bareN u.node))=begunE u:=rfl;have h3:condE (withN u (bareN u.node)).arch (withN u (bareN u.node)).q (withN u (bareN u.node)).node=condE u.arch u.q u.node:=condE_bare' _ _ _;unfold tstE;rw[hA,hN,h1,h2,h3];rfl
theorem tstE_bareT(t:Tst):tstE (bareT t)=tstE t:=by
 rw[bareT_eq,tstE_withN,tstE_bare]
def dB(s:Tx):Int:=s.count 40-s.count 41
theorem dB_app(a b:Tx):dB (a++b)=dB a+dB b:=by unfold dB;rw[List.count_append,List.count_append];omega
theorem dB_no{s:Tx}(h:(40:UInt8)∉s)(h2:(41:UInt8)∉s):dB s=0:=by
 unfold dB;rw[List.count_eq_zero_of_not_mem h,List.count_eq_zero_of_not_mem h2];rfl
def BalS(s:Tx):Prop:=(∀A B,s=A++B->0<=dB A)/\dB s=0
theorem BalS.plain{s:Tx}(h:(40:UInt8)∉s)(h2:(41:UInt8)∉s):BalS s:=
 ⟨fun A B e=>by rw[dB_no (fun m=>h (by rw[e];simp[m])) (fun m=>h2 (by rw[e];simp[m]))];omega,dB_no h h2⟩
theorem BalS.app{a b:Tx}(h1:BalS a)(h2:BalS b):BalS (a++b):=by
 refine⟨fun A B e=>?_,by rw[dB_app,h1.2,h2.2];rfl⟩;rcases List.append_eq_append_iff.1 e with⟨C,e1,e2⟩|⟨C,e1,e2⟩
 ·rw[e1,dB_app,h1.2];have:=h2.1 C B e2;omega
 ·exact h1.1 A C e1
theorem BalS.inB{s:Tx}(b:Bool)(h:BalS s):BalS (inB b s):=by
 unfold Go.Proofs.YtkbbgjloifmmbaaGreatDoor.inB;split
 ·refine⟨fun A B e=>?_,?_⟩
  ·cases A with
   |nil=>exact Int.le_refl _
   | cons c A=>
     rw[List.cons_append,List.cons_append]at e;obtain⟨rfl,e0⟩:=List.cons.inj e;have hA:dB (40::A)=1+dB A:=by rw[<-List.singleton_append,dB_app];rfl
     rw[hA];rcases List.append_eq_append_iff.1 e0 with⟨C,e1,e2⟩|⟨C,e1,e2⟩
     ·rw[e1,dB_app,h.2]
      cases C with
      |nil=>show(0:Int)<=1+(0+0);omega
      | cons d C=>
        have hl:=congrArg List.length e2;rw[List.length_append]at hl;simp only[List.length_cons,List.length_nil]at hl;have hC:C=[]:=List.length_eq_zero_iff.1 (by omega);have hd:=(List.cons.inj e2).1;subst hC;subst hd;show(0:Int)<=1+(0+(0-1));omega
     ·have:=h.1 A C e1;omega
  ·rw[<-List.singleton_append,List.append_assoc,dB_app,dB_app,h.2];rfl
 ·exact h
def Com(s:Tx):Prop:= ∀A B,s=A++40::B->(44:UInt8)∈A
theorem Com.plain{s:Tx}(h:(40:UInt8)∉s):Com s:=fun A B e=>absurd (by rw[e];simp) h
theorem Com.app{a b:Tx}(h1:Com a)(h2:Com b):Com (a++b):=by
 intro A B e;rcases List.append_eq_append_iff.1 e with⟨C,e1,e2⟩|⟨C,e1,e2⟩
 ·rw[e1];have:=h2 C B e2;simp[this]
 ·cases C with
  | nil=>
    rw[List.append_nil]at e1;have:=h2 [] B (by rw[List.nil_append]at e2 ⊢; exact e2.symm);cases this
  | cons d C=>
    rw[List.cons_append]at e2;obtain⟨rfl,e3⟩:=List.cons.inj e2;exact h1 A C e1
theorem Com.comma{a b:Tx}(h1:(40:UInt8)∉a):Com (a++44::b):=by
 intro A B e;rcases List.append_eq_append_iff.1 e with⟨C,e1,e2⟩|⟨C,e1,e2⟩
 ·cases C with
  |nil=>exact absurd (List.cons.inj e2).1 (by decide)
  |cons d C=>rw[List.cons_append]at e2;rw[e1,<-(List.cons.inj e2).1];simp
 ·exfalso
  cases C with
  |nil=>exact absurd (List.cons.inj e2).1 (by decide)
  | cons d C=>
    rw[List.cons_append]at e2;rw[e1,(List.cons.inj e2).1.symm]at h1;exact h1 (by simp)
theorem Com.pre{p r:Tx}(h:Com (p++r)):Com p:=fun A B e=>h A (B++r) (by rw[e];simp)
theorem zP_same{d:Nat->Nat}: ∀{l:List Tok},(∀t∈l,d t.2=t.2)->zP d l=l
 |[],_=>rfl
 |t::l,h=>by rw[z_cons,zP_same fun u hu=>h u (by simp[hu]),h t (by simp)]
theorem lex_within: ∀(n p:Nat) (s:Tx),s.length<=n-> ∀t∈lex p s,t.2<=p+s.length
 |_,p,[],_,t,ht=>by rw[lex_nil]at ht;cases ht
 |0,_,_::_,h,_,_=>absurd h (by simp)
 | n+1,p,c::r,h,t,ht=>by
   simp only[List.length_cons]at h⊢;cases hb:blankC c with
   |true=>rw[lex_blank p r hb]at ht;have:=lex_within n (p+1) r (by omega) t ht;omega
   | false=>
     have hp:=longT_pos c r;have hle:=longT_le c r;rw[lex_tok p r hb]at ht;rcases List.mem_cons.1 ht with rfl|ht
     ·simp only;omega
     ·have:=lex_within n _ _ (by simp;omega) t ht
      simp only[List.length_drop,List.length_cons]at this;omega
theorem parseC_place{arch:Int}{s:Tx}{e:Int}{k:Nat}(h:parseC arch s= .error (e,k)):k<=s.length:=by
 unfold parseC at h
 split at h
 ·cases h;exact Nat.zero_le _
 ·split at h
  ·cases h;exact Nat.zero_le _
  ·split at h
   ·rename_i l hl
    cases h;have hz:zP (fun n=>min n s.length) (lex 0 s)=lex 0 s:=zP_same fun t ht=>by have:=lex_within _ 0 s (Nat.le_refl _) t ht;omega
    have:=condR_z arch (fun n=>min n s.length) (lex 0 s);rw[hz,hl]at this;have e2:l=zP (fun n=>min n s.length) l:=by injection this
    cases l with
    |nil=>exact Nat.le_refl _
    | cons t l=>
      rw[z_cons]at e2;have e3:=congrArg Prod.snd (List.cons.inj e2).1;show t.2<=s.length;simp only at e3;omega
   ·split at h
    ·cases h
    ·cases h;exact Nat.zero_le _
theorem headP_len{N:Nat}{r n r1:Tx}{a:Int}(h:headP N r= .ok (a,n,r1)):r1=restL (sgnL r):=by
 unfold headP at h
 dsimp only at h
 split at h
 ·cases h
 ·split at h
  ·cases h
  ·cases h;rfl
theorem cycleP_len{N:Nat}{r c r1:Tx}(h:cycleP N r= .ok (c,r1)):(r1=r/\(lineL (sgnL r)).head?≠some 34)\/r1=restL (sgnL r):=by
 unfold cycleP at h
 dsimp only at h
 split at h
 ·rename_i h0;cases h;exact .inl ⟨rfl,h0⟩
 ·split at h
  ·cases h
  ·cases h;exact .inr rfl
theorem initsP_len{arch:Int}{N:Nat}{r r1:Tx}{l:List Ini}(h:initsP arch N r= .ok (l,r1)):(sgnL r).head?=some 123/\(125:UInt8)∈sgnL r/\r1.length<=r.length:=by
 unfold initsP at h
 dsimp only at h
 split at h
 ·cases h
 ·rename_i h0
  rw[not_or]at h0
  split at h
  ·cases h
  ·cases h
   refine⟨Classical.byContradiction h0.1,Classical.byContradiction h0.2,?_⟩;have a:=(List.dropWhile_suffix (l:=sgnL r) (· != 125)).length_le;have b:=sgnL_len r;rw[List.length_drop];omega
end Go.Proofs.YtkbbgjloifmmbaaGreatDoor
