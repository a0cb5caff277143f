/- What ReadPiecesP leans on, part 15. -/
import Derived.Test.YtkbbgjloifmmbaaGreatDoorRp14
import Derived.RegionTactic
import Derived.Deep.LoopGhost
set_option linter.unusedVariables false
set_option maxRecDepth 100000
set_option maxHeartbeats 6400000
namespace Go.Proofs.YtkbbgjloifmmbaaGreatDoor
open Go.RowKit
def RetMv(r:Option Ins)(w:World)(e:Ending)(w':World):Prop:= ∃op d a imm loc ok,e= .returned (.tuple #[.agg #[.int .i64 op,.int .i64 d,.int .i64 a,.int .i64 0,.int .i64 imm,.string (tx loc),.string ⟨#[]⟩,.int .i64 0],.bool ok])/\OptV r ⟨op,d,a,0,imm,loc,[],0⟩ ok/\loc.length<=1000000/\Below w.heap.size w w'
theorem tx_nil:tx []=⟨#[]⟩:=rfl
theorem pre_one(l:Tx)(c:UInt8):Lib.hasPrefix l [c]=(l.head?==some c):=by
 unfold Lib.hasPrefix;cases l with
 |nil=>rfl
 |cons d r=>show(c==d&&true)=(d==c);rw[Bool.and_true,Bool.eq_iff_iff,beq_iff_eq,beq_iff_eq];exact eq_comm
theorem mv_1{x0 fr x r1:Tx}(hr1:fr.drop 1=r1){v:Int}{ok:Bool}(hp:placeX x0=some x)(h:fr.head?=some 36)(hn:OptV (numR r1) v ok):OptV (movedX x0 fr) ⟨1,0,0,0,v,x,[],0⟩ ok:=by
 subst hr1;unfold movedX;rw[hp];simp only[h,if_true];unfold OptV at *; rw[hn];cases ok<;>rfl
theorem mv_2{x0 fr x:Tx}(hp:placeX x0=some x)(h:fr.head?≠some 36):OptV (movedX x0 fr) ⟨2,0,(optX (regOfX fr)).1,0,0,x,[],0⟩ ((optX (regOfX fr)).2==0):=by
 unfold movedX;rw[hp];simp only[h,if_false];unfold OptV;cases regOfX fr<;>rfl
theorem mv_no{x0 fr:Tx}(hp:placeX x0=none)(hr:regOfX x0=none):movedX x0 fr=none:=by unfold movedX;rw[hp,hr]
theorem mv_4{x0 fr r1:Tx}(hr1:fr.drop 1=r1){d:Nat}{v:Int}{ok:Bool}(hp:placeX x0=none)(hr:regOfX x0=some d)(h:fr.head?=some 36)(hn:OptV (numR r1) v ok):OptV (movedX x0 fr) ⟨4,d,0,0,v,[],[],0⟩ ok:=by
 subst hr1;unfold movedX;rw[hp,hr];simp only[h,if_true];unfold OptV at *; rw[hn];cases ok<;>rfl
theorem mv_3{x0 fr x:Tx}{d:Nat}{ok:Bool}(hp:placeX x0=none)(hr:regOfX x0=some d)(h:fr.head?≠some 36)(hn:OptV (placeX fr) x ok):OptV (movedX x0 fr) ⟨3,d,0,0,0,x,[],0⟩ ok:=by
 unfold movedX;rw[hp,hr];simp only[h,if_false];unfold OptV at *; rw[hn];cases ok<;>rfl
theorem intelMoved(x0 fr:Tx)(h1:x0.length<=1000000)(h2:fr.length<=1000000)(w:World)(g:Gl w):Calls Tryz.prog 96 #[.string (tx x0),.string (tx fr)] w (RetMv (movedX x0 fr) w):=by
 have g0:=g.below (al w zeroI);have PT:=hid (fun w=>intelPlace x0 h1 w);have PF:=hid (fun w=>intelPlace fr h2 w);have RT:=hid (fun(w:World) (g:Gl w)=>intelRegOf x0 w g);have RF:=hid (fun(w:World) (g:Gl w)=>intelRegOf fr w g);have NF:=hid (fun(w:World) (g:Gl w)=>intelNum (fr.drop 1) (by simp;omega) w g);have PR:=hid (fun w=>run_prefix fr [36] w);rw[pre_one]at PR;have HF:=hid h2
 have HSF:=hid (show fr.head?=some 36-> ∀w,(Instr.sliceAt 9 (.string (tx fr)) (some (.int .i64 1)) none none).run Tryz.prog w= .ok (.string (tx (fr.drop 1))) w from fun h=>run_strfrom fr 1 (by cases fr with
  |nil=>cases h
  |cons a b=>simp))
 obtain⟨r1,hr1⟩: ∃r1,fr.drop 1=r1:=⟨_,rfl⟩;have HR1:=hid hr1;rw[hr1]at HSF NF;clear h1 h2 g hr1;go_enter Tryz.func96,Tryz.ntmps96;go_wp2_with fail;refine(PT.out _).mono ?_;rintro e w1 ⟨u,ok,rfl,ho,hul,E⟩;have HO:=hid ho;have g1:=g0.below E;have HU:=hid hul;clear ho hul g0;cases ok with
 | true=>
   by_cases h36:fr.head?=some 36
   ·have sf:=HSF.out h36
    have HR:=hid (fun v ok=>mv_1 HR1.out (v:=v) (ok:=ok) HO.out.yes h36);rw[show(fr.head?==some 36)=true by rw[h36];rfl]at PR;clear h36;go_wp2_with fail;refine(PR.out _).mono ?_;rintro e w2 ⟨rfl,E2⟩;have g2:=g1.below E2;have E:=ext_trans E E2;go_wp2_with fail;refine(NF.out _ g2).mono ?_;rintro e w3 ⟨v,ok,rfl,hn,E3⟩;have HN:=hid hn;have E:=ext_trans E E3;obtain⟨⟨d0,d1,d2,d3,d4,d5,d6,d7⟩,hf,hlt,B⟩:=fresh8 E;clear hn E g1 g2;go_wp2_with fail;exact bodyPost_ret (by simp[results,Tryz.results96,go_sem,d0,d1,d2,d3,d4,d5,d6,d7]) rfl ⟨1,0,0,v,u,ok,rfl,HR.out _ _ HN.out,HU.out,blA⟩
   ·have HR:=hid (mv_2 HO.out.yes h36)
    rw[show(fr.head?==some 36)=false by simpa using h36]at PR;generalize optX (regOfX fr)=p at*;clear h36;go_wp2_with fail;refine(PR.out _).mono ?_;rintro e w2 ⟨rfl,E2⟩;have g2:=g1.below E2;have E:=ext_trans E E2;go_wp2_with fail;refine(RF.out _ g2).mono ?_;rintro e w3 ⟨rfl,rfl⟩;obtain⟨⟨d0,d1,d2,d3,d4,d5,d6,d7⟩,hf,hlt,B⟩:=fresh8 E;clear E g1 g2;go_wp2_with fail;exact bodyPost_ret (by simp[results,Tryz.results96,go_sem,d0,d1,d2,d3,d4,d5,d6,d7]) rfl ⟨2,0,p.1,0,u,_,rfl,HR.out,HU.out,blA⟩
 | false=>
   go_wp2_with fail;refine(RT.out _ g1).mono ?_;rintro e w2 ⟨rfl,rfl⟩;cases hr:regOfX x0 with
   | none=>
     have HR:=hid (mv_no (fr:=fr) HO.out.no hr);simp only[optX];obtain⟨⟨d0,d1,d2,d3,d4,d5,d6,d7⟩,hf,hlt,B⟩:=fresh8 E;clear E g1 hr;go_wp2_with fail;exact bodyPost_ret (by simp[results,Tryz.results96,go_sem,d0,d1,d2,d3,d4,d5,d6,d7,tx_nil]) rfl ⟨0,0,0,0,[],false,rfl,HR.out,by simp,blA⟩
   | some d=>
     simp only[optX]
     by_cases h36:fr.head?=some 36
     ·have sf:=HSF.out h36
      have HR:=hid (fun v ok=>mv_4 HR1.out (v:=v) (ok:=ok) HO.out.no hr h36);rw[show(fr.head?==some 36)=true by rw[h36];rfl]at PR;clear h36 hr;go_wp2_with fail;refine(PR.out _).mono ?_;rintro e w2 ⟨rfl,E2⟩;have g2:=g1.below E2;have E:=ext_trans E E2;go_wp2_with fail;refine(NF.out _ g2).mono ?_;rintro e w3 ⟨v,ok,rfl,hn,E3⟩;have HN:=hid hn;have E:=ext_trans E E3;obtain⟨⟨d0,d1,d2,d3,d4,d5,d6,d7⟩,hf,hlt,B⟩:=fresh8 E;clear hn E g1 g2;go_wp2_with fail;exact bodyPost_ret (by simp[results,Tryz.results96,go_sem,d0,d1,d2,d3,d4,d5,d6,d7,tx_nil]) rfl ⟨4,d,0,v,[],ok,rfl,HR.out _ _ HN.out,by simp,blA⟩
     ·have HR:=hid (fun x ok=>mv_3 (x:=x) (ok:=ok) HO.out.no hr h36)
      rw[show(fr.head?==some 36)=false by simpa using h36]at PR;clear h36 hr;go_wp2_with fail;refine(PR.out _).mono ?_;rintro e w2 ⟨rfl,E2⟩;have E:=ext_trans E E2;go_wp2_with fail;refine(PF.out _).mono ?_;rintro e w3 ⟨x,ok,rfl,hn,hx,E3⟩;have HN:=hid hn;have HX:=hid hx;have E:=ext_trans E E3;obtain⟨⟨d0,d1,d2,d3,d4,d5,d6,d7⟩,hf,hlt,B⟩:=fresh8 E;clear hn hx E g1;go_wp2_with fail;exact bodyPost_ret (by simp[results,Tryz.results96,go_sem,d0,d1,d2,d3,d4,d5,d6,d7]) rfl ⟨3,d,0,0,x,ok,rfl,HR.out _ _ HN.out,HX.out,blA⟩
end Go.Proofs.YtkbbgjloifmmbaaGreatDoor
namespace Go.Proofs.YtkbbgjloifmmbaaGreatDoor
open Go.RowKit Go.Sort
theorem BxL.set{w:World}{b:Nat}{l:List Value}(h:BxL w b l)(k:Nat)(v:Value):BxL (w.setCell ⟨b,k,none⟩ v) b (l.set k v):=by
 refine⟨by simpa using h.1,fun j hj=>?_⟩;rw[List.length_set]at hj;have h1:=h.2 j hj
 by_cases e:k=j
 ·subst e
  rw[List.getElem?_set_self hj];rw[List.getElem?_eq_getElem hj]at h1;exact World.cell?_setCell_same _ _ _ h1
 ·rw[List.getElem?_set_ne e,World.cell?_setCell_other _ _ _ _ (by intro e2;injection e2 with _ e3;exact e e3)]
  exact h1
theorem frz_set(w:World)(p q:Addr)(v:Value):(w.setCell p v).frozen? q=w.frozen? q:=World.frozen?_setCell _ _ _ _
structure Num2(w w1:World)(B rb b5:Nat)(arch:Int)(s:Tx)(a:Option Addr)(c:Nat)(L:List Tok)(k:Nat)(n:Int):Prop where
 rd:Rdr w1 B rb arch s a c L k
 st:St (w.alloc zT0) w1 rb
 bx: ∃m:Int,BxL w1 b5 [.int .i64 n,.int .i64 m,.string ⟨#[]⟩]
 f5: ∀j,w1.frozen? ⟨b5,j,none⟩=false
 lo:w.heap.size<b5
section
variable {w w1 w2:World} {B rb b5:Nat} {arch:Int} {s:Tx} {a:Option Addr} {c:Nat} {L:List Tok} {k:Nat} {n:Int}
theorem Num2.below(h:Num2 w w1 B rb b5 arch s a c L k n)(hb:Below w1.heap.size w1 w2):Num2 w w2 B rb b5 arch s a c L k n:=by
 obtain⟨m,hm⟩:=h.bx;exact⟨h.rd.below hb,h.st.trans (step_below hb),⟨m,hm.below hb⟩,fun j=>by rw[hb.frozen (p:=⟨b5,j,none⟩) hm.1];exact h.f5 j,h.lo⟩
theorem Num2.put(h:Num2 w w1 B rb b5 arch s a c L k n)(hr:b5≠rb)(ht:L≠[]->bk a<w.heap.size)(m:Int):Num2 w (w1.setCell ⟨b5,1,none⟩ (.int .i64 m)) B rb b5 arch s a c L k n/\BxL (w1.setCell ⟨b5,1,none⟩ (.int .i64 m)) b5 [.int .i64 n,.int .i64 m,.string ⟨#[]⟩]:=by
 obtain⟨m0,hm⟩:=h.bx;have hb:=hm.set 1 (.int .i64 m);exact⟨⟨h.rd.put hr (fun hL=>by have:=ht hL;have:=h.lo;omega) _ _,St.put h.st (by have:=h.lo;simp;omega) _ _,⟨m,hb⟩,fun j=>by rw[frz_set];exact h.f5 j,h.lo⟩,hb⟩
end
def optP(n:Int)(r:List Tok)(ro:Option Nat):PR Th:=match ro with
 |none=>.error r
 |some k=>.ok (⟨n,k,[]⟩,r.tail)
theorem regA_ne_nil(arch:Int)(m:Nat)(h:(m:Int)<regsN arch):regA arch m≠[]:=by
 unfold regA;split
 ·next e=>
  subst e;have h2:m<15:=by unfold regsN at h;rw[if_pos rfl]at h;omega
  have: ∀k:Fin 15,regX k.1≠[]:=by decide
  exact this ⟨m,h2⟩
 ·simp[regT]
theorem regOfA_nil(arch:Int):regOfA arch []=none:=by
 unfold regOfA;rw[List.find?_eq_none];intro m hm;simp[regA_ne_nil arch m (by have:=List.mem_range.1 hm;omega)]
theorem regOfA_ne{arch:Int}{l:Tx}{j:Nat}(h:regOfA arch l=some j):l≠[]:=fun e=>by rw[e,regOfA_nil]at h;cases h
theorem condThing_2{w:World}{B rb:Nat}{arch:Int}{s:Tx}{a:Option Addr}{c:Nat}{L:List Tok}{k:Nat}(R:Rdr w B rb arch s a c L k)(hsh: ∀t∈L,t.1.length<=s.length)(g:Gl w)(h91:headS (L.drop k)≠[91])(hn:numHead (headS (L.drop k))=true):
 Calls Tryz.prog 350 #[.pointer (some ⟨rb,0,none⟩)] w (RetC w B rb arch s a c L (thingR arch (L.drop k)) VT):=by
 obtain⟨-, -, -, -, -, hrb⟩:=R.cells;have htk:L≠[]->bk a<w.heap.size:=fun h=>R.toks.lt cTok_len (by omega) h
 have R0:=R.below (al w zT0);have g0:=g.below (al w zT0);have PK:=hid (peek0 R0);unfold PeekC at PK;have IC:=hid (fun(w:World) (R:Rdr w B rb arch s a c L k) (g:Gl w)=>condInt R hsh 0 15 (by decide) (by decide) g);have TK:=hid (fun(w:World) (k':Nat) (R:Rdr w B rb arch s a c L k')=>condTake R [58] (by decide));rw[thingR_2 h91 hn];have HR:=hid R0;generalize headS (L.drop k)=u at*;have z:((tx u).toList==[91])=false:=tx_ne _ _ h91
 obtain⟨d,r0,rfl,hd⟩: ∃d r,u=d::r/\(digitC d||d==45)=true:=by
  cases u with
  |nil=>cases hn
  |cons d r=>exact⟨d,r,rfl,hn⟩
 have z2:((tx (d::r0)).toList==[])=false:=tx_ne _ _ (by simp);have z2e:(tx (d::r0)).toList.isEmpty=false:=by rw[<-List.beq_nil_eq];exact z2
 have ix:=run_ixz (d::r0) d rfl;generalize tx (d::r0)=u at*;obtain⟨b,hb⟩: ∃b,digitC d=b:=⟨_,rfl⟩;have HD:=hid hb
 have z3:b=false->((d.toNat:Int)==45)=true:=fun h=>by
  subst h;rw[hb,Bool.false_or]at hd;have:d=45:=by simpa using hd
  rw[this];decide
 have hnr:w.heap.size≠rb:=by omega
 have HTK:=hid (show L≠[]->bk a<w.heap.size from htk);clear hsh h91 R R0 hn hd hb htk g
 have main: ∀(p:PR Int),intR 0 15 (L.drop k)=p->Calls Tryz.prog 350 #[.pointer (some ⟨rb,0,none⟩)] w (RetC w B rb arch s a c L (match p with
  | .error e=>.error e
  | .ok (n,r)=>match takeR [58] r with
    | .error e=>.error e
    | .ok r=>match regOfA arch (headS r)with
      |none=>.error r
      |some k=>.ok (⟨n,k,[]⟩,r.tail)) VT):=by
  intro p hp;rw[hp]at IC;clear hp;cases p with
  | error l=>
    simp only;cases b
    all_goals
     (try have z3:=z3 rfl)
     go_enter Tryz.func350,Tryz.ntmps350;go_wp2_with fail;refine PK.out.mono ?_;rintro e w1 ⟨rfl,q⟩;have IC:=hid (IC.out _ (HR.out.below q.below') (g0.below q.below'));have S:=hid ((St.new (St.refl w rb) zT0).trans (step_below (bw:=rb) q.below'));clear q
     go_wp2_with (go_at_call 298;refine(condDigit d _).mono ?_;rintro e w' ⟨rfl,rfl⟩;rw[HD.out])
     refine IC.out.mono ?_;rintro e w2 h;obtain⟨rfl,S3⟩:=h.err rfl;unfold PanC;go_wp2_with fail;exact⟨rfl,S.out.trans S3,.inl ⟨_,rfl,rfl⟩⟩
  | ok q=>
    obtain⟨n,r⟩:=q;simp only;cases hcol:takeR [58] r with
    | error l=>
      simp only;cases b
      all_goals
       (try have z3:=z3 rfl)
       go_enter Tryz.func350,Tryz.ntmps350;go_wp2_with fail;refine PK.out.mono ?_;rintro e w1 ⟨rfl,q⟩;have IC:=hid (IC.out _ (HR.out.below q.below') (g0.below q.below'));have S:=hid (step_below (bw:=rb) q.below');clear q
       go_wp2_with (go_at_call 298;refine(condDigit d _).mono ?_;rintro e w' ⟨rfl,rfl⟩;rw[HD.out])
       refine IC.out.mono ?_;rintro e w2 h;obtain⟨k2,rfl,hv,R3,S3⟩:=h.okay rfl;unfold VI at hv;subst hv;have TC:=hid (TK.out _ k2 (R3.below (al _ (.cells #[.int .i64 n,.int .i64 0,.string ⟨#[]⟩] 25))));have HT:=hid hcol;have hrb2:rb<w2.heap.size:=R3.cells.2.2.2.2.2;have hs2:=(S.out.trans S3).grown.size;have S:=hid (St.new (S.out.trans S3) (.cells #[.int .i64 n,.int .i64 0,.string ⟨#[]⟩] 25));clear R3 S3 h hcol;go_wp2_with fail;refine TC.out.mono ?_;rintro e w3 h;obtain⟨rfl,S4⟩:=h.err (show _=Except.error l by rw[HT.out];rfl);unfold PanC;go_wp2_with fail;exact⟨rfl,(St.new (St.refl w rb) zT0).trans (S.out.trans S4),.inl ⟨_,rfl,rfl⟩⟩
    | ok r2=>
      simp only;obtain⟨ro,hro⟩: ∃ro,regOfA arch (headS r2)=ro:=⟨_,rfl⟩;rw[hro];show Calls _ _ _ _ (RetC w B rb arch s a c L (optP n r2 ro) VT);cases b
      all_goals
       (try have z3:=z3 rfl)
       go_enter Tryz.func350,Tryz.ntmps350;go_wp2_with fail;refine PK.out.mono ?_;rintro e w1 ⟨rfl,q⟩;have IC:=hid (IC.out _ (HR.out.below q.below') (g0.below q.below'));have S:=hid (step_below (bw:=rb) q.below');clear q
       go_wp2_with (go_at_call 298;refine(condDigit d _).mono ?_;rintro e w' ⟨rfl,rfl⟩;rw[HD.out])
       refine IC.out.mono ?_;rintro e w2 h;obtain⟨k2,rfl,hv,R3,S3⟩:=h.okay rfl;unfold VI at hv;subst hv;have TC:=hid (TK.out _ k2 (R3.below (al _ (.cells #[.int .i64 n,.int .i64 0,.string ⟨#[]⟩] 25))));have HT:=hid hcol;have hrb2:rb<w2.heap.size:=R3.cells.2.2.2.2.2;have hs2:=(S.out.trans S3).grown.size;have S:=hid (St.new (S.out.trans S3) (.cells #[.int .i64 n,.int .i64 0,.string ⟨#[]⟩] 25));clear R3 S3 h hcol;go_wp2_with fail;refine TC.out.mono ?_;rintro e w3 h;obtain⟨k3,rfl,hv,R5,S4⟩:=h.okay (show _=Except.ok ((),r2) by rw[HT.out];rfl);unfold VU at hv;subst hv;have N2:Num2 w w3 B rb w2.heap.size arch s a c L k3 n:=⟨R5,S.out.trans S4,⟨0,thing_cells S4 hrb2⟩,fun j=>(frz_step S4 (b:=w2.heap.size) (by simp) (by omega) j).trans (frz_new w2 _ _ j),by simp at hs2;omega⟩;have PK2:=hid (fun(w:World) (R:Rdr w B rb arch s a c L k3)=>peek0 R);unfold PeekC at PK2;obtain⟨v,hv⟩: ∃v,headS (L.drop k3)=v:=⟨_,rfl⟩;rw[hv]at PK2;have RO:=hid (fun w=>condRegOf arch v w);rw[<-hv,hro,hv]at RO;have HRO:=hid hro;have hb5r:w2.heap.size≠rb:=by omega
       clear R5 S4 h S hs2 TC HT hro IC HR PK TK;have N2:=N2.below (below_drewN w3 1);have N2:Num2 w w3.drew B rb w2.heap.size arch s a c L k3 n:=N2;have c0:=N2.rd.cells.1;obtain⟨m,hm⟩:=N2.bx;have p1:=hm.get 1 _ rfl;have f1:=N2.f5 1;go_wp2_with fail
       go_region_held3 (fun w'=>Num2 w w' B rb w2.heap.size arch s a c L k3 n/\w'.cell? ⟨rb,0,none⟩=some (.int .i64 arch)) (first|exact⟨by assumption,by assumption⟩|exact⟨(Num2.put (by assumption) hb5r HTK.out _).1,(Num2.put (by assumption) hb5r HTK.out _).1.rd.cells.1⟩)
        (first
         |(go_at_call 236;refine(PK2.out _ N2.rd).mono ?_;rintro e w' ⟨rfl,q⟩;have N2:=N2.below q.below';have c0:=N2.rd.cells.1;obtain⟨m,hm⟩:=N2.bx;have p1:=hm.get 1 _ rfl;have f1:=N2.f5 1)
         |(go_at_call 357;refine(RO.out _).mono ?_;rintro e w' ⟨rfl,E'⟩;have N2:=N2.below E';have c0:=N2.rd.cells.1;obtain⟨m,hm⟩:=N2.bx;have p1:=hm.get 1 _ rfl;have f1:=N2.f5 1))
       obtain⟨N3,b3⟩:=Num2.put N2 hb5r HTK.out (optA ro);clear N2 hm p1 f1 c0 PK2 RO
       revert N3 b3
       generalize w'.setCell ⟨w2.heap.size,1,none⟩ (.int .i64 (optA ro))=w5;intro N3 b3;have R3:=N3.rd;obtain⟨c0,c1,c2,c3,f3,lt⟩:=R3.cells;have q0:=b3.get 0 _ rfl;have q1:=b3.get 1 _ rfl;have q2:=b3.get 2 _ rfl;have HN:=hid N3;have FL:=hid (condFail R3);have b2:=thing_cells N3.st hrb;have fz:=fun j=>(frz_step N3.st (b:=w.heap.size) (by simp) (by omega) j).trans (frz_new w _ _ j)
       have p0:=b2.get 0 _ rfl;have p1:=b2.get 1 _ rfl;have p2:=b2.get 2 _ rfl;clear N3 b3 R3 b2;cases ro with
       | none=>
         have zo:optA none= -1:=rfl;rw[zo]at q1;go_wp2_with fail;refine FL.out.mono ?_;rintro e w6 ⟨rfl,q⟩;unfold PanC;go_wp2_with fail;exact⟨rfl,(St.new (St.refl w rb) zT0).trans (HN.out.st.trans (step_below q.below')),.inl ⟨_,rfl,rfl⟩⟩
       | some j=>
         have zo:optA (some j)=(j:Int):=rfl;rw[zo]at q1;have zl:decide ((j:Int)<0)=false:=by simp
         have hk3:=head_lt (regOfA_ne HRO.out);obtain⟨R6,S6⟩:=HN.out.rd.next hk3;have HR6:=hid R6;have HS6:=hid S6;have hsm:=HN.out.rd.sm;have hne:w.heap.size≠rb:=by omega
         have HT2:=hid (show L≠[]->bk a≠w.heap.size from fun h=>by have:=HTK.out h;omega);clear R6 S6;go_wp2_with fail;exact bodyPost_ret (by simp[results,Tryz.results350,go_sem,p0,p1,p2,tx_nil]) rfl ⟨St.put (St.put (St.put ((St.new (St.refl w rb) zT0).trans (HN.out.st.trans HS6.out)) (Nat.le_refl _) _ _) (Nat.le_refl _) _ _) (Nat.le_refl _) _ _,.inr ⟨⟨n,j,[]⟩,k3+1,by simp[optP],⟨rfl,by simp⟩,((HR6.out.put hne HT2.out _ _).put hne HT2.out _ _).put hne HT2.out _ _⟩⟩
 exact main _ rfl
theorem alloc_size(w:World)(o:Obj):(w.alloc o).heap.size=w.heap.size+1:=by simp
abbrev OwnNd(w:World)(B:Nat)(a:Option Addr)(n c:Nat)(l:List Nd):Prop:=Own w B 28 6 a n c (flat cN l)
theorem BxN.step{w w':World}{b:Nat}{x:Nd}{sa a':Option Addr}(h:BxN w b x)(hs:Step w w' sa a')(hne:sa=none\/b≠bk sa):BxN w' b x:=by
 refine⟨Nat.lt_of_lt_of_le h.1 hs.grown.size,fun k hk=>?_⟩;rw[<-h.2 k hk];obtain⟨v,hv⟩: ∃v,w.cell? ⟨b,k,none⟩=some v:=⟨_,(h.2 k hk).trans (List.getElem?_eq_getElem (by rw[cN_len];exact hk))⟩;rw[hv];refine hs.grown.cell hv ?_;cases sa with
 |none=>simp
 |some y=> rcases hne with h2|h2
           ·cases h2
           ·simpa[bk]using h2
theorem Own.litNd(w:World)(x:Nd):OwnNd (w.alloc (mkN x)) w.heap.size (Option.some ⟨w.heap.size,0,none⟩) 1 1 [x]:=by
 have h:=World.ownsRow_lit w (e:=28) #[.int .i64 x.kind,.int .i64 x.th.thread,.int .i64 x.th.reg,.string (tx x.th.loc),.int .i64 x.val,.slice x.a x.kids.length x.c] 1 (Nat.le_refl w.heap.size) (size:=6) (by unfold maxLen;omega) (by simp);exact h
inductive NdW(w:World)(B:Nat):Nd->Prop where
 |mk (x:Nd) (hl:x.th.loc.length<=262144) (hn:x.kids.length<=1000000) (ho:OwnNd w B x.a x.kids.length x.c x.kids) (h: ∀k∈x.kids,NdW w B k):NdW w B x
theorem NdW.loc{w:World}{B:Nat}{x:Nd}(h:NdW w B x):x.th.loc.length<=262144:=by cases h;assumption
theorem NdW.few{w:World}{B:Nat}{x:Nd}(h:NdW w B x):x.kids.length<=1000000:=by cases h;assumption
theorem NdW.own{w:World}{B:Nat}{x:Nd}(h:NdW w B x):OwnNd w B x.a x.kids.length x.c x.kids:=by cases h;assumption
theorem NdW.kid{w:World}{B:Nat}{x:Nd}(h:NdW w B x): ∀k∈x.kids,NdW w B k:=by cases h;assumption
def blkA(a:Option Addr):List Nat:=match a with
 |none=>[]
 |some p=>[p.block]
mutual
def blkN:Nd->List Nat
 | .mk _ _ _ a _ l=>blkA a++blkL l
def blkL:List Nd->List Nat
 |[]=>[]
 |x::r=>blkN x++blkL r
end
theorem blkN_eq(x:Nd):blkN x=blkA x.a++blkL x.kids:=by cases x;rw[blkN];rfl
theorem blkL_nil:blkL []=[]:=by rw[blkL]
theorem blkL_cons(x:Nd)(r:List Nd):blkL (x::r)=blkN x++blkL r:=by rw[blkL]
theorem blkL_app: ∀(l r:List Nd),blkL (l++r)=blkL l++blkL r
 |[],r=>by simp[blkL_nil]
 |x::l,r=>by rw[List.cons_append,blkL_cons,blkL_cons,blkL_app l r,List.append_assoc]
theorem blkL_one(x:Nd):blkL [x]=blkN x:=by rw[blkL_cons,blkL_nil,List.append_nil]
theorem mem_blkL{b:Nat}: ∀{l:List Nd},b∈blkL l-> ∃k∈l,b∈blkN k
 |[],h=>by rw[blkL_nil]at h;cases h
 | x::r,h=>by
   rw[blkL_cons,List.mem_append]at h;rcases h with h|h
   ·exact⟨x,List.mem_cons_self,h⟩
   ·obtain⟨k,hk,hb⟩:=mem_blkL h;exact⟨k,List.mem_cons_of_mem _ hk,hb⟩
theorem in_blkL{b:Nat}{k:Nd}: ∀{l:List Nd},k∈l->b∈blkN k->b∈blkL l
 | x::r,h,hb=>by
   rw[blkL_cons,List.mem_append];rcases List.mem_cons.1 h with rfl|h
   ·exact .inl hb
   ·exact .inr (in_blkL h hb)
theorem NdW.lt{w:World}{B:Nat}: ∀{x:Nd},NdW w B x-> ∀b∈blkN x,B<=b/\b<w.heap.size:=by
 intro x
 induction x using Nd.ind with
 | h x ih=>
   intro h b hb;rw[blkN_eq,List.mem_append]at hb;rcases hb with hb|hb
   ·cases ha:x.a with
    |none=>rw[ha]at hb;cases hb
    | some p=>
      rw[ha]at hb;have hp:b=p.block:=by simpa[blkA]using hb
      have:=Own.lt h.own (by rw[ha];simp);rw[ha]at this;rw[hp];exact this
   ·obtain⟨k,hk,hb⟩:=mem_blkL hb
    exact ih k hk (h.kid k hk) b hb
theorem NdW.kept{w w':World}{B:Nat}{r:Option Nat}(hg:w.grownBy w' r): ∀{x:Nd},NdW w B x->(∀b∈blkN x,some b≠r)->NdW w' B x:=by
 intro x
 induction x using Nd.ind with
 | h x ih=>
   intro h hb;refine⟨x,h.loc,h.few,Own.kept h.own hg ?_,fun k hk=>ih k hk (h.kid k hk) fun b hb'=>hb b ?_⟩
   ·cases ha:x.a with
    |none=>exact .inl rfl
    |some p=>exact .inr (hb _ (by rw[blkN_eq,ha];simp[blkA,bk]))
   ·rw[blkN_eq,List.mem_append];exact .inr (in_blkL hk hb')
theorem NdW.keep{w w':World}{B:Nat}(hb:Below w.heap.size w w'): ∀{x:Nd},NdW w B x->NdW w' B x:=by
 intro x
 induction x using Nd.ind with
 |h x ih=>intro h;exact⟨x,h.loc,h.few,Own.below h.own hb,fun k hk=>ih k hk (h.kid k hk)⟩
theorem NdW.mono{w:World}{B B':Nat}(hB:B'<=B): ∀{x:Nd},NdW w B x->NdW w B' x:=by
 intro x
 induction x using Nd.ind with
 |h x ih=>intro h;exact⟨x,h.loc,h.few,Own.mono h.own hB,fun k hk=>ih k hk (h.kid k hk)⟩
theorem NdW.st{w w':World}{B rb:Nat}{x:Nd}(h:NdW w B x)(hs:St w w' rb)(hr:rb<B):NdW w' B x:=
 NdW.kept hs.grown h fun b hb e=>by
  have:=(h.lt b hb).1;simp at e;omega
theorem OwnNd.els{w:World}{B n c:Nat}{a:Option Addr}{l:List Nd}(h:OwnNd w B a n c l)(hl:l.length<=1000000):Els cN w a l:=by
 refine⟨Own.row h,?_⟩;omega
theorem NdW.inn{w:World}{B:Nat}: ∀{x:Nd},NdW w B x->NdIn w x:=by
 intro x
 induction x using Nd.ind with
 | h x ih=>
   intro h;exact⟨x,by have:=h.loc;omega,OwnNd.els h.own h.few,h.own.cap.1,fun k hk=>ih k hk (h.kid k hk)⟩
structure NdsF(w:World)(B:Nat)(a:Option Addr)(c:Nat)(l:List Nd):Prop where
 own:OwnNd w B a l.length c l
 kids: ∀k∈l,NdW w B k
 nd:(bk a::blkL l).Nodup
 ne:a≠none
def VN(B:Nat)(x:Nd)(e:Ending)(w:World):Prop:= ∃y,bareN y=x/\e= .returned (vN y)/\NdW w B y/\(blkN y).Nodup
section
variable {w w1 w2:World} {B rb:Nat} {a a':Option Addr} {c c':Nat} {l:List Nd} {x:Nd}
theorem NdsF.lt(h:NdsF w B a c l):B<=bk a/\bk a<w.heap.size:=Own.lt h.own h.ne
theorem NdsF.all(h:NdsF w B a c l): ∀b∈blkL l,B<=b/\b<w.heap.size:=fun b hb=>by
 obtain⟨k,hk,h2⟩:=mem_blkL hb;exact(h.kids k hk).lt b h2
theorem NdsF.below(h:NdsF w B a c l)(hb:Below w.heap.size w w1):NdsF w1 B a c l:=
 ⟨Own.below h.own hb,fun k hk=>(h.kids k hk).keep hb,h.nd,h.ne⟩
theorem NdsF.st(h:NdsF w B a c l)(hs:St w w1 rb)(hr:rb<B):NdsF w1 B a c l:=by
 refine⟨Own.kept h.own hs.grown (.inr ?_),fun k hk=>(h.kids k hk).st hs hr,h.nd,h.ne⟩;have:=h.lt.1;simp;omega
theorem NdsF.mono{B':Nat}(h:NdsF w B a c l)(hB:B'<=B):NdsF w B' a c l:=
 ⟨Own.mono h.own hB,fun k hk=>(h.kids k hk).mono hB,h.nd,h.ne⟩
theorem NdsF.one(ho:NdW w B x)(hn:(blkN x).Nodup)(hB:B<=w.heap.size):NdsF (w.alloc (mkN x)) B (Option.some ⟨w.heap.size,0,none⟩) 1 [x]:=by
 refine⟨Own.mono (Own.litNd w x) hB,fun k hk=>?_,?_,by simp⟩
 ·rw[List.mem_singleton.1 hk];exact ho.keep (al _ _)
 ·rw[blkL_one,List.nodup_cons]
  refine⟨fun hb=>?_,hn⟩;have:=(ho.lt _ hb).2;simp only[bk_some]at this;omega
theorem NdsF.app(h:NdsF w B a c l)(hB:B<=w.heap.size)(hs:St w w1 rb)(hr:rb<B)(ho:NdW w1 w.heap.size x)(hn:(blkN x).Nodup)(hO:OwnNd w2 B a' (l++[x]).length c' (l++[x]))(hg:Grew w1 w2 a c a' c')(ha':a'≠none):NdsF w2 B a' c' (l++[x])/\St w1 w2 (bk a):=by
 have h1:=h.st hs hr;have hlt:=h.lt;have hsz:=hs.grown.size
 obtain⟨p,hp⟩: ∃p,a=Option.some p:=by
  cases a with
  |none=>exact absurd rfl h.ne
  |some p=>exact⟨p,rfl⟩
 have hgr:w1.grownBy w2 (Option.some (bk a)):=by
  have:=hg.step.grown;rw[hp]at this⊢;exact this
 have hnd:=h.nd;rw[List.nodup_cons]at hnd;refine⟨⟨hO,fun k hk=>?_,?_,ha'⟩,⟨by simpa using hgr,.inl rfl⟩⟩
 ·rcases List.mem_append.1 hk with hk|hk
  ·refine(h1.kids k hk).kept hgr fun b hb e=>?_
   simp at e;subst e;exact hnd.1 (in_blkL hk hb)
  ·rw[List.mem_singleton.1 hk]
   refine(ho.mono hB).kept hgr fun b hb e=>?_
   simp at e;subst e;have:=(ho.lt _ hb).1;omega
 ·rw[blkL_app,blkL_one,List.nodup_cons,List.nodup_append]
  refine⟨fun hb=>?_,hnd.2,hn,fun b1 hb1 b2 hb2 e=>?_⟩
  ·rcases hg with⟨rfl,-, -⟩|⟨hge, -⟩
   ·rcases List.mem_append.1 hb with hb|hb
    ·exact hnd.1 hb
    ·have:=(ho.lt _ hb).1;omega
   ·rcases List.mem_append.1 hb with hb|hb
    ·have:=(h.all _ hb).2;omega
    ·have:=(ho.lt _ hb).2;omega
  ·have h3:=(h.all _ hb1).2
   have h4:=(ho.lt _ hb2).1;omega
theorem NdsF.node(h:NdsF w B a c l)(k:Int)(t:Th)(v:Int)(ht:t.loc.length<=262144)(hl:l.length<=1000000):NdW w B (.mk k t v a c l)/\(blkN (.mk k t v a c l)).Nodup:=by
 refine⟨⟨_,ht,hl,h.own,h.kids⟩,?_⟩;rw[blkN_eq];have:=h.nd;cases a with
 |none=>exact absurd rfl h.ne
 |some p=>exact this
theorem NdW.leaf(w:World)(B:Nat)(k:Int)(t:Th)(v:Int)(ht:t.loc.length<=262144):NdW w B (.mk k t v none 0 [])/\(blkN (.mk k t v none 0 [])).Nodup:=
 ⟨⟨_,ht,by simp[Nd.kids],Own.nil _ _ _ _,fun k hk=>absurd hk (by simp[Nd.kids])⟩,by rw[blkN_eq];simp[blkA,Nd.a,Nd.kids,blkL_nil]⟩
theorem NdsF.sole(h:NdsF w B a c [x]):NdW w B x/\(blkN x).Nodup:=by
 refine⟨h.kids x (by simp),?_⟩;have:=h.nd;rw[blkL_one,List.nodup_cons]at this;exact this.2
end
end Go.Proofs.YtkbbgjloifmmbaaGreatDoor
namespace Go.Proofs.YtkbbgjloifmmbaaGreatDoor
open Go.RowKit
@[reducible] def cIni(x:Ini):List Value:=[.int .i64 x.thread,.int .i64 x.reg,.string (tx x.loc),.string (tx x.vloc),.int .i64 x.n]
@[reducible] def vIni(x:Ini):Value:=.agg #[.int .i64 x.thread,.int .i64 x.reg,.string (tx x.loc),.string (tx x.vloc),.int .i64 x.n]
abbrev mkIni(x:Ini):Obj:=.cells #[.int .i64 x.thread,.int .i64 x.reg,.string (tx x.loc),.string (tx x.vloc),.int .i64 x.n] 56
theorem cIni_len(x:Ini):(cIni x).length=5:=rfl
theorem cIni_one(x:Ini): ∀u∈cIni x,u.oneCell'=true:=by
 intro u hu;simp at hu;rcases hu with rfl|rfl|rfl|rfl|rfl<;>rfl
theorem inil:ElT Tryz.prog 22 56 (.agg #[.int .i64 0,.int .i64 0,.string ByteArray.empty,.string ByteArray.empty,.int .i64 0]) 5 56:=⟨Tryz.underlying22,by kernel_rfl,rfl,by decide⟩
theorem Els.ini{w:World}{a:Option Addr}{l:List Ini}(h:Els cIni w a l){k:Nat}{x:Ini}(hk:l[k]? =some x):
 w.cell? ⟨bk a,fo a+k*5,none⟩=some (.int .i64 x.thread)/\w.cell? ⟨bk a,fo a+k*5+1,none⟩=some (.int .i64 x.reg)/\w.cell? ⟨bk a,fo a+k*5+2,none⟩=some (.string (tx x.loc))/\w.cell? ⟨bk a,fo a+k*5+3,none⟩=some (.string (tx x.vloc))/\w.cell? ⟨bk a,fo a+k*5+4,none⟩=some (.int .i64 x.n):=
 ⟨h.cell0 cIni_len hk (by omega),h.cell cIni_len hk 1 (by omega),h.cell cIni_len hk 2 (by omega),h.cell cIni_len hk 3 (by omega),h.cell cIni_len hk 4 (by omega)⟩
@[reducible] def cCd(x:Cd):List Value:=[.slice x.a x.l.length x.c]
theorem cCd_len(x:Cd):(cCd x).length=1:=rfl
theorem cdl:ElT Tryz.prog 23 75 (.slice none 0 0) 1 24:=⟨Tryz.underlying23,by kernel_rfl,rfl,by decide⟩
theorem Els.cd{w:World}{a:Option Addr}{l:List Cd}(h:Els cCd w a l){k:Nat}{x:Cd}(hk:l[k]? =some x):
 w.cell? ⟨bk a,fo a+k,none⟩=some (.slice x.a x.l.length x.c):=by
 have:=h.cell0 cCd_len hk (by omega)
 rwa[Nat.mul_one]at this
theorem Els.cdx{w:World}{a:Option Addr}{l:List Cd}(h:Els cCd w a l)(k:Nat)(hk:k<l.length)(c:Nat):
 ∀w',(Instr.indexAt 23 (.slice a l.length c) (.int .i64 k)).run Tryz.prog w'= .ok (.pointer (some ⟨bk a,fo a+k,none⟩)) w':=by
 have:=h.idx cdl cCd_len k hk c
 rwa[Nat.mul_one]at this
@[reducible] def cT(t:Tst):List Value:=[.int .i64 t.arch,.string (tx t.name),.string (tx t.cycle),.slice t.ia t.init.length t.ic,.slice t.ca t.code.length t.cc,.int .i64 t.q,.int .i64 t.node.kind,.int .i64 t.node.th.thread,.int .i64 t.node.th.reg,.string (tx t.node.th.loc),.int .i64 t.node.val,.slice t.node.a t.node.kids.length t.node.c]
@[reducible] def vT(t:Tst):Value:=.agg #[.int .i64 t.arch,.string (tx t.name),.string (tx t.cycle),.slice t.ia t.init.length t.ic,.slice t.ca t.code.length t.cc,.int .i64 t.q,.int .i64 t.node.kind,.int .i64 t.node.th.thread,.int .i64 t.node.th.reg,.string (tx t.node.th.loc),.int .i64 t.node.val,.slice t.node.a t.node.kids.length t.node.c]
abbrev mkT(t:Tst):Obj:=.cells #[.int .i64 t.arch,.string (tx t.name),.string (tx t.cycle),.slice t.ia t.init.length t.ic,.slice t.ca t.code.length t.cc,.int .i64 t.q,.int .i64 t.node.kind,.int .i64 t.node.th.thread,.int .i64 t.node.th.reg,.string (tx t.node.th.loc),.int .i64 t.node.val,.slice t.node.a t.node.kids.length t.node.c] 32
structure BxT(w:World)(b:Nat)(t:Tst):Prop where
 lt:b<w.heap.size
 cl: ∀k,k<12->w.cell? ⟨b,k,none⟩=(cT t)[k]?
theorem BxT.new(w:World)(t:Tst):BxT (w.alloc (mkT t)) w.heap.size t:=
 ⟨(BxL.new w #[.int .i64 t.arch,.string (tx t.name),.string (tx t.cycle),.slice t.ia t.init.length t.ic,.slice t.ca t.code.length t.cc,.int .i64 t.q,.int .i64 t.node.kind,.int .i64 t.node.th.thread,.int .i64 t.node.th.reg,.string (tx t.node.th.loc),.int .i64 t.node.val,.slice t.node.a t.node.kids.length t.node.c] 32).1,fun k hk=>(BxL.new w _ _).2 k (by simpa using hk)⟩
theorem BxT.below{w w':World}{b:Nat}{t:Tst}(h:BxT w b t)(hb:Below w.heap.size w w'):BxT w' b t:=
 ⟨Nat.lt_of_lt_of_le h.lt hb.size,fun k hk=>by rw[hb.cell h.lt];exact h.cl k hk⟩
theorem BxT.cells{w:World}{b:Nat}{t:Tst}(h:BxT w b t):w.cell? ⟨b,0,none⟩=some (.int .i64 t.arch)/\w.cell? ⟨b,1,none⟩=some (.string (tx t.name))/\w.cell? ⟨b,2,none⟩=some (.string (tx t.cycle))/\w.cell? ⟨b,3,none⟩=some (.slice t.ia t.init.length t.ic)/\w.cell? ⟨b,4,none⟩=some (.slice t.ca t.code.length t.cc)/\w.cell? ⟨b,5,none⟩=some (.int .i64 t.q)/\w.cell? ⟨b,6,none⟩=some (.int .i64 t.node.kind)/\w.cell? ⟨b,7,none⟩=some (.int .i64 t.node.th.thread)/\w.cell? ⟨b,8,none⟩=some (.int .i64 t.node.th.reg)/\w.cell? ⟨b,9,none⟩=some (.string (tx t.node.th.loc))/\w.cell? ⟨b,10,none⟩=some (.int .i64 t.node.val)/\w.cell? ⟨b,11,none⟩=some (.slice t.node.a t.node.kids.length t.node.c):=
 ⟨h.cl 0 (by omega),h.cl 1 (by omega),h.cl 2 (by omega),h.cl 3 (by omega),h.cl 4 (by omega),h.cl 5 (by omega),h.cl 6 (by omega),h.cl 7 (by omega),h.cl 8 (by omega),h.cl 9 (by omega),h.cl 10 (by omega),h.cl 11 (by omega)⟩
structure CdIn(w:World)(x:Cd):Prop where
 is:Is w x.a x.l
 cap:x.l.length<=x.c
 locs: ∀i∈x.l,i.loc.length<=9223372036854775807/\i.label.length<=9223372036854775807
def I64(n:Int):Prop:= -9223372036854775808<=n/\n<=9223372036854775807
structure TsIn(w:World)(t:Tst):Prop where
 name:t.name.length<=9223372036854775807
 cycle:t.cycle.length<=9223372036854775807
 init:Els cIni w t.ia t.init
 icap:t.init.length<=t.ic
 locs: ∀x∈t.init,x.loc.length<=9223372036854775807/\x.vloc.length<=9223372036854775807
 wide: ∀x∈t.init,I64 x.thread/\I64 x.reg
 code:Els cCd w t.ca t.code
 ccap:t.code.length<=t.cc
 rows: ∀x∈t.code,CdIn w x
 node:NdIn w t.node
theorem CdIn.keep{w w':World}{x:Cd}(h:CdIn w x)(hb:Below w.heap.size w w'):CdIn w' x:=⟨h.is.below hb,h.cap,h.locs⟩
theorem TsIn.keep{w w':World}{t:Tst}(h:TsIn w t)(hb:Below w.heap.size w w'):TsIn w' t:=
 ⟨h.name,h.cycle,h.init.below hb,h.icap,h.locs,h.wide,h.code.below hb,h.ccap,fun x hx=>(h.rows x hx).keep hb,h.node.keep hb⟩
end Go.Proofs.YtkbbgjloifmmbaaGreatDoor
namespace Go.Proofs.YtkbbgjloifmmbaaGreatDoor
theorem indexByte_tw(c:UInt8): ∀l:Tx,(c∉l->Lib.indexByte l c= -1)/\(c∈l->Lib.indexByte l c=(l.takeWhile (· != c)).length)
 |[]=>⟨fun _=>rfl,fun h=>by cases h⟩
 | d::l=>by
   obtain⟨h1,h2⟩:=indexByte_tw c l
   by_cases e:d=c
   ·subst e
    exact⟨fun h=>absurd (by simp) h,fun _=>by simp[Lib.indexByte]⟩
   ·have e':(d==c)=false:=by simpa using e
    have e2:(d != c)=true:=by simpa using e
    refine⟨fun h=>?_,fun h=>?_⟩
    ·have:=h1 (fun m=>h (by simp[m]))
     rw[Lib.indexByte,e',this];rfl
    ·have hm:c∈l:=by rcases List.mem_cons.1 h with rfl|h;exact absurd rfl e;exact h
     have:=h2 hm;rw[Lib.indexByte,e',this,List.takeWhile_cons_of_pos (p:=fun x=>x != c) e2];simp
theorem restL_drop(r:Tx):restL r=r.drop ((r.takeWhile (· != 10)).length+1):=by
 unfold restL;rw[<-List.drop_drop]
 congr 1
 have: ∀l:Tx,l.drop (l.takeWhile (· != 10)).length=l.dropWhile (· != 10):=by
  intro l
  induction l with
  |nil=>rfl
  | cons c l ih=>
    by_cases e:c=10
    ·subst e;simp
    ·have e2:(c != 10)=true:=by simpa using e
     rw[List.takeWhile_cons_of_pos (p:=fun x=>x != 10) e2,List.dropWhile_cons_of_pos (p:=fun x=>x != 10) e2];exact ih
 exact(this r).symm
theorem dw_ten(r:Tx):r.dropWhile (· != 10)=[]\/r.dropWhile (· != 10)=10::restL r:=by
 unfold restL;cases h:r.dropWhile (· != 10)with
 |nil=>exact .inl rfl
 | cons c m=>
   have:=head_dropWhile (l:=r) (c:=c) (p:=(· != 10)) (by rw[h];rfl);have:c=10:=by simpa using this
   subst this;exact .inr rfl
theorem line_split(r:Tx):(sgnL (r.takeWhile (· != 10))=[]->sgnL (restL r)=sgnL r)/\
 (sgnL (r.takeWhile (· != 10))≠[]->sgnL r≠[]/\(sgnL r).takeWhile (· != 10)=sgnL (r.takeWhile (· != 10))/\restL (sgnL r)=restL r/\(sgnL r).length+((r.takeWhile (· != 10)).length-(sgnL (r.takeWhile (· != 10))).length)=r.length):=by
 have hr:r.takeWhile (· != 10)++r.dropWhile (· != 10)=r:=List.takeWhile_append_dropWhile
 have hn: ∀c∈sgnL (r.takeWhile (· != 10)),(c != 10)=true:=fun c hc=>by
  have:=(List.dropWhile_suffix _).subset hc;exact List.all_eq_true.1 (List.all_takeWhile (p:=(· != 10)) (l:=r)) c this
 have hd:=dw_ten r;generalize r.takeWhile (· != 10)=tw at*
 constructor
 ·intro h
  have hb: ∀c∈tw,blankC c=true:=dw_nil h
  conv=>rhs;rw[<-hr]
  unfold sgnL;rw[List.dropWhile_append_of_pos hb];rcases hd with e|e
  ·have:restL r=[]:=by unfold restL;rw[e];rfl
   rw[e,this]
  ·rw[e,List.dropWhile_cons_of_pos (by decide)]
 ·intro h
  have e1:sgnL r=sgnL tw++r.dropWhile (· != 10):=by
   conv=>lhs;rw[<-hr]
   unfold sgnL at h⊢;rw[List.dropWhile_append,if_neg (by simpa using h)]
  have e2:(sgnL r).takeWhile (· != 10)=sgnL tw:=by
   rw[e1,List.takeWhile_append_of_pos hn];rcases hd with e|e
   ·rw[e];simp
   ·rw[e];simp
  have e3:(sgnL r).dropWhile (· != 10)=r.dropWhile (· != 10):=by
   rw[e1,List.dropWhile_append_of_pos hn];rcases hd with e|e
   ·rw[e];rfl
   ·rw[e,List.dropWhile_cons_of_neg (by decide)]
  refine⟨by rw[e1];simp[h],e2,by unfold restL;rw[e3],?_⟩;have h1:=(List.dropWhile_suffix (l:=tw) blankC).length_le;have h2:=congrArg List.length hr;rw[e1];unfold sgnL at h1⊢;simp only[List.length_append]at h2⊢;omega
theorem tw_of_split(tw:Tx): ∃b,(∀c∈b,blankC c=true)/\tw=b++sgnL tw/\b.length=tw.length-(sgnL tw).length:=by
 refine⟨tw.takeWhile blankC,fun c hc=>List.all_eq_true.1 (List.all_takeWhile (p:=blankC) (l:=tw)) c hc,(List.takeWhile_append_dropWhile ..).symm,?_⟩;have:=congrArg List.length (List.takeWhile_append_dropWhile (p:=blankC) (l:=tw));unfold sgnL;rw[List.length_append]at this;omega
end Go.Proofs.YtkbbgjloifmmbaaGreatDoor
namespace Go.Proofs.YtkbbgjloifmmbaaGreatDoor
open Go.RowKit Go.Sort
abbrev rdF(s:Tx)(k:Nat)(t:Tst):List Value:=.string (tx s):: .int .i64 k::cT t
structure RdS(w1 w:World)(s:Tx)(k:Nat)(t:Tst):Prop where
 own:Own w w1.heap.size 68 14 (Option.some ⟨w1.heap.size,0,none⟩) 1 1 (rdF s k t)
 bel:Below w1.heap.size w1 w
 gl:Gl w1
 sl:s.length<=262144
 le:k<=s.length
section
variable {w1 w:World} {s:Tx} {k:Nat} {t:Tst}
theorem RdS.bx(h:RdS w1 w s k t):BxL w w1.heap.size (rdF s k t):=by
 refine⟨(Own.lt h.own (by simp)).2,fun j hj=>?_⟩;have:=(Own.row h.own).cell j hj;simpa using this
theorem RdS.frz(h:RdS w1 w s k t)(j:Nat):w.frozen? ⟨w1.heap.size,j,none⟩=false:=by
 have:=Own.frozen h.own (by simp) j;simpa using this
theorem RdS.below{w':World}(h:RdS w1 w s k t)(hb:Below w.heap.size w w'):RdS w1 w' s k t:=
 ⟨Own.below h.own hb,h.bel.trans (hb.mono h.bel.size),h.gl,h.sl,h.le⟩
theorem RdS.kept{w':World}{r:Option Nat}(h:RdS w1 w s k t)(hg:w.grownBy w' r)(hr: ∀b,r=Option.some b->w1.heap.size<b):RdS w1 w' s k t:=by
 refine⟨Own.kept h.own hg (.inr ?_),h.bel.grown hg h.bel.size (fun b hb=>Nat.le_of_lt (hr b hb)),h.gl,h.sl,h.le⟩;cases r with
 |none=>simp
 |some b=>have:=hr b rfl;simp;omega
theorem RdS.g(h:RdS w1 w s k t):Gl w:=h.gl.below h.bel
theorem RdS.lt(h:RdS w1 w s k t):w1.heap.size<w.heap.size:=(Own.lt h.own (by simp)).2
theorem RdS.put(h:RdS w1 w s k t)(j:Nat)(v:Value){k':Nat}{t':Tst}(e:(rdF s k t).set j v=rdF s k' t')(hk:k'<=s.length):RdS w1 (w.setCell ⟨w1.heap.size,j,none⟩ v) s k' t'/\St w (w.setCell ⟨w1.heap.size,j,none⟩ v) w1.heap.size:=by
 obtain⟨o,st⟩:=Own.set h.own (by simp) j v;simp only[bk_some,fo_some,Nat.zero_add]at o st;rw[e]at o;exact⟨⟨o,h.bel.setCell (Nat.le_refl _) _,h.gl,h.sl,hk⟩,st⟩
end
def PanS(er:Int)(k:Nat):Ending:=.panicked [{ v:=.iface 65 (.agg #[.int .i64 er,.int .i64 k]),recovered:=false }]
def PeekV(N:Nat)(r:Tx)(e:Ending):Prop:=
 (sgnL r=[]/\e= .returned (.tuple #[.string (tx []),.int .i64 N,.int .i64 N,.bool false]))\/
 ∃b,sgnL r≠[]/\(∀c∈b,blankC c=true)/\(10:UInt8)∉b/\(b.length<=plc N (sgnL r)/\b.length+(sgnL r).length<=r.length)/\e= .returned (.tuple #[.string (tx (b++(sgnL r).takeWhile (· != 10))),.int .i64 (plc N (sgnL r):Nat),.int .i64 (N-(restL (sgnL r)).length:Nat),.bool true])
end Go.Proofs.YtkbbgjloifmmbaaGreatDoor
