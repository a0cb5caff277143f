/- What ReadPiecesP leans on, part 26. -/
import Derived.Test.YtkbbgjloifmmbaaGreatDoorRp25
import Derived.Defers
import Derived.Recover
set_option linter.unusedVariables false
set_option maxRecDepth 100000
set_option maxHeartbeats 3200000
namespace Go.Proofs.YtkbbgjloifmmbaaGreatDoor
open Go.RowKit Go.Sort
section
variable {w0 w:World} {rb:Nat} {arch:Int} {s:Tx} {a:Option Addr} {c:Nat} {L:List Tok} {k m n:Nat}
theorem peek1{w:World}{B:Nat}(R:Rdr w B rb arch s a c L k):Calls Tryz.prog 236 #[.pointer (some ⟨rb,0,none⟩),.int .i64 1] w (RetQ w (.string (tx (headS (L.drop (k+1)))))):=condPeek R 1 (by omega)
theorem condNot_3(R:RdG w0 w rb arch s a c L k)(h1:headS (L.drop k)=[116,114,117,101])(h2:headS (L.drop (k+1))≠[61]):
 Calls Tryz.prog 332 #[.pointer (some ⟨rb,0,none⟩)] w (RetC w w0.heap.size rb arch s a c L (notR arch (n+1) (L.drop k)) (VN w.heap.size)):=by
 have R0:=R.below (al w zN0);have hk:=head_lt (L:=L) (k:=k) (by rw[h1];decide);have PK:=hid (fun(w:World) (R:Rdr w w0.heap.size rb arch s a c L k)=>peek0 R);unfold PeekC at PK;have PK1:=hid (fun(w:World) (R:Rdr w w0.heap.size rb arch s a c L k)=>peek1 R);rw[h1]at PK;rw[notR_3 h1 (by rw[List.tail_drop];exact h2),List.tail_drop];have hrb:=R.lo.2;have hrb0:=R.lo.1;have HT:=hid (show L≠[]->bk a<w.heap.size from fun h=>R.rd.toks.lt cTok_len (by omega) h);have hL:L.length<=262144:=R.rd.sm;have HSH:=hid R.sh;have z:((tx [116,114,117,101]).toList==[126])=false:=by rw[tx_toList];decide
 have z2:((tx [116,114,117,101]).toList==[40])=false:=by rw[tx_toList];decide
 have z3:((tx [116,114,117,101]).toList==[116,114,117,101])=true:=by rw[tx_toList];decide
 have z4:((tx (headS (L.drop (k+1)))).toList==[61])=false:=tx_ne _ _ h2;generalize tx [116,114,117,101]=u at*;generalize tx (headS (L.drop (k+1)))=v at*;have R0:=hid R0;have HK:=hid hk;clear R h1 h2;go_enter Tryz.func332,Tryz.ntmps332;go_wp2_with fail;refine(PK.out _ R0.out.rd).mono ?_;rintro e w1 ⟨rfl,q⟩;have R1:=hid (R0.out.below q.below');have S:=hid (step_below (bw:=rb) q.below');clear q;go_wp2_with fail;refine(PK.out _ R1.out.rd).mono ?_;rintro e w2 ⟨rfl,q⟩;have R2:=hid (R1.out.below q.below');have S:=hid (S.out.trans (step_below (bw:=rb) q.below'));clear q R1;go_wp2_with fail;refine(PK.out _ R2.out.rd).mono ?_;rintro e w3 ⟨rfl,q⟩;have R3:=hid (R2.out.below q.below');have S:=hid (S.out.trans (step_below (bw:=rb) q.below'));clear q R2;go_wp2_with fail;refine(PK1.out _ R3.out.rd).mono ?_;rintro e w4 ⟨rfl,q⟩;have R3:=hid (R3.out.below q.below');have S:=hid (S.out.trans (step_below (bw:=rb) q.below'));clear q;obtain⟨c0,c1,c2,c3,f3,lt⟩:=R3.out.rd.cells;obtain⟨R4,S4⟩:=R3.out.rd.next HK.out;have S5:=S.out.trans S4;have b8:=thing_cells S.out hrb;have fz:=fun j=>(frz_step S.out (b:=w.heap.size) (by simp) (by omega) j).trans (frz_new w _ _ j)
 have p0:=b8.get 0 _ rfl;have p1:=b8.get 1 _ rfl;have p2:=b8.get 2 _ rfl;have p3:=b8.get 3 _ rfl;have p4:=b8.get 4 _ rfl;have p5:=b8.get 5 _ rfl;have hne:w.heap.size≠rb:=by omega
 have G5:=hid (R3.out.st S4 R4);have S5:=hid S5;clear S4 R4 b8;go_wp2_with fail;exact bodyPost_ret (by simp[results,Tryz.results332,go_sem,p0,p1,p2,p3,p4,p5,Nd.kind,Nd.th,zTh,Nd.val,Nd.a,Nd.c,Nd.kids,tx_nil]) rfl (VN.fin G5.out S5.out (PutB.grown (by(repeat refine PutB.put ?_ _ _);exact PutB.refl _ _)) hrb HT.out (.mk 1 zTh 0 none 0 []) (NdW.leaf _ _ 1 zTh 0 (by decide)).1 (NdW.leaf w1 0 1 zTh 0 (by decide)).2 (by rw[bareN,bareL_nil];rfl) rfl)
theorem condNot_4(R:RdG w0 w rb arch s a c L k)(h1:headS (L.drop k)≠[126])(h2:headS (L.drop k)≠[40])(h3:headS (L.drop k)≠[116,114,117,101]\/headS (L.drop (k+1))=[61]):
 Calls Tryz.prog 332 #[.pointer (some ⟨rb,0,none⟩)] w (RetC w w0.heap.size rb arch s a c L (notR arch (n+1) (L.drop k)) (VN w.heap.size)):=by
 have R0:=R.below (al w zN0);have PK:=hid (fun(w:World) (R:Rdr w w0.heap.size rb arch s a c L k)=>peek0 R);unfold PeekC at PK;have PK1:=hid (fun(w:World) (R:Rdr w w0.heap.size rb arch s a c L k)=>peek1 R);rw[notR_4 h1 h2 (by rw[List.tail_drop];exact h3)];have hrb:=R.lo.2;have hrb0:=R.lo.1;have HT:=hid (show L≠[]->bk a<w.heap.size from fun h=>R.rd.toks.lt cTok_len (by omega) h);have hL:L.length<=262144:=R.rd.sm;have HSH:=hid R.sh;have z:((tx (headS (L.drop k))).toList==[126])=false:=tx_ne _ _ h1;have z2:((tx (headS (L.drop k))).toList==[40])=false:=tx_ne _ _ h2
 have HB:=hid (show((tx (headS (L.drop k))).toList==[116,114,117,101])=false\/(((tx (headS (L.drop k))).toList==[116,114,117,101])=true/\headS (L.drop (k+1))=[61]) by
  by_cases h:headS (L.drop k)=[116,114,117,101]
  ·exact .inr ⟨by rw[tx_toList,h];decide,h3.resolve_left (fun g=>g h)⟩
  ·exact .inl (tx_ne _ _ h))
 have TH:=hid (fun(w:World) (R:RdG w0 w rb arch s a c L k)=>readThing R.rd R.sh R.gl);have TK:=hid (fun(w:World) (k':Nat) (R:Rdr w w0.heap.size rb arch s a c L k')=>condTake R [61] (by decide));have IC:=hid (fun(w:World) (k':Nat) (R:RdG w0 w rb arch s a c L k')=>condInt R.rd R.sh (-2147483648) 2147483647 (by decide) (by decide) R.gl);generalize tx (headS (L.drop k))=u at*;have R0:=hid R0;obtain⟨Z,hZ⟩: ∃Z,atomR arch (L.drop k)=Z:=⟨_,rfl⟩;rw[hZ];have HZ:=hid hZ;clear R h1 h2 h3 hZ;go_enter Tryz.func332,Tryz.ntmps332;go_wp2_with fail;refine(PK.out _ R0.out.rd).mono ?_;rintro e w1 ⟨rfl,q⟩;have R1:=hid (R0.out.below q.below');have S:=hid (step_below (bw:=rb) q.below');clear q;go_wp2_with fail;refine(PK.out _ R1.out.rd).mono ?_;rintro e w2 ⟨rfl,q⟩;have R2:=hid (R1.out.below q.below');have S:=hid (S.out.trans (step_below (bw:=rb) q.below'));clear q R1;go_wp2_with fail;refine(PK.out _ R2.out.rd).mono ?_;rintro e w3 ⟨rfl,q⟩;have R3:=hid (R2.out.below q.below');have S:=hid (S.out.trans (step_below (bw:=rb) q.below'));clear q R2;rcases HB.out with z3|⟨z3,h4⟩
 all_goals clear HB
 rotate_left
 rw[h4]at PK1;have z4:((tx [61]).toList==[61])=true:=by rw[tx_toList];decide
 generalize tx [61]=v at PK1 z4;clear h4;go_wp2_with fail;refine(PK1.out _ R3.out.rd).mono ?_;rintro e w4 ⟨rfl,q⟩;have R3:=hid (R3.out.below q.below');have S:=hid (S.out.trans (step_below (bw:=rb) q.below'));clear q
 all_goals
  have TH:=hid (TH.out _ R3.out);go_wp2_with fail;refine TH.out.mono ?_;rintro e w5 h;rcases hth:thingR arch (L.drop k)with er|⟨t,r⟩
  ·have HTH:=hid hth
   have HZ:=HZ.out;simp only[atomR,hth]at HZ;subst HZ;obtain⟨rfl,S5⟩:=h.err (show _=Except.error er by rw[HTH.out]);unfold PanC;go_wp2_with fail;exact⟨rfl,(St.new (St.refl w rb) zN0).trans (S.out.trans S5),.inl ⟨_,rfl,rfl⟩⟩
  have HTH:=hid hth;clear hth;obtain⟨k1,rfl,⟨rfl,hx⟩,R5,S5⟩:=h.okay (show _=Except.ok (t,r) by rw[HTH.out]);have HX:=hid hx;have R5:=hid ((R3.out.st S5 R5).below (al w5 (mkN (.mk 2 t 0 none 0 []))));have hs5:=S5.grown.size;have hs5':=S.out.grown.size;have hlt5:rb<w5.heap.size:=by simp at hs5';omega
  have hne5:w5.heap.size≠rb:=by omega
  have S:=hid (S.out.trans S5);have hS5:=S.out.grown.size;have TC:=hid (TK.out _ k1 R5.out.rd);clear h hx R3 S5;go_wp2_with fail;refine TC.out.mono ?_;rintro e w6 h;rcases htk:takeR [61] (L.drop k1)with er|r2
  ·have HTK:=hid htk
   have HZ:=HZ.out;simp only[atomR,HTH.out,htk]at HZ;subst HZ;obtain⟨rfl,S6⟩:=h.err (show _=Except.error er by rw[HTK.out];rfl);unfold PanC;go_wp2_with fail;exact⟨rfl,(St.new (St.refl w rb) zN0).trans ((St.new S.out (mkN (.mk 2 t 0 none 0 []))).trans S6),.inl ⟨_,rfl,rfl⟩⟩
  have HTK:=hid htk;clear htk;obtain⟨k2,rfl,hv,R6,S6⟩:=h.okay (show _=Except.ok ((),r2) by rw[HTK.out];rfl);unfold VU at hv;subst hv;have R6:=hid (R5.out.st S6 R6);have IT:=hid (IC.out _ k2 R6.out);have S6:=hid S6;clear h R5;go_wp2_with fail;refine IT.out.mono ?_;rintro e w7 h;rcases hin:intR (-2147483648) 2147483647 (L.drop k2)with er|⟨v',r3⟩
  ·have HIN:=hid hin
   have HZ:=HZ.out;simp only[atomR,HTH.out,HTK.out,hin]at HZ;subst HZ;obtain⟨rfl,S7⟩:=h.err (show _=Except.error er by rw[HIN.out]);unfold PanC;go_wp2_with fail;exact⟨rfl,(St.new (St.refl w rb) zN0).trans ((St.new S.out (mkN (.mk 2 t 0 none 0 []))).trans (S6.out.trans S7)),.inl ⟨_,rfl,rfl⟩⟩
  have HIN:=hid hin;have HZ:=HZ.out;simp only[atomR,HTH.out,HTK.out,hin]at HZ;subst HZ;clear hin;obtain⟨k3,rfl,hv,R7,S7⟩:=h.okay (show _=Except.ok (v',r3) by rw[HIN.out]);unfold VI at hv;subst hv;have b4:=thing_cells (S6.out.trans S7) hlt5;have S8:=(St.new S.out (mkN (.mk 2 t 0 none 0 []))).trans (S6.out.trans S7);have b8:=thing_cells S8 hrb;have hs7:=(S6.out.trans S7).grown.size;have fz:=fun j=>(frz_step S8 (b:=w.heap.size) (by simp) (by omega) j).trans (frz_new w _ _ j)
  have fy:=fun j=>(frz_step (S6.out.trans S7) (b:=w5.heap.size) (by simp) (by omega) j).trans (frz_new w5 _ _ j)
  have p0:=b8.get 0 _ rfl;have p1:=b8.get 1 _ rfl;have p2:=b8.get 2 _ rfl;have p3:=b8.get 3 _ rfl;have p4:=b8.get 4 _ rfl;have p5:=b8.get 5 _ rfl;have q0:=b4.get 0 _ rfl;have q1:=b4.get 1 _ rfl;have q2:=b4.get 2 _ rfl;have q3:=b4.get 3 _ rfl;have q4:=b4.get 4 _ rfl;have q5:=b4.get 5 _ rfl;have hlt8:w.heap.size<w5.heap.size:=by simp at hS5;omega
  have hne8:w5.heap.size≠w.heap.size:=by omega
  have hlt7:w5.heap.size<w7.heap.size:=by simp at hs7;omega
  have R7:=hid (R6.out.st S7 R7);have S8:=hid S8;clear h b4 b8 S7 R6;go_wp2_with fail;exact bodyPost_ret (by simp[results,Tryz.results332,go_sem,p0,p1,p2,p3,p4,p5,Nd.kind,Nd.th,Nd.val,Nd.a,Nd.c,Nd.kids]) rfl (VN.fin (R7.out.grew (grown_put (grown_refl _ _) 4 _) hne5 (fun h=>by have:=HT.out h;omega) (by omega)) (St.put S8.out (b:=w5.heap.size) (by simp;omega) 4 _) (PutB.grown (by(repeat refine PutB.put ?_ _ _);exact PutB.refl _ _)) hrb HT.out (.mk 2 t v' none 0 []) (NdW.leaf _ _ 2 t v' HX.out).1 (NdW.leaf w1 0 2 t v' HX.out).2 (by rw[bareN,bareL_nil]) rfl)
theorem condNots(H:OneC 332 w0 rb arch s a c L m (notR arch n))(R:RdG w0 w rb arch s a c L k)(hm:(L.drop k).length<=m+1):Calls Tryz.prog 332 #[.pointer (some ⟨rb,0,none⟩)] w (RetC w w0.heap.size rb arch s a c L (notR arch (n+1) (L.drop k)) (VN w.heap.size)):=by
 by_cases h1:headS (L.drop k)=[126]
 ·exact condNot_1 R hm H h1
 ·by_cases h2:headS (L.drop k)=[40]
  ·exact condNot_2 R hm H h2
  ·by_cases h3:headS (L.drop k)=[116,114,117,101]
   ·by_cases h4:headS (L.drop (k+1))=[61]
    ·exact condNot_4 R h1 h2 (.inr h4)
    ·exact condNot_3 R h3 h4
   ·exact condNot_4 R h1 h2 (.inl h3)
theorem condNot_nil(R:RdG w0 w rb arch s a c L k)(hm:(L.drop k).length=0):Calls Tryz.prog 332 #[.pointer (some ⟨rb,0,none⟩)] w (RetC w w0.heap.size rb arch s a c L (notR arch (n+1) (L.drop k)) (VN w.heap.size)):=by
 have h:headS (L.drop k)=[]:=by rw[List.eq_nil_of_length_eq_zero hm];rfl
 exact condNot_4 R (by rw[h];decide) (by rw[h];decide) (.inl (by rw[h];decide))
theorem condNot(n:Nat):OneC 332 w0 rb arch s a c L n (notR arch (n+1)):=by
 induction n with
 |zero=>intro w k R hm;exact condNot_nil R (by omega)
 |succ n ih=>intro w k R hm;exact condNots ih R hm
theorem readNode(R:RdG w0 w rb arch s a c L k):Calls Tryz.prog 238 #[.pointer (some ⟨rb,0,none⟩)] w (RetC w w0.heap.size rb arch s a c L (orR (notR arch ((L.drop k).length+1)) (L.drop k)) (VN w.heap.size)):=
 condOrs R (Nat.le_refl _) (condNot _)
end
def condTail(arch q:Int)(l:List Tok):PR (Int × Nd):=match takeR [40] l with
 | .error e=>.error e
 | .ok l=>match orR (notR arch (l.length+1)) l with
   | .error e=>.error e
   | .ok (x,l)=>match takeR [41] l with
     | .error e=>.error e
     | .ok l=>if l=[]then .ok ((q,x),[])else .error l
def condR'(arch:Int)(l:List Tok):PR (Int × Nd):=match condR arch l with
 | .error e=>.error e
 | .ok p=>.ok (p,[])
theorem condR'_eq(arch:Int)(l:List Tok):condR' arch l=match condHead l with
 | .error e=>.error e
 | .ok (q,l)=>condTail arch q l:=by
 unfold condR' condR condTail;cases condHead l with
 |error e=>rfl
 | ok p=>
   obtain⟨q,r⟩:=p;simp only;cases takeR [40] r with
   |error e=>rfl
   | ok r=>
     simp only;cases orR (notR arch (r.length+1)) r with
     |error e=>rfl
     | ok p=>
       obtain⟨x,r⟩:=p;simp only;cases takeR [41] r with
       |error e=>rfl
       | ok r=>
         simp only
         by_cases hr:r=[]
         ·rw[if_pos hr,if_pos hr]
         ·rw[if_neg hr,if_neg hr]
theorem condR'_1{arch:Int}{l:List Tok}(h:headS l=[102,111,114,97,108,108]):condR' arch l=condTail arch 3 l.tail:=by
 rw[condR'_eq,condHead,if_pos h]
theorem condR'_2{arch:Int}{l:List Tok}(h:headS l=[126]):condR' arch l=match takeR [101,120,105,115,116,115] l.tail with
 | .error e=>.error e
 | .ok r=>condTail arch 2 r:=by
 rw[condR'_eq,condHead,if_neg (by rw[h];decide),if_pos h];cases takeR [101,120,105,115,116,115] l.tail<;>rfl
theorem condR'_3{arch:Int}{l:List Tok}(h:headS l≠[102,111,114,97,108,108])(h2:headS l≠[126]):condR' arch l=match takeR [101,120,105,115,116,115] l with
 | .error e=>.error e
 | .ok r=>condTail arch 1 r:=by
 rw[condR'_eq,condHead,if_neg h,if_neg h2];cases takeR [101,120,105,115,116,115] l<;>rfl
theorem condTail_1{arch q:Int}{l e:List Tok}(h:takeR [40] l= .error e):condTail arch q l= .error e:=by unfold condTail;rw[h]
theorem condTail_2{arch q:Int}{l e:List Tok}{l1:List Tok}(h:takeR [40] l= .ok l1)(h2:orR (notR arch (l1.length+1)) l1= .error e):condTail arch q l= .error e:=by unfold condTail;rw[h];simp only;rw[h2]
theorem condTail_3{arch q:Int}{l e:List Tok}{l1 l2:List Tok}{x:Nd}(h:takeR [40] l= .ok l1)(h2:orR (notR arch (l1.length+1)) l1= .ok (x,l2))(h3:takeR [41] l2= .error e):condTail arch q l= .error e:=by unfold condTail;rw[h];simp only;rw[h2];simp only;rw[h3]
theorem condTail_4{arch q:Int}{l:List Tok}{l1 l2 l3:List Tok}{x:Nd}(h:takeR [40] l= .ok l1)(h2:orR (notR arch (l1.length+1)) l1= .ok (x,l2))(h3:takeR [41] l2= .ok l3)(h4:l3≠[]):condTail arch q l= .error l3:=by unfold condTail;rw[h];simp only;rw[h2];simp only;rw[h3];simp only;rw[if_neg h4]
theorem condTail_5{arch q:Int}{l:List Tok}{l1 l2 l3:List Tok}{x:Nd}(h:takeR [40] l= .ok l1)(h2:orR (notR arch (l1.length+1)) l1= .ok (x,l2))(h3:takeR [41] l2= .ok l3)(h4:l3=[]):condTail arch q l= .ok ((q,x),[]):=by unfold condTail;rw[h];simp only;rw[h2];simp only;rw[h3];simp only;rw[if_pos h4]
theorem PutB.drew{w w':World}{b:Nat}(h:PutB w w' b):PutB w w'.drew b:=⟨⟨h.grown.os,h.grown.tape,h.grown.output,h.grown.size,h.grown.block⟩,h.size⟩
abbrev zC(q:Int):Obj:=.cells #[.int .i64 q,.int .i64 0,.int .i64 0,.int .i64 0,.string ⟨#[]⟩,.int .i64 0,.slice none 0 0] 30
structure Cdr(w0 w wx:World)(rb:Nat)(arch:Int)(s:Tx)(a:Option Addr)(c:Nat)(L:List Tok)(k:Nat)(l:List Value):Prop where
 rd:RdG w0 wx rb arch s a c L k
 st:St (w.alloc (zC 0)) wx rb
 bx:BxL wx (w.heap.size+1) l
 fz: ∀j,wx.frozen? ⟨w.heap.size+1,j,none⟩=false
 hr:rb<w.heap.size
 ht:L≠[]->bk a<w.heap.size
section
variable {w0 w wx wy:World} {rb:Nat} {arch:Int} {s:Tx} {a:Option Addr} {c:Nat} {L:List Tok} {k k':Nat} {l:List Value}
theorem Cdr.new(R:RdG w0 w rb arch s a c L k):Cdr w0 w ((w.alloc (zC 0)).alloc (zC 1)) rb arch s a c L k [.int .i64 1,.int .i64 0,.int .i64 0,.int .i64 0,.string ⟨#[]⟩,.int .i64 0,.slice none 0 0]:=by
 refine⟨(R.below (al w (zC 0))).below (al _ (zC 1)),St.new (St.refl _ _) _,?_,fun j=>?_,R.lo.2,fun h=>R.rd.toks.lt cTok_len (by omega) h⟩
 ·have:=BxL.new (w.alloc (zC 0)) #[.int .i64 1,.int .i64 0,.int .i64 0,.int .i64 0,.string ⟨#[]⟩,.int .i64 0,.slice none 0 0] 30
  simpa using this
 ·have:=frz_new (w.alloc (zC 0)) #[.int .i64 1,.int .i64 0,.int .i64 0,.int .i64 0,.string ⟨#[]⟩,.int .i64 0,.slice none 0 0] 30 j
  rw[alloc_size]at this;exact this
theorem Cdr.step(h:Cdr w0 w wx rb arch s a c L k l)(hs:St wx wy rb)(hr:Rdr wy w0.heap.size rb arch s a c L k'):Cdr w0 w wy rb arch s a c L k' l:=by
 have:=h.hr;have hlt:=h.bx.1;exact⟨h.rd.st hs hr,h.st.trans hs,h.bx.step hs (by omega),fun j=>(frz_step hs hlt (by omega) j).trans (h.fz j),h.hr,h.ht⟩
theorem Cdr.below(h:Cdr w0 w wx rb arch s a c L k l)(hb:Below wx.heap.size wx wy):Cdr w0 w wy rb arch s a c L k l:=
 h.step (step_below hb) (h.rd.below hb).rd
theorem Cdr.next(h:Cdr w0 w wx rb arch s a c L k l)(hk:k<L.length):Cdr w0 w (wx.setCell ⟨rb,3,none⟩ (.int .i64 ((k:Int)+1))) rb arch s a c L (k+1) l:=by
 obtain⟨R2,S2⟩:=h.rd.rd.next hk;exact h.step S2 R2
theorem Cdr.set(h:Cdr w0 w wx rb arch s a c L k l)(j:Nat)(v:Value):Cdr w0 w (wx.setCell ⟨w.heap.size+1,j,none⟩ v) rb arch s a c L k (l.set j v):=by
 have h1:=h.hr;have h0:=h.rd.lo.1;exact⟨h.rd.grew (grown_put (grown_refl _ _) j v) (by omega) (fun e=>by have:=h.ht e;omega) (by omega),St.put h.st (by simp) j v,h.bx.set j v,fun i=>by rw[frz_set];exact h.fz i,h.hr,h.ht⟩
end
def VCd(B:Nat)(x:Int × Nd)(e:Ending)(w:World):Prop:= ∃y,bareN y=x.2/\e= .returned (vC x.1 y)/\NdW w B y/\(blkN y).Nodup
theorem Cdr.fin{w0 w wx w2:World}{rb:Nat}{arch:Int}{s:Tx}{a:Option Addr}{c:Nat}{L:List Tok}{k:Nat}{l:List Value}{e:Ending}{q:Int}{x y:Nd}(hC:Cdr w0 w wx rb arch s a c L k l)(hg:wx.grownBy w2 (Option.some w.heap.size))(hN:NdW wx (w.heap.size+2) y)(hn:(blkN y).Nodup)(hy:bareN y=x)(hk:L.drop k=[])(he:e= .returned (vC q y)):RetC w w0.heap.size rb arch s a c L (.ok ((q,x),[])) (VCd w.heap.size) e w2:=by
 have h0:=hC.rd.lo.1;have h2:=hC.hr;have h1:=hC.rd.grew hg (by omega) (fun h=>by have:=hC.ht h;omega) (by omega);have hs:=(St.new (St.refl w rb) (zC 0)).trans hC.st;refine⟨⟨⟨hg.os.trans hs.grown.os,hg.tape.trans hs.grown.tape,hg.output.trans hs.grown.output,Nat.le_trans hs.grown.size hg.size,fun j hj hne=>?_⟩,.inl rfl⟩,.inr ⟨_,k,by rw[hk],⟨y,hy,he,?_,hn⟩,h1.rd⟩⟩
 ·rw[hg.block j (Nat.lt_of_lt_of_le hj hs.grown.size) (by simp;omega)]
  exact hs.grown.block j hj hne
 ·refine(hN.mono (B':=w.heap.size) (by omega)).kept hg fun b hb e=>?_
  have:=(hN.lt b hb).1;simp at e;omega
def condX(arch q:Int)(l:List Tok):PR (Int × Nd):=match takeR [101,120,105,115,116,115] l with
 | .error e=>.error e
 | .ok r=>condTail arch q r
theorem condX_1{arch q:Int}{l e:List Tok}(h:takeR [101,120,105,115,116,115] l= .error e):condX arch q l= .error e:=by unfold condX;rw[h]
theorem condX_2{arch q:Int}{l r:List Tok}(h:takeR [101,120,105,115,116,115] l= .ok r):condX arch q l=condTail arch q r:=by unfold condX;rw[h]
section
variable {w0 w:World} {rb:Nat} {arch:Int} {s:Tx} {a:Option Addr} {c:Nat} {L:List Tok} {k:Nat}
theorem readCond(R:RdG w0 w rb arch s a c L k):
 Calls Tryz.prog 158 #[.pointer (some ⟨rb,0,none⟩)] w (RetC w w0.heap.size rb arch s a c L (condR' arch (L.drop k)) (VCd w.heap.size)):=by
 have C0:=hid (Cdr.new R);have PK:=hid (peek0 C0.out.rd.rd);unfold PeekC at PK;have hrb:=R.lo.2;have hrb0:=R.lo.1;have hne:w.heap.size+1≠rb:=by omega
 have hne2:rb≠w.heap.size+1:=by omega
 have hL:L.length<=262144:=R.rd.sm;have TE:=hid (fun(w:World) (k':Nat) (R:Rdr w w0.heap.size rb arch s a c L k')=>condTake R [101,120,105,115,116,115] (by decide));have T40:=hid (fun(w:World) (k':Nat) (R:Rdr w w0.heap.size rb arch s a c L k')=>condTake R [40] (by decide));have T41:=hid (fun(w:World) (k':Nat) (R:Rdr w w0.heap.size rb arch s a c L k')=>condTake R [41] (by decide));have ND:=hid (fun(w:World) (k':Nat) (R:RdG w0 w rb arch s a c L k')=>readNode R);have FL:=hid (fun(w:World) (k':Nat) (R:Rdr w w0.heap.size rb arch s a c L k')=>condFail R);obtain⟨Z,hZ⟩: ∃Z,condR' arch (L.drop k)=Z:=⟨_,rfl⟩;rw[hZ];obtain⟨u,hu⟩: ∃u,headS (L.drop k)=u:=⟨_,rfl⟩;rw[hu]at PK;clear R
 have HC:Hid ((u=[102,111,114,97,108,108]/\k<L.length/\condTail arch 3 (L.drop (k+1))=Z)\/(u=[126]/\k<L.length/\condX arch 2 (L.drop (k+1))=Z)\/(u≠[102,111,114,97,108,108]/\u≠[126]/\condX arch 1 (L.drop k)=Z)):=hid (by
  by_cases h1:u=[102,111,114,97,108,108]
  ·refine .inl ⟨h1,head_lt (L:=L) (k:=k) (by rw[hu,h1];decide),?_⟩
   rw[<-hZ,condR'_1 (hu.trans h1),List.tail_drop]
  ·by_cases h2:u=[126]
   ·refine .inr (.inl ⟨h2,head_lt (L:=L) (k:=k) (by rw[hu,h2];decide),?_⟩)
    rw[<-hZ,condR'_2 (hu.trans h2),List.tail_drop];rfl
   ·refine .inr (.inr ⟨h1,h2,?_⟩)
    rw[<-hZ,condR'_3 (by rw[hu];exact h1) (by rw[hu];exact h2)];rfl)
 clear hZ hu;rcases HC.out with⟨h1,h2,h3⟩|⟨h1,h2,h3⟩|⟨h1,h2,h3⟩
 all_goals
  have HZ:=hid h3;clear h3 HC
 rotate_left
 iterate 2
  first
   | have z1:((tx u).toList==[102,111,114,97,108,108])=false:=by rw[tx_toList,h1];decide
     have z2:((tx u).toList==[126])=true:=by rw[tx_toList,h1];decide
     have HK:=hid h2;generalize tx u=v at*;clear h1
   | have z1:((tx u).toList==[102,111,114,97,108,108])=false:=tx_ne _ _ h1
     have z2:((tx u).toList==[126])=false:=tx_ne _ _ h2;generalize tx u=v at*;clear h1 h2
  go_enter Tryz.func158,Tryz.ntmps158;go_wp2_with fail;refine PK.out.mono ?_;rintro e w1 ⟨rfl,q⟩;have C:=C0.out.below q.below';clear q
  first
   | have HK2:=HK.out
     obtain⟨c0,c1,c2,c3,f3,lt⟩:=C.rd.rd.cells;have d0:=C.bx.get 0 _ rfl;have e0:=C.fz 0;replace C:=hid ((C.set 0 (.int .i64 2)).next HK2)
   |replace C:=hid C
  have TX:=hid (TE.out _ _ C.out.rd.rd);generalize L.drop _=m0 at HZ TX;rcases h0:takeR [101,120,105,115,116,115] m0 with er|l0
  ·obtain rfl:=HZ.out.symm.trans (condX_1 h0)
   have HX:=hid h0;clear h0;go_wp2_with fail;refine TX.out.mono ?_;rintro e wa h;obtain⟨rfl,S9⟩:=h.err (show _=Except.error er by rw[HX.out];rfl);unfold PanC;go_wp2_with fail;exact⟨rfl,(St.new (St.refl w rb) (zC 0)).trans (C.out.st.trans S9),.inl ⟨_,rfl,rfl⟩⟩
  replace HZ:=hid ((condX_2 h0).symm.trans HZ.out);have HXl0:=hid h0;clear h0;go_wp2_with fail;refine TX.out.mono ?_;rintro e wh h;obtain⟨kh,rfl,hv,R9,S9⟩:=h.okay (show _=Except.ok ((),l0) by rw[HXl0.out];rfl);unfold VU at hv;subst hv;have C:=hid (C.out.step S9 R9);clear h TX R9 S9
  rotate_left
 have z1:((tx u).toList==[102,111,114,97,108,108])=true:=by rw[tx_toList,h1];decide
 have HK:=hid h2;generalize tx u=v at*;clear h1;go_enter Tryz.func158,Tryz.ntmps158;go_wp2_with fail;refine PK.out.mono ?_;rintro e w1 ⟨rfl,q⟩;have C:=C0.out.below q.below';clear q;obtain⟨c0,c1,c2,c3,f3,lt⟩:=C.rd.rd.cells;have d0:=C.bx.get 0 _ rfl;have e0:=C.fz 0;replace C:=hid ((C.set 0 (.int .i64 3)).next HK.out)
 all_goals
  have TX:=hid (T40.out _ _ C.out.rd.rd);generalize L.drop _=l0 at HZ TX;rcases h1:takeR [40] l0 with er|r1
  ·obtain rfl:=HZ.out.symm.trans (condTail_1 h1)
   have HX:=hid h1;clear h1;go_wp2_with fail;refine TX.out.mono ?_;rintro e wa h;obtain⟨rfl,S9⟩:=h.err (show _=Except.error er by rw[HX.out];rfl);unfold PanC;go_wp2_with fail;exact⟨rfl,(St.new (St.refl w rb) (zC 0)).trans (C.out.st.trans S9),.inl ⟨_,rfl,rfl⟩⟩
  have HXr1:=hid h1;clear h1;go_wp2_with fail;refine TX.out.mono ?_;rintro e wa h;obtain⟨k2,rfl,hv,R9,S9⟩:=h.okay (show _=Except.ok ((),r1) by rw[HXr1.out];rfl);unfold VU at hv;subst hv;have C:=hid (C.out.step S9 R9);clear h TX R9 S9;have TX:=hid (ND.out _ _ C.out.rd);rcases h2:orR (notR arch ((L.drop k2).length+1)) (L.drop k2)with er|⟨x,r2⟩
  ·obtain rfl:=HZ.out.symm.trans (condTail_2 HXr1.out h2)
   have HX:=hid h2;clear h2;go_wp2_with fail;refine TX.out.mono ?_;rintro e wb h;obtain⟨rfl,S9⟩:=h.err (show _=Except.error er by rw[HX.out]);unfold PanC;go_wp2_with fail;exact⟨rfl,(St.new (St.refl w rb) (zC 0)).trans (C.out.st.trans S9),.inl ⟨_,rfl,rfl⟩⟩
  have HXx:=hid h2;clear h2;have lo4:=C.out.rd.lo.2;have c_sz:=C.out.bx.1;go_wp2_with fail;refine TX.out.mono ?_;rintro e wb h;obtain⟨k3,rfl,⟨y,hy,rfl,hyo,hyn⟩,R9,S9⟩:=h.okay (show _=Except.ok (x,r2) by rw[HXx.out]);have C:=C.out.step S9 R9;have d1:=C.bx.get 1 _ rfl;have d2:=C.bx.get 2 _ rfl;have d3:=C.bx.get 3 _ rfl;have d4:=C.bx.get 4 _ rfl;have d5:=C.bx.get 5 _ rfl;have d6:=C.bx.get 6 _ rfl;have e1:=C.fz;have hyo:=hid (hyo.mono (B':=w.heap.size+2) (by omega));have C:=hid ((((((C.set 1 (.int .i64 y.kind)).set 2 (.int .i64 y.th.thread)).set 3 (.int .i64 y.th.reg)).set 4 (.string (tx y.th.loc))).set 5 (.int .i64 y.val)).set 6 (.slice y.a y.kids.length y.c));have hyo2:=hid (hyo.out.kept (w':=((((((wb.setCell ⟨w.heap.size+1,1,none⟩ (.int .i64 y.kind)).setCell ⟨w.heap.size+1,2,none⟩ (.int .i64 y.th.thread)).setCell ⟨w.heap.size+1,3,none⟩ (.int .i64 y.th.reg)).setCell ⟨w.heap.size+1,4,none⟩ (.string (tx y.th.loc))).setCell ⟨w.heap.size+1,5,none⟩ (.int .i64 y.val)).setCell ⟨w.heap.size+1,6,none⟩ (.slice y.a y.kids.length y.c))) (PutB.grown (b:=w.heap.size+1) (by(repeat refine PutB.put ?_ _ _);exact PutB.refl _ _)) (fun b hb e=>by have:=(hyo.out.lt b hb).1;simp at e;omega));clear h TX R9 S9;have TX:=hid (T41.out _ _ C.out.rd.rd);rcases h3:takeR [41] (L.drop k3)with er|r3
  ·obtain rfl:=HZ.out.symm.trans (condTail_3 HXr1.out HXx.out h3)
   have HX:=hid h3;clear h3;go_wp2_with fail;refine TX.out.mono ?_;rintro e wc h;obtain⟨rfl,S9⟩:=h.err (show _=Except.error er by rw[HX.out];rfl);unfold PanC;go_wp2_with fail;exact⟨rfl,(St.new (St.refl w rb) (zC 0)).trans (C.out.st.trans S9),.inl ⟨_,rfl,rfl⟩⟩
  have HXr3:=hid h3;clear h3;go_wp2_with fail;refine TX.out.mono ?_;rintro e wc h;obtain⟨k4,rfl,hv,R9,S9⟩:=h.okay (show _=Except.ok ((),r3) by rw[HXr3.out];rfl);unfold VU at hv;subst hv;have hyo:=hid (hyo2.out.st S9 (by omega));have C:=hid (C.out.step S9 R9);clear h TX R9 S9 hyo2;obtain⟨c0,c1,c2,c3,f3,lt⟩:=C.out.rd.rd.cells;have hk4:=C.out.rd.rd.le
  by_cases hnil:L.drop k4=[]
  ·obtain rfl:=HZ.out.symm.trans (condTail_5 HXr1.out HXx.out HXr3.out hnil)
   have z9:decide ((k4:Int)<(L.length:Int))=false:=by
    have:L.length<=k4:=by have:=congrArg List.length hnil;simp at this;omega
    simp;omega
   have z8:decide (k4<L.length)=false:=by simpa using z9
   have b8:=thing_cells C.out.st hrb;have bx:=C.out.bx;have fz:=fun j=>(frz_step C.out.st (b:=w.heap.size) (by simp) (by omega) j).trans (frz_new w _ _ j)
   have p0:=b8.get 0 _ rfl;have p1:=b8.get 1 _ rfl;have p2:=b8.get 2 _ rfl;have p3:=b8.get 3 _ rfl;have p4:=b8.get 4 _ rfl;have p5:=b8.get 5 _ rfl;have p6:=b8.get 6 _ rfl;have q0:=bx.get 0 _ rfl;have q1:=bx.get 1 _ rfl;have q2:=bx.get 2 _ rfl;have q3:=bx.get 3 _ rfl;have q4:=bx.get 4 _ rfl;have q5:=bx.get 5 _ rfl;have q6:=bx.get 6 _ rfl;clear b8 bx;go_wp2_with fail
   go_big_region
   all_goals go_wp2_with fail
   all_goals exact bodyPost_ret (by simp[results,Tryz.results158,go_sem,p0,p1,p2,p3,p4,p5,p6]) rfl (C.out.fin (PutB.grown (by(repeat first|with_reducible refine PutB.put ?_ _ _|with_reducible refine PutB.drew ?_);exact PutB.refl _ _)) hyo.out hyn hy hnil rfl)
  ·obtain rfl:=HZ.out.symm.trans (condTail_4 HXr1.out HXx.out HXr3.out hnil)
   have z9:decide ((k4:Int)<(L.length:Int))=true:=by
    have:k4<L.length:=by rcases Nat.lt_or_ge k4 L.length with h|h;exact h;exact absurd (List.drop_eq_nil_of_le h) hnil
    simp;omega
   have z8:decide (k4<L.length)=true:=by simpa using z9
   go_wp2_with fail
   go_big_region
   all_goals go_wp2_with fail
   all_goals
    first|refine(FL.out wc.drew k4 (C.out.rd.rd.below (below_drewN wc 1))).mono ?_|refine(FL.out wc k4 C.out.rd.rd).mono ?_
    rintro e wd ⟨rfl,q⟩;unfold PanC;go_wp2_with fail;exact⟨rfl,(St.new (St.refl w rb) (zC 0)).trans (C.out.st.trans (by first|exact(step_below (below_drewN wc 1)).trans (step_below (bw:=rb) q.below')|exact step_below (bw:=rb) q.below')),.inl ⟨_,rfl,rfl⟩⟩
end
theorem stop_is(v:Value)(w:World):(Instr.typeAssert (.iface 180 v) 20 180 false).run Tryz.prog w= .ok v w:=by kernel_rfl
theorem stop_n(n:Int)(w:World):(Instr.field 180 (.agg #[.int .i64 n]) 0).run Tryz.prog w= .ok (.int .i64 n) w:=by kernel_rfl
theorem cond_idle(p q r:Addr)(w:World):
 CallsD Tryz.prog 156 #[.pointer (some p),.pointer (some q),.pointer (some r)] .returning w fun e u' w'=>e= .returned (.tuple #[])/\u'= .returning/\w'=w:=by
 refine callsD_of_wpS Tryz.func156 rfl fun c₀ cs hu=>?_
 apply wpS_seq;apply wpS_region;simp[wpOpsS,go_sem,recoverD,hu,Tryz.ntmps156,Exit.thenS];apply wpS_seq;apply wpS_region;simp[wpOpsS,go_sem,Exit.thenS];refine wpS_cond (t:=false) (by simp[Act.eval,Array.replicate]) ?_;simp only[Bool.false_eq_true,if_false];refine wpS_of_wp (wp_skip ?_);cases c₀
 simp_all [bodyPostS,results,Tryz.results156]
theorem cond_stop(bp bq br:Nat)(n:Int)(w:World)(older:List PanicEntry)(us:List Value)(x y:Value)(hl:us.length=7)
 (h1:BxL w bp us) (h2:w.cell? ⟨bq,0,none⟩=some x) (h3:w.cell? ⟨br,0,none⟩=some y) (f1: ∀j,w.frozen? ⟨bp,j,none⟩=false) (f2:w.frozen? ⟨bq,0,none⟩=false) (f3:w.frozen? ⟨br,0,none⟩=false)
 (n1:bp≠bq) (n2:bp≠br) (n3:bq≠br):
 CallsD Tryz.prog 156 #[.pointer (some ⟨bp,0,none⟩),.pointer (some ⟨bq,0,none⟩),.pointer (some ⟨br,0,none⟩)] (.panicking ({ v:=.iface 180 (.agg #[.int .i64 n]),recovered:=false }::older)) w fun e u' w'=>e= .returned (.tuple #[])/\u'= .panicking ({ v:=.iface 180 (.agg #[.int .i64 n]),recovered:=true }::older)/\
  (∀B,B<=bp->B<=bq->B<=br->Below B w w')/\BxL w' bp [.int .i64 0,.int .i64 0,.int .i64 0,.int .i64 0,.string ⟨#[]⟩,.int .i64 0,.slice none 0 0]/\w'.cell? ⟨bq,0,none⟩=some (.int .i64 80)/\w'.cell? ⟨br,0,none⟩=some (.int .i64 n):=by
 match us,hl with
 |[u0,u1,u2,u3,u4,u5,u6],_=>
 have p0:=h1.get 0 _ rfl;have p1:=h1.get 1 _ rfl;have p2:=h1.get 2 _ rfl;have p3:=h1.get 3 _ rfl;have p4:=h1.get 4 _ rfl;have p5:=h1.get 5 _ rfl;have p6:=h1.get 6 _ rfl;refine callsD_of_wpS Tryz.func156 rfl fun c₀ cs hu=>?_
 apply wpS_seq;apply wpS_region;simp[wpOpsS,go_sem,recoverD,hu,Tryz.ntmps156,Exit.thenS];apply wpS_seq;apply wpS_region;simp[wpOpsS,go_sem,Exit.thenS];refine wpS_cond (t:=true) (by simp[Act.eval,Array.replicate]) ?_;simp only[if_true];refine wpS_of_wp ?_;have hx:=h1.1;have ta:=stop_is;have tb:=stop_n n;clear hl h1;have f10:=f1 0;have f11:=f1 1;have f12:=f1 2;have f13:=f1 3;have f14:=f1 4;have f15:=f1 5;have f16:=f1 6;refine(?_:Code.wp Tryz.prog _ _ ⟨#[.pointer (some ⟨bp,0,none⟩),.pointer (some ⟨bq,0,none⟩),.pointer (some ⟨br,0,none⟩),.iface 180 (.agg #[.int .i64 n]),.iface 180 (.agg #[.int .i64 n]),.iface 180 (.agg #[.int .i64 n]),.bool true,undef,undef,undef,undef],[]⟩ w)
 go_big_region
 all_goals(try go_wp2_with fail)
 refine⟨rfl,_,rfl,.tuple #[],by simp[results,Tryz.results156],rfl,rfl,fun B b1 b2 b3=>?_,⟨by simpa using hx,fun j hj=>?_⟩,by simp[go_sem,h2],by simp[go_sem,h3]⟩
 ·(repeat first|with_reducible refine Below.setCell ?_ b1 _|with_reducible refine Below.setCell ?_ b2 _|with_reducible refine Below.setCell ?_ b3 _|with_reducible refine Below.drew ?_)
  exact Below.refl _ _
 ·have:j=0\/j=1\/j=2\/j=3\/j=4\/j=5\/j=6:=by simp at hj;omega
  rcases this with rfl|rfl|rfl|rfl|rfl|rfl|rfl<;>simp[go_sem,p0,p1,p2,p3,p4,p5,p6]
theorem lex_short: ∀(n p:Nat) (s:Tx),s.length<=n-> ∀t∈lex p s,t.1.length<=s.length
 |_,p,[],_,t,ht=>by rw[lex_nil]at ht;cases ht
 |0,p,c::r,h,t,ht=>by simp at h
 | n+1,p,c::r,h,t,ht=>by
   have hr:r.length<=n:=by simpa using h
   cases hb:blankC c with
   | true=>
     rw[lex_blank p r hb]at ht;have:=lex_short n _ r hr t ht;simp;omega
   | false=>
     rw[lex_tok p r hb]at ht;have h1:=longT_pos c r;rcases List.mem_cons.1 ht with rfl|ht
     ·simp;omega
     ·have:=lex_short n _ _ (by simp;omega) t ht
      simp at this ⊢; omega
def RetCP(p:Except (Int × Nat) (Int × Nd))(w:World)(e:Ending)(w':World):Prop:=Below w.heap.size w w'/\match p with
 | .error (n,k)=>e= .returned (.tuple #[.agg #[.int .i64 0,.int .i64 0,.int .i64 0,.int .i64 0,.string ⟨#[]⟩,.int .i64 0,.slice none 0 0],.int .i64 n,.int .i64 k])
 | .ok (q,x)=> ∃y,bareN y=x/\e= .returned (.tuple #[vC q y,.int .i64 0,.int .i64 0])/\NdW w' w.heap.size y/\(blkN y).Nodup
theorem parseC_1{arch:Int}{s:Tx}(h:archB arch=false):parseC arch s= .error (5,0):=by unfold parseC;rw[if_pos h]
theorem parseC_2{arch:Int}{s:Tx}(h:archB arch=true)(hl:262144<s.length):parseC arch s= .error (2,0):=by unfold parseC;rw[if_neg (by rw[h];decide),if_pos hl]
theorem condR'_err{arch:Int}{L l:List Tok}(hc:condR' arch L= .error l):condR arch L= .error l:=by
 unfold condR' at hc;cases h:condR arch L with
 |error e=>rw[h]at hc;cases hc;rfl
 |ok p=>rw[h]at hc;cases hc
theorem condR'_ok{arch:Int}{L l:List Tok}{p:Int × Nd}(hc:condR' arch L= .ok (p,l)):condR arch L= .ok p:=by
 unfold condR' at hc;cases h:condR arch L with
 |error e=>rw[h]at hc;cases hc
 |ok p=>rw[h]at hc;cases hc;rfl
theorem parseC_3{arch:Int}{s:Tx}{l:List Tok}(h:archB arch=true)(hl:s.length<=262144)(hc:condR' arch (lex 0 s)= .error l):parseC arch s= .error (80,stopAt s.length l):=by
 unfold parseC;rw[if_neg (by rw[h];decide),if_neg (by omega),condR'_err hc];rfl
theorem parseC_4{arch q:Int}{s:Tx}{l:List Tok}{x:Nd}(h:archB arch=true)(hl:s.length<=262144)(hc:condR' arch (lex 0 s)= .ok ((q,x),l))(h0:condE arch q x=0):parseC arch s= .ok (q,x):=by
 unfold parseC;rw[if_neg (by rw[h];decide),if_neg (by omega),condR'_ok hc];simp only;rw[if_pos h0]
theorem parseC_5{arch q:Int}{s:Tx}{l:List Tok}{x:Nd}(h:archB arch=true)(hl:s.length<=262144)(hc:condR' arch (lex 0 s)= .ok ((q,x),l))(h0:condE arch q x≠0):parseC arch s= .error (condE arch q x,0):=by
 unfold parseC;rw[if_neg (by rw[h];decide),if_neg (by omega),condR'_ok hc];simp only;rw[if_neg h0]
theorem condParse_1{arch:Int}{s:Tx}(h:archB arch=false)(w:World):Calls Tryz.prog 82 #[.int .i64 arch,.string (tx s)] w (RetCP (parseC arch s) w):=by
 rw[parseC_1 h];have KN:=hid (fun w=>condKnown arch w);have HA:=hid h;clear h;have hmf: ∀(fn:Fn) (first cap:Array Value) (w:World),(Instr.makeFunc fn first cap).run Tryz.prog w= .ok (.func fn first cap) w:=fun _ _ _ _=>rfl
 go_enter_defers Tryz.func82,Tryz.ntmps82
 go_wp2_with (go_at_call 142;refine(KN.out _).mono ?_;rintro e w' ⟨rfl,rfl⟩;rw[HA.out])
 refine⟨_,by simp[results,Tryz.results82,go_sem];rfl,?_⟩;exact⟨blN,rfl⟩
theorem condParse_2{arch:Int}{s:Tx}(h:archB arch=true)(hl:262144<s.length)(hm:s.length<=9223372036854775807)(w:World):Calls Tryz.prog 82 #[.int .i64 arch,.string (tx s)] w (RetCP (parseC arch s) w):=by
 rw[parseC_2 h hl];have KN:=hid (fun w=>condKnown arch w);have HA:=hid h;have hsz:(tx s).size=s.length:=tx_size s;generalize tx s=u at*;have z:decide ((262144:Int)<(u.size:Int))=true:=by simp;omega
 have hm2:u.size<=9223372036854775807:=by omega
 clear h hsz hl hm;have hmf: ∀(fn:Fn) (first cap:Array Value) (w:World),(Instr.makeFunc fn first cap).run Tryz.prog w= .ok (.func fn first cap) w:=fun _ _ _ _=>rfl
 go_enter_defers Tryz.func82,Tryz.ntmps82
 go_wp2_with (go_at_call 142;refine(KN.out _).mono ?_;rintro e w' ⟨rfl,rfl⟩;rw[HA.out])
 refine⟨_,by simp[results,Tryz.results82,go_sem];rfl,?_⟩;exact⟨blN,rfl⟩
abbrev rdO(arch:Int)(s:Tx)(a:Option Addr)(n c:Nat):Obj:=.cells #[.int .i64 arch,.string (tx s),.slice a n c,.int .i64 0] 185
theorem RdG.new{w:World}{arch:Int}{s:Tx}{a:Option Addr}{c:Nat}(hO:OwnK w 0 a (lex 0 s).length c (lex 0 s))(hs:s.length<=262144)(g:Gl w):RdG w (w.alloc (rdO arch s a (lex 0 s).length c)) w.heap.size arch s a c (lex 0 s) 0:=by
 have hl:=lex_len _ 0 s (Nat.le_refl _);have hT:Els cTok w a (lex 0 s):=⟨Own.row hO,by omega⟩;refine⟨⟨?_,hT.below (al w _),fun h=>?_,Nat.zero_le _,by omega,hs⟩,g,al w _,lex_short _ 0 s (Nat.le_refl _)⟩
 ·exact World.ownsRow_lit w (e:=185) #[.int .i64 arch,.string (tx s),.slice a (lex 0 s).length c,.int .i64 0] 1 (Nat.le_refl w.heap.size) (size:=4) (by unfold maxLen;omega) (by simp)
 ·have:=hT.lt cTok_len (by omega) h
  omega
abbrev zE:Obj:=.cells #[.int .i64 0] 33
abbrev zI:Obj:=.cells #[.int .i64 0] 3
abbrev w3C(w:World):World:=((w.alloc (zC 0)).alloc zE).alloc zI
theorem below_w3C(w:World):Below w.heap.size w (w3C w):=blN
theorem w3C_vars{w w4:World}{rb:Nat}(S:St (w3C w) w4 rb)(hr:w.heap.size+2<rb):BxL w4 w.heap.size [.int .i64 0,.int .i64 0,.int .i64 0,.int .i64 0,.string ⟨#[]⟩,.int .i64 0,.slice none 0 0]/\w4.cell? ⟨w.heap.size+1,0,none⟩=some (.int .i64 0)/\w4.cell? ⟨w.heap.size+1+1,0,none⟩=some (.int .i64 0)/\(∀j,w4.frozen? ⟨w.heap.size,j,none⟩=false)/\(∀j,w4.frozen? ⟨w.heap.size+1,j,none⟩=false)/\(∀j,w4.frozen? ⟨w.heap.size+1+1,j,none⟩=false):=by
 have a1:=al w (zC 0);have a2:=al (w.alloc (zC 0)) zE;have a3:=al ((w.alloc (zC 0)).alloc zE) zI;have b1:=(((BxL.new w #[.int .i64 0,.int .i64 0,.int .i64 0,.int .i64 0,.string ⟨#[]⟩,.int .i64 0,.slice none 0 0] 30).below a2).below a3).step S (by omega);have b2:=((BxL.new (w.alloc (zC 0)) #[.int .i64 0] 33).below a3).step S (by first|(simp;done)|(simp;omega));have b3:=(BxL.new ((w.alloc (zC 0)).alloc zE) #[.int .i64 0] 3).step S (by first|(simp;done)|(simp;omega));have c2:=b2.get 0 _ rfl;have c3:=b3.get 0 _ rfl;simp only[alloc_size]at c2 c3;refine⟨b1,c2,c3,fun j=>?_,fun j=>?_,fun j=>?_⟩
 ·rw[frz_step S (by first|(simp;done)|(simp;omega)) (by omega),a3.frozen (p:=⟨w.heap.size,j,none⟩) (by first|(simp;done)|(simp;omega)),a2.frozen (p:=⟨w.heap.size,j,none⟩) (by simp)]
  exact frz_new w _ _ j
 ·rw[frz_step S (by first|(simp;done)|(simp;omega)) (by omega),a3.frozen (p:=⟨w.heap.size+1,j,none⟩) (by simp)]
  have:=frz_new (w.alloc (zC 0)) #[.int .i64 0] 33 j;rw[alloc_size]at this;exact this
 ·rw[frz_step S (by simp) (by omega)]
  have:=frz_new ((w.alloc (zC 0)).alloc zE) #[.int .i64 0] 3 j;rw[alloc_size,alloc_size]at this;exact this
theorem condParse_3{arch:Int}{s:Tx}{l:List Tok}(h:archB arch=true)(hl:s.length<=262144)(hc:condR' arch (lex 0 s)= .error l)(w:World)(g:Gl w):Calls Tryz.prog 82 #[.int .i64 arch,.string (tx s)] w (RetCP (parseC arch s) w):=by
 rw[parseC_3 h hl hc];have KN:=hid (fun w=>condKnown arch w);have TK:=hid (condTokens s hl (w3C w));have HA:=hid h;have hsz:(tx s).size=s.length:=tx_size s;have HS:=hid hl;have HC:=hid hc;have HG:=hid g;generalize hu:tx s=u at*;have z:decide ((262144:Int)<(u.size:Int))=false:=by simp;omega
 have hm2:u.size<=9223372036854775807:=by omega
 clear h hsz hl hc g;have hmf: ∀(fn:Fn) (first cap:Array Value) (w:World),(Instr.makeFunc fn first cap).run Tryz.prog w= .ok (.func fn first cap) w:=fun _ _ _ _=>rfl
 go_enter_defers Tryz.func82,Tryz.ntmps82
 go_wp2_with (first|(go_at_call 142;refine(KN.out _).mono ?_;rintro e w' ⟨rfl,rfl⟩;rw[HA.out])|fail)
 refine TK.out.mono ?_;rintro e w2 ⟨a,c,rfl,hO,E2⟩;subst hu;have hsz2:=E2.size;have RC:=hid (readCond (RdG.new (arch:=arch) (Own.mono hO (Nat.zero_le _)) HS.out ((HG.out.below (below_w3C w)).below E2)));have E2:=hid E2;clear hO;go_wp2_with fail;refine RC.out.mono ?_;rintro e w4 h;obtain⟨rfl,S3⟩:=h.err (show _=Except.error l by rw[List.drop_zero];exact HC.out);have S:St (w3C w) w4 w2.heap.size:=(step_below E2.out).trans ((step_below (al w2 (rdO arch s a (lex 0 s).length c))).trans S3);have hrb:w.heap.size+2<w2.heap.size:=by simp at hsz2;omega
 obtain⟨v1,v2,v3,f1,f2,f3⟩:=w3C_vars S hrb;have B4:Below w.heap.size w w4:=(below_w3C w).grown S.grown (by simp;omega) (fun r hr=>by simp at hr;omega);clear h S3;unfold PanC;go_wp2_with fail;refine leaves_cons (f:=156) (args:=#[.pointer (some ⟨w.heap.size,0,none⟩),.pointer (some ⟨w.heap.size+1,0,none⟩),.pointer (some ⟨w.heap.size+1+1,0,none⟩)]) (by simp) (by simp[go_sem]) ?_;refine(cond_stop w.heap.size (w.heap.size+1) (w.heap.size+1+1) _ w4 [] _ _ _ rfl v1 v2 v3 f1 (f2 0) (f3 0) (by omega) (by omega) (by omega)).mono ?_;rintro e u' w5 ⟨rfl,rfl,hB,hx,hq,hr⟩;have p0:=hx.get 0 _ rfl;have p1:=hx.get 1 _ rfl;have p2:=hx.get 2 _ rfl;have p3:=hx.get 3 _ rfl;have p4:=hx.get 4 _ rfl;have p5:=hx.get 5 _ rfl;have p6:=hx.get 6 _ rfl;refine⟨.tuple #[.agg #[.int .i64 0,.int .i64 0,.int .i64 0,.int .i64 0,.string ⟨#[]⟩,.int .i64 0,.slice none 0 0],.int .i64 80,.int .i64 (stopAt s.length l)],by simp[results,Tryz.results82,go_sem,p0,p1,p2,p3,p4,p5,p6,hq,hr],?_⟩;exact⟨B4.trans (hB _ (Nat.le_refl _) (by omega) (by omega)),rfl⟩
end Go.Proofs.YtkbbgjloifmmbaaGreatDoor
