/- What ReadPiecesP leans on, part 38. -/
import Derived.Test.YtkbbgjloifmmbaaGreatDoorRp37
set_option linter.unusedVariables false
set_option maxRecDepth 100000
set_option maxHeartbeats 25600000
namespace Go.Proofs.YtkbbgjloifmmbaaGreatDoor
open Go.RowKit
def gO(l:List Tx)(j:Nat):Option Nat:=l[j]?.bind regOf
theorem gR_opt{l:List Tx}{k j:Nat}(hk:l.length<=k\/3<=k)(hj:j<3)(hl:k<=l.length):gR l k j=optN (gO l j)/\gS l k j=(gO l j).isSome:=by
 unfold gR gS gO
 by_cases h:j<k
 ·rw[if_pos h,if_pos h,List.getD_eq_getElem?_getD,List.getElem?_eq_getElem (by omega),Option.getD_some,Option.bind_some,regN_opt,regE_opt]
  exact⟨rfl,rfl⟩
 ·rw[if_neg h,if_neg h,List.getElem?_eq_none (by omega)]
  exact⟨rfl,rfl⟩
theorem rd_lw(l:List Tx):readI [108,119] l=if l.length=2/\(gO l 0).isSome=true then keepI ⟨6,optN (gO l 0),optN (addrT (l.getD 1 [])),0,0,[],[],0⟩ (addrT (l.getD 1 [])).isSome else none:=by
 by_cases h:l.length=2
 ·obtain⟨x,y,rfl⟩:=len2 h
  rw[(read_lw2 x y).trans (keep_lw regOf_lt addrT_lt').symm,show gO [x,y] 0=regOf x from rfl];cases hx:regOf x<;>simp[keep_false]
 ·rw[read_lw_no h,if_neg (fun e=>h e.1)]
theorem rd_sw(l:List Tx):readI [115,119] l=if l.length=2/\(gO l 0).isSome=true then keepI ⟨7,0,optN (addrT (l.getD 1 [])),optN (gO l 0),0,[],[],0⟩ (addrT (l.getD 1 [])).isSome else none:=by
 by_cases h:l.length=2
 ·obtain⟨x,y,rfl⟩:=len2 h
  rw[(read_sw2 x y).trans (keep_sw regOf_lt addrT_lt').symm,show gO [x,y] 0=regOf x from rfl];cases hx:regOf x<;>simp[keep_false]
 ·rw[read_sw_no h,if_neg (fun e=>h e.1)]
theorem numR_ex(s:Tx): ∃v ok,NumR s v ok:=by
 cases h:numV s with
 |none=>exact⟨0,false,.inl ⟨h,rfl,rfl⟩⟩
 |some v=>exact⟨v,_,.inr ⟨h,rfl⟩⟩
theorem rd_ori{l:List Tx}{v:Int}{ok:Bool}(hv:NumR (l.getD 2 []) v ok):readI [111,114,105] l=if l.length=3/\(gO l 0).isSome=true/\(gO l 1).isSome=true then keepI ⟨8,optN (gO l 0),optN (gO l 1),0,v,[],[],0⟩ ok else none:=by
 by_cases h:l.length=3
 ·obtain⟨x,y,z,rfl⟩:=len3 h
  rw[read_3 _ _ _ (by decide) (by decide) (by decide),show gO [x,y,z] 0=regOf x from rfl,show gO [x,y,z] 1=regOf y from rfl];cases hx:regOf x with
  |none=>simp
  | some a=>cases hy:regOf y with
    |none=>simp
    |some b=>rw[if_pos ⟨rfl,rfl,rfl⟩];exact(keep_oriR (regOf_lt _ hx) (regOf_lt _ hy) hv).symm
 ·rw[read_3no (by decide) (by decide) (by decide) h,if_neg (fun e=>h e.1)]
theorem rd_three{op:Tx}{q:Int}(l:List Tx)(h:op=[120,111,114]/\q=9\/op=[97,100,100]/\q=10):readI op l=keepI ⟨q,optN (gO l 0),optN (gO l 1),optN (gO l 2),0,[],[],0⟩ (((((l.length:Nat):Int)==3)&&(gO l 0).isSome)&&(gO l 1).isSome&&(gO l 2).isSome):=by
 have hq:q=9\/q=10:=by omega
 have hn:op≠[108,119]/\op≠[115,119]/\op≠[102,101,110,99,101]/\op≠[98,110,101]/\op≠[111,114,105]:=by rcases h with⟨rfl, -⟩|⟨rfl, -⟩<;>decide
 by_cases h3:l.length=3
 ·obtain⟨x,y,z,rfl⟩:=len3 h3
  rw[read_3 _ _ _ hn.1 hn.2.1 hn.2.2.1];rw[show gO [x,y,z] 0=regOf x from rfl,show gO [x,y,z] 1=regOf y from rfl,show gO [x,y,z] 2=regOf z from rfl,show((([x,y,z].length:Nat):Int)==3)=true from rfl];cases hx:regOf x with
  |none=>rfl
  | some a=>cases hy:regOf y with
    |none=>rfl
    | some b=>
      refine Eq.trans ?_ (keep_three hq (regOf_lt _ hx) (regOf_lt _ hy) (o:=regOf z) regOf_lt).symm;simp only;rw[if_neg hn.2.2.2.1,if_neg hn.2.2.2.2];cases regOf z with
      |none=>rfl
      |some c=>rcases h with⟨rfl,rfl⟩|⟨rfl,rfl⟩<;>rfl
 ·rw[read_3no hn.1 hn.2.1 hn.2.2.1 h3,show(((l.length:Nat):Int)==3)=false by simp;omega];rfl
theorem rd_bne(l:List Tx):readI [98,110,101] l=if l.length=3 then keepI ⟨11,0,optN (gO l 0),optN (gO l 1),0,[],l.getD 2 [],0⟩ ((gO l 0).isSome&&(gO l 1).isSome)else none:=by
 by_cases h:l.length=3
 ·obtain⟨x,y,z,rfl⟩:=len3 h
  rw[read_3 _ _ _ (by decide) (by decide) (by decide),if_pos h];rw[show gO [x,y,z] 0=regOf x from rfl,show gO [x,y,z] 1=regOf y from rfl];cases hx:regOf x with
  |none=>rfl
  | some a=>cases hy:regOf y with
    |none=>rfl
    |some b=>exact(keep_bne (regOf_lt _ hx) (regOf_lt _ hy)).symm
 ·rw[read_3no (by decide) (by decide) (by decide) h,if_neg h]
theorem rd_fence(l:List Tx):readI [102,101,110,99,101] l=if l.length=2 then keepI ⟨13,0,0,0,0,[],[],fenceV (l.getD 0 []) (l.getD 1 [])⟩ true else none:=by
 by_cases h:l.length=2
 ·obtain⟨x,y,rfl⟩:=len2 h
  rw[if_pos h];exact(keep_fenceR x y).symm
 ·rw[read_fence_no h,if_neg h]
theorem OpsW.all{w wr:World}{l:List Tx}{k:Nat}(h:OpsW w wr l k){x0 x1 x2:Int}{y0 y1 y2:Bool}(H:(gR l k 0=x0/\gS l k 0=y0)/\(gR l k 1=x1/\gS l k 1=y1)/\(gR l k 2=x2/\gS l k 2=y2)):
 (wr.cell? ⟨w.heap.size,0,none⟩=some (.int .i64 0)/\wr.cell? ⟨w.heap.size,1,none⟩=some (.int .i64 0)/\wr.cell? ⟨w.heap.size,2,none⟩=some (.int .i64 0)/\wr.cell? ⟨w.heap.size,3,none⟩=some (.int .i64 0)/\wr.cell? ⟨w.heap.size,4,none⟩=some (.int .i64 0)/\wr.cell? ⟨w.heap.size,5,none⟩=some (.string ⟨#[]⟩)/\wr.cell? ⟨w.heap.size,6,none⟩=some (.string ⟨#[]⟩)/\wr.cell? ⟨w.heap.size,7,none⟩=some (.int .i64 0))/\
 (wr.cell? ⟨w.heap.size+1,0,none⟩=some (.int .i64 0)/\wr.cell? ⟨w.heap.size+1,1,none⟩=some (.int .i64 0)/\wr.cell? ⟨w.heap.size+1,2,none⟩=some (.int .i64 0)/\wr.cell? ⟨w.heap.size+1,3,none⟩=some (.int .i64 0)/\wr.cell? ⟨w.heap.size+1,4,none⟩=some (.int .i64 0)/\wr.cell? ⟨w.heap.size+1,5,none⟩=some (.string ⟨#[]⟩)/\wr.cell? ⟨w.heap.size+1,6,none⟩=some (.string ⟨#[]⟩)/\wr.cell? ⟨w.heap.size+1,7,none⟩=some (.int .i64 0))/\
 (wr.cell? ⟨w.heap.size+2,0,none⟩=some (.int .i64 x0)/\wr.cell? ⟨w.heap.size+2,1,none⟩=some (.int .i64 x1)/\wr.cell? ⟨w.heap.size+2,2,none⟩=some (.int .i64 x2)/\wr.cell? ⟨w.heap.size+3,0,none⟩=some (.bool y0)/\wr.cell? ⟨w.heap.size+3,1,none⟩=some (.bool y1)/\wr.cell? ⟨w.heap.size+3,2,none⟩=some (.bool y2))/\
 (∀j,wr.frozen? ⟨w.heap.size,j,none⟩=false)/\w.heap.size+4<=wr.heap.size/\Below w.heap.size w wr:=by
 obtain⟨⟨rfl,rfl⟩,⟨rfl,rfl⟩,rfl,rfl⟩:=H
 exact⟨⟨h.i0 0 (by omega),h.i0 1 (by omega),h.i0 2 (by omega),h.i0 3 (by omega),h.i0 4 (by omega),h.i0 5 (by omega),h.i0 6 (by omega),h.i0 7 (by omega)⟩,⟨h.i1 0 (by omega),h.i1 1 (by omega),h.i1 2 (by omega),h.i1 3 (by omega),h.i1 4 (by omega),h.i1 5 (by omega),h.i1 6 (by omega),h.i1 7 (by omega)⟩,
  ⟨h.r 0 (by omega),h.r 1 (by omega),h.r 2 (by omega),h.s 0 (by omega),h.s 1 (by omega),h.s 2 (by omega)⟩,fun j=>h.f _ j (by omega) (by omega),h.size,h.bel⟩
theorem refOperands(op:Tx)(l:List Tx)(a:Option Addr)(c:Nat)(w:World)(h:Txs w a l)(hs:Sm l):Calls Tryz.prog 109 #[.string (tx op),.slice a l.length c] w (Rd (readI op l) w):=by
 obtain⟨r,hr⟩: ∃r,readI op l=r:=⟨_,rfl⟩;rw[hr];have HR:=hid hr;obtain⟨n,hn⟩: ∃n,l.length=n:=⟨_,rfl⟩;have HN:=hid hn;have HS:=hid (fun(k:Nat) (u:Tx) (hu:l[k]? =some u)=>hs u (List.mem_of_getElem? hu));have HT:=hid h;rw[hn];have O0:=OpsW.start w l;have hix:=h.idx;rw[hn]at hix;have HI:=hid hix;have HX:=hid (fun(k:Nat) (hk:k<n)=>show ∃t,l[k]? =some t/\l.getD k []=t from⟨l[k],List.getElem?_eq_getElem _,by rw[List.getD_eq_getElem?_getD,List.getElem?_eq_getElem (by omega)];rfl⟩);have HB:=hid (by have:=h.len;omega:n<=1000000000000000000);clear hr hn hs hix h;go_enter Tryz.func109,Tryz.ntmps109;go_wp2_with fail
 go_loopw [10] (fun i wr=> ∃k:Nat,k<=3/\k<=n/\i= .int .i64 k/\OpsW w wr l k) (fun i _=>3-(intOf i).toNat)
 case atStart=>exact⟨0,by omega,by omega,rfl,O0⟩
 case round=>
  clear O0;obtain⟨k,hk,hkn,rfl,O⟩:=hrel
  by_cases hlt:k<n/\k<3
  ·obtain⟨hlt1,hlt2⟩:=hlt
   obtain⟨t,ht, -⟩:=HX.out k hlt1;have ix:=HI.out k hlt1;have ck:=(HT.out.below O.bel).cellq ht;have O2:=O.step hlt2 ht;have hf2:=fun j=>O.f (w.heap.size+2) j (by omega) (by omega)
   have hf3:=fun j=>O.f (w.heap.size+3) j (by omega) (by omega)
   obtain⟨-, -, ⟨hr0,hr1,hr2,hs0,hs1,hs2⟩,-, hsz, -⟩:=O.all ⟨⟨rfl,rfl⟩,⟨rfl,rfl⟩,rfl,rfl⟩;clear ht O;have hk3:k=0\/k=1\/k=2:=by omega
   rcases hk3 with rfl|rfl|rfl
   all_goals
    (try replace ix: ∀c w',(Instr.indexAt 42 (.slice a n c) (.int .i64 0)).run Tryz.prog w'= .ok (.pointer (some ⟨bk a,fo a,none⟩)) w':=ix)
    (try replace ix: ∀c w',(Instr.indexAt 42 (.slice a n c) (.int .i64 1)).run Tryz.prog w'= .ok (.pointer (some ⟨bk a,fo a+1,none⟩)) w':=ix)
    (try replace ix: ∀c w',(Instr.indexAt 42 (.slice a n c) (.int .i64 2)).run Tryz.prog w'= .ok (.pointer (some ⟨bk a,fo a+2,none⟩)) w':=ix)
    (try replace ck:wr.cell? ⟨bk a,fo a,none⟩=some (.string (tx t)):=ck)
    go_wp2_with (go_at_call 192;refine(refRegOf t _).mono ?_;rintro e w' ⟨rfl,rfl⟩)
    go_roundw
    case rel=>exact⟨_,by omega,by omega,by go_num,O2⟩
    case measure=>simp[intOf]<;>omega
  have hkk:l.length<=k\/3<=k:=by rw[HN.out];omega
  have hG:=fun j (hj:j<3)=>gR_opt hkk hj (by rw[HN.out];exact hkn)
  obtain⟨x0,hx0⟩: ∃x,optN (gO l 0)=x:=⟨_,rfl⟩;obtain⟨x1,hx1⟩: ∃x,optN (gO l 1)=x:=⟨_,rfl⟩;obtain⟨x2,hx2⟩: ∃x,optN (gO l 2)=x:=⟨_,rfl⟩;obtain⟨y0,hy0⟩: ∃x,(gO l 0).isSome=x:=⟨_,rfl⟩;obtain⟨y1,hy1⟩: ∃x,(gO l 1).isSome=x:=⟨_,rfl⟩;obtain⟨y2,hy2⟩: ∃x,(gO l 2).isSome=x:=⟨_,rfl⟩;have HG:=hid (show(gR l k 0=x0/\gS l k 0=y0)/\(gR l k 1=x1/\gS l k 1=y1)/\(gR l k 2=x2/\gS l k 2=y2)from⟨⟨(hG 0 (by omega)).1.trans hx0,(hG 0 (by omega)).2.trans hy0⟩,⟨(hG 1 (by omega)).1.trans hx1,(hG 1 (by omega)).2.trans hy1⟩,(hG 2 (by omega)).1.trans hx2,(hG 2 (by omega)).2.trans hy2⟩);have HQ:=hid (And.intro (rd_lw l) (And.intro (rd_sw l) (And.intro (fun v ok=>rd_ori (l:=l) (v:=v) (ok:=ok)) (And.intro (fun o q=>rd_three (op:=o) (q:=q) l) (And.intro (rd_bne l) (rd_fence l))))));rw[hx0,hx1,hx2,hy0,hy1,hy2,HN.out]at HQ;obtain⟨⟨d0,d1,d2,d3,d4,d5,d6,d7⟩,⟨e0,e1,e2,e3,e4,e5,e6,e7⟩,⟨r0,r1,r2,s0,s1,s2⟩,hf0,hsz,B⟩:=O.all HG.out;have HO:=hid O;clear hkk hG hx0 hx1 hx2 hy0 hy1 hy2 O;have K0:=hid (fun(h:none=r)=>show keepI ⟨0,0,0,0,0,[],[],0⟩ false=r from h);have hend:n<=k\/(k<n/\3<=k):=by omega
  clear hlt;rcases hend with hge|⟨hge,h3k⟩
  all_goals
   have h12:op=[108,119]\/op≠[108,119]/\op=[115,119]\/op≠[108,119]/\op≠[115,119]:=by
    by_cases h1:op=[108,119]
    ·exact .inl h1
    ·by_cases h2:op=[115,119]
     ·exact .inr (.inl ⟨h1,h2⟩)
     ·exact .inr (.inr ⟨h1,h2⟩)
   rcases h12 with h1|⟨h1,h2⟩|⟨h1,h2⟩
   focus
    have z1:=tx_be op _ h1;have hq:=HQ.out.1;rw[<-h1,HR.out]at hq;clear h1
   rotate_left
   focus
    have z1:=tx_ne op _ h1;have z2:=tx_be op _ h2;have hq:=HQ.out.2.1;rw[<-h2,HR.out]at hq;clear h1 h2
   rotate_left 2
   iterate 2
    focus
     by_cases hc:n=2/\y0=true
     rotate_left
     ·rw[if_neg hc]at hq
      have HK:=hid (K0.out hq.symm)
      have hc2:((n:Int) != 2)=true\/((n:Int) != 2)=false/\y0=false:=by
       by_cases n2:n=2
       ·exact .inr ⟨by simp;omega,by cases y0;rfl;exact absurd ⟨n2,rfl⟩ hc⟩
       ·exact .inl (by simp;omega)
      clear hc hq;rcases hc2 with z9|⟨z9,rfl⟩
      all_goals
       go_wp2_with fail;exact bodyPost_ret (by simp[results,Tryz.results109,go_sem,d0,d1,d2,d3,d4,d5,d6,d7]) rfl (Rd.of ⟨rfl,blA⟩ HK.out)
     ·obtain⟨n2,rfl⟩:=hc
      rw[if_pos ⟨n2,rfl⟩]at hq;have z9:((n:Int) != 2)=false:=by simp;omega
      obtain⟨u,hu,hu2⟩:=HX.out 1 (by omega);rw[hu2]at hq;have PL:=hid (fun w=>refPlace u (HS.out 1 u hu) w);have ck:=(HT.out.below B).cellq hu;have ix: ∀c w',(Instr.indexAt 42 (.slice a n c) (.int .i64 1)).run Tryz.prog w'= .ok (.pointer (some ⟨bk a,fo a+1,none⟩)) w':=HI.out 1 (by omega);generalize addrT u=o2 at*;have HK:=hid hq.symm;clear hu hu2 hq n2;go_wp2_with fail;refine(PL.out _).mono ?_;rintro e w2 ⟨rfl,E2⟩;clear ck d0 d1 d2 d3 d4 d5 d6 d7 e0 e1 e2 e3 e4 e5 e6 e7 r0 r1 r2 s0 s1 s2 hf0 hsz B;obtain⟨⟨d0,d1,d2,d3,d4,d5,d6,d7⟩,-, ⟨r0,-, -, -, -, -⟩,hf0,hsz,B⟩:=(HO.out.below E2).all HG.out;clear E2;go_wp2_with fail;exact bodyPost_ret (by simp[results,Tryz.results109,go_sem,d0,d1,d2,d3,d4,d5,d6,d7]) rfl (Rd.of ⟨rfl,blA⟩ HK.out)
   have z1:=tx_ne op _ h1;have z2:=tx_ne op _ h2;have N12:=hid (And.intro h1 h2);clear h1 h2
   by_cases h3:op=[111,114,105]
   ·have z3:=tx_be op _ h3
    have hq:=HQ.out.2.2.1;rw[<-h3,HR.out]at hq;have HQ3:=hid hq;clear h3 hq
    by_cases hc:n=3/\y0=true/\y1=true
    rotate_left
    ·obtain⟨v,ok,hv⟩:=numR_ex (l.getD 2 [])
     have HK:=hid (K0.out ((HQ3.out v ok hv).trans (if_neg hc)).symm)
     have hc2:((n:Int) != 3)=true\/((n:Int) != 3)=false/\y0=false\/((n:Int) != 3)=false/\y0=true/\y1=false:=by
      by_cases n2:n=3
      ·refine .inr ?_
       have z:((n:Int) != 3)=false:=by simp;omega
       cases y0
       ·exact .inl ⟨z,rfl⟩
       ·cases y1
        ·exact .inr ⟨z,rfl,rfl⟩
        ·exact absurd ⟨n2,rfl,rfl⟩ hc
      ·exact .inl (by simp;omega)
     clear hc hv;rcases hc2 with z9|⟨z9,rfl⟩|⟨z9,rfl,rfl⟩
     all_goals
      go_wp2_with fail;exact bodyPost_ret (by simp[results,Tryz.results109,go_sem,d0,d1,d2,d3,d4,d5,d6,d7]) rfl (Rd.of ⟨rfl,blA⟩ HK.out)
    ·obtain⟨n2,rfl,rfl⟩:=hc
     have z9:((n:Int) != 3)=false:=by simp;omega
     obtain⟨u,hu,hu2⟩:=HX.out 2 (by omega);have ck:=(HT.out.below B).cellq hu;have ix: ∀c w',(Instr.indexAt 42 (.slice a n c) (.int .i64 2)).run Tryz.prog w'= .ok (.pointer (some ⟨bk a,fo a+2,none⟩)) w':=HI.out 2 (by omega);have HU:=hid (fun v ok (hv:NumR u v ok)=>((HQ3.out v ok (hu2.symm▸hv)).trans (if_pos ⟨n2,rfl,rfl⟩)).symm);clear hu hu2 n2;go_wp2_with fail;refine(refNumber u _).mono ?_;rintro e w2 ⟨⟨v,ok,rfl,hv⟩,rfl⟩;have HK:=hid (HU.out v ok hv);clear hv ck;go_wp2_with fail;exact bodyPost_ret (by simp[results,Tryz.results109,go_sem,d0,d1,d2,d3,d4,d5,d6,d7]) rfl (Rd.of ⟨rfl,blA⟩ HK.out)
   have z3:=tx_ne op _ h3;have N3:=hid h3;clear h3
   have h45:op=[120,111,114]\/op≠[120,111,114]/\op=[97,100,100]\/op≠[120,111,114]/\op≠[97,100,100]:=by
    by_cases h4:op=[120,111,114]
    ·exact .inl h4
    ·by_cases h5:op=[97,100,100]
     ·exact .inr (.inl ⟨h4,h5⟩)
     ·exact .inr (.inr ⟨h4,h5⟩)
   rcases h45 with h4|⟨h4,h5⟩|⟨h4,h5⟩
   focus
    have z4:=tx_be op _ h4;have hq:=HQ.out.2.2.2.1 _ 9 (.inl ⟨h4,rfl⟩);clear h4
   rotate_left
   focus
    have z4:=tx_ne op _ h4;have z5:=tx_be op _ h5;have hq:=HQ.out.2.2.2.1 _ 10 (.inr ⟨h5,rfl⟩);clear h4 h5
   rotate_left 2
   iterate 2
    focus
     rw[HR.out]at hq;obtain⟨b3,hb3⟩: ∃b,((n:Int)==3)=b:=⟨_,rfl⟩;rw[hb3]at hq;have HK:=hid hq.symm;clear hq;have hc:b3=false\/b3=true/\y0=false\/b3=true/\y0=true/\y1=false\/b3=true/\y0=true/\y1=true:=by cases b3<;>cases y0<;>cases y1<;>simp
     rcases hc with rfl|⟨rfl,rfl⟩|⟨rfl,rfl,rfl⟩|⟨rfl,rfl,rfl⟩
     all_goals
      go_wp2_with fail
      go_big_region
      go_wp2_with fail;exact bodyPost_ret (by simp[results,Tryz.results109,go_sem,d0,d1,d2,d3,d4,d5,d6,d7]) rfl (Rd.of ⟨rfl,blA⟩ HK.out)
   have z4:=tx_ne op _ h4;have z5:=tx_ne op _ h5;have N45:=hid (And.intro h4 h5);clear h4 h5
   by_cases h6:op=[98,110,101]
   ·have z6:=tx_be op _ h6
    have hq:=HQ.out.2.2.2.2.1;rw[<-h6,HR.out]at hq;clear h6
    by_cases hc:n=3
    rotate_left
    ·have z9:((n:Int) != 3)=true:=by simp;omega
     rw[if_neg hc]at hq;have HK:=hid (K0.out hq.symm);clear hc hq;go_wp2_with fail;exact bodyPost_ret (by simp[results,Tryz.results109,go_sem,d0,d1,d2,d3,d4,d5,d6,d7]) rfl (Rd.of ⟨rfl,blA⟩ HK.out)
    ·rw[if_pos hc]at hq
     have z9:((n:Int) != 3)=false:=by simp;omega
     obtain⟨u,hu,hu2⟩:=HX.out 2 (by omega);have ck:=(HT.out.below B).cellq hu;have ix: ∀c w',(Instr.indexAt 42 (.slice a n c) (.int .i64 2)).run Tryz.prog w'= .ok (.pointer (some ⟨bk a,fo a+2,none⟩)) w':=HI.out 2 (by omega);have hul:=HS.out 2 u hu;rw[hu2]at hq;have HK:=hid hq.symm;clear hu hu2 hc hq;cases y0
     all_goals
      go_wp2_with fail
      go_big_region
      go_wp2_with fail;exact bodyPost_ret (by simp[results,Tryz.results109,go_sem,d0,d1,d2,d3,d4,d5,d6,d7]) rfl ⟨11,0,x0,x1,0,u,0,_,rfl,HK.out,hul,blA⟩
   have z6:=tx_ne op _ h6;have N6:=hid h6;clear h6
   by_cases h7:op=[102,101,110,99,101]
   ·have z7:=tx_be op _ h7
    have hq:=HQ.out.2.2.2.2.2;rw[<-h7,HR.out]at hq;clear h7
    by_cases hc:n=2
    rotate_left
    ·have z9:((n:Int) != 2)=true:=by simp;omega
     rw[if_neg hc]at hq;have HK:=hid (K0.out hq.symm);clear hc hq;go_wp2_with fail;exact bodyPost_ret (by simp[results,Tryz.results109,go_sem,d0,d1,d2,d3,d4,d5,d6,d7]) rfl (Rd.of ⟨rfl,blA⟩ HK.out)
    ·rw[if_pos hc]at hq
     have z9:((n:Int) != 2)=false:=by simp;omega
     obtain⟨u,hu,hu2⟩:=HX.out 0 (by omega);obtain⟨v,hv,hv2⟩:=HX.out 1 (by omega);have ck:wr.cell? ⟨bk a,fo a,none⟩=some (.string (tx u)):=(HT.out.below B).cellq hu;have ck2:=(HT.out.below B).cellq hv;have ix: ∀c w',(Instr.indexAt 42 (.slice a n c) (.int .i64 0)).run Tryz.prog w'= .ok (.pointer (some ⟨bk a,fo a,none⟩)) w':=HI.out 0 (by omega);have ix2: ∀c w',(Instr.indexAt 42 (.slice a n c) (.int .i64 1)).run Tryz.prog w'= .ok (.pointer (some ⟨bk a,fo a+1,none⟩)) w':=HI.out 1 (by omega);rw[hu2,hv2]at hq;have FN:=hid (fun w=>refFence u v w);generalize fenceV u v=fv at*;have HK:=hid hq.symm;clear hu hu2 hv hv2 hc hq;go_wp2_with fail
     go_region_with (go_at_call 195;refine(FN.out _).mono ?_;rintro e' w' ⟨rfl,rfl⟩)
     all_goals
      go_wp2_with fail;exact bodyPost_ret (by simp[results,Tryz.results109,go_sem,d0,d1,d2,d3,d4,d5,d6,d7]) rfl (Rd.of ⟨rfl,blA⟩ HK.out)
   have z7:=tx_ne op _ h7;have HK:=hid (K0.out ((read_none3 N12.out.1 N12.out.2 N3.out N45.out.1 N45.out.2 N6.out h7 l).symm.trans HR.out));clear h7;go_wp2_with fail;exact bodyPost_ret (by simp[results,Tryz.results109,go_sem,d0,d1,d2,d3,d4,d5,d6,d7]) rfl (Rd.of ⟨rfl,blA⟩ HK.out)
attribute [local go_sem high] eqI neqI
abbrev W2(w:World):World:=(w.alloc zeroI).alloc zeroI
theorem fresh16{w w':World}(h:Below (W2 w).heap.size (W2 w) w'):
 (w'.cell? ⟨w.heap.size,0,none⟩=some (.int .i64 0)/\w'.cell? ⟨w.heap.size,1,none⟩=some (.int .i64 0)/\w'.cell? ⟨w.heap.size,2,none⟩=some (.int .i64 0)/\w'.cell? ⟨w.heap.size,3,none⟩=some (.int .i64 0)/\w'.cell? ⟨w.heap.size,4,none⟩=some (.int .i64 0)/\w'.cell? ⟨w.heap.size,5,none⟩=some (.string ⟨#[]⟩)/\w'.cell? ⟨w.heap.size,6,none⟩=some (.string ⟨#[]⟩)/\w'.cell? ⟨w.heap.size,7,none⟩=some (.int .i64 0))/\
 (w'.cell? ⟨w.heap.size+1,0,none⟩=some (.int .i64 0)/\w'.cell? ⟨w.heap.size+1,1,none⟩=some (.int .i64 0)/\w'.cell? ⟨w.heap.size+1,2,none⟩=some (.int .i64 0)/\w'.cell? ⟨w.heap.size+1,3,none⟩=some (.int .i64 0)/\w'.cell? ⟨w.heap.size+1,4,none⟩=some (.int .i64 0)/\w'.cell? ⟨w.heap.size+1,5,none⟩=some (.string ⟨#[]⟩)/\w'.cell? ⟨w.heap.size+1,6,none⟩=some (.string ⟨#[]⟩)/\w'.cell? ⟨w.heap.size+1,7,none⟩=some (.int .i64 0))/\
 (∀k,w'.frozen? ⟨w.heap.size,k,none⟩=false)/\w.heap.size+1<w'.heap.size/\Below w.heap.size w w':=by
 obtain⟨d,f,-, B⟩:=fresh8 (ext_trans (al (w.alloc zeroI) zeroI) h);obtain⟨e,-, hlt, -⟩:=fresh8 (w:=w.alloc zeroI) h;have hs:(w.alloc zeroI).heap.size=w.heap.size+1:=by simp
 rw[hs]at e hlt;exact⟨d,e,f,hlt,B⟩
theorem refTrim'(s:Tx)(hs:s.length<=9223372036854775807)(w:World):Calls Tryz.prog 106 #[.string (tx s)] w (Ret w (.string (tx (trimT s)))):=
 (refTrim s hs w).mono fun e w' hh=>⟨hh.1,by rw[<-hh.2];exact Below.refl _ _⟩
theorem refParse_long(s:Tx)(hl:262144<s.length)(w:World):Calls Tryz.prog 47 #[.string (tx s)] w (RetP (parseI s) w):=by
 obtain⟨r,hr⟩: ∃r,parseI s=r:=⟨_,rfl⟩;rw[hr];have HK:=hid (show r=none by rw[<-hr];unfold parseI;rw[if_pos hl]);obtain⟨n,hn⟩: ∃n,(tx s).size=n:=⟨_,rfl⟩;have hz:decide (262144<(n:Int))=true:=by rw[<-hn,tx_size];simp;omega
 clear hr hl;go_enter Tryz.func47,Tryz.ntmps47;go_wp2_with fail;exact bodyPost_ret (by simp[results,Tryz.results47,go_sem]) rfl (RetP.no HK.out rfl blA)
theorem refParse_tso(s:Tx)(hl:s.length<=262144)(ht:trimT s=[102,101,110,99,101,46,116,115,111])(w:World):Calls Tryz.prog 47 #[.string (tx s)] w (RetP (parseI s) w):=by
 obtain⟨r,hr⟩: ∃r,parseI s=r:=⟨_,rfl⟩;rw[hr];have HK:=hid (show r=some ⟨13,0,0,0,0,[],[],2⟩ by rw[<-hr];unfold parseI;rw[if_neg (by omega)];simp only[ht];rw[if_pos trivial]);obtain⟨n,hn⟩: ∃n,(tx s).size=n:=⟨_,rfl⟩;have hnl:n=s.length:=by rw[<-hn,tx_size]
 have hz:decide (262144<(n:Int))=false:=by simp;omega
 have TR:=hid (fun(w:World)=>refTrim' s (by omega) w);rw[ht]at TR;have z:((tx [102,101,110,99,101,46,116,115,111]).toList==[102,101,110,99,101,46,116,115,111])=true:=by rw[tx_toList];rfl
 clear hr hl hnl ht;go_enter Tryz.func47,Tryz.ntmps47;go_wp2_with fail;refine(TR.out _).mono ?_;rintro e w1 ⟨rfl,E⟩;obtain⟨⟨d0,d1,d2,d3,d4,d5,d6,d7⟩,⟨e0,e1,e2,e3,e4,e5,e6,e7⟩,hf,hlt,B⟩:=fresh16 E;clear E;go_wp2_with fail;exact bodyPost_ret (by simp[results,Tryz.results47,go_sem,d0,d1,d2,d3,d4,d5,d6,d7]) rfl (RetP.yes0 HK.out rfl blA)
theorem refParse_label(s t:Tx)(hl:s.length<=262144)(ht:trimT s=t)(h1:t≠[102,101,110,99,101,46,116,115,111])(h2:t.getLast?=some 58)(w:World):Calls Tryz.prog 47 #[.string (tx s)] w (RetP (parseI s) w):=by
 obtain⟨r,hr⟩: ∃r,parseI s=r:=⟨_,rfl⟩;rw[hr];have HK:=hid (show r=if nameB (trimT t.dropLast)then some ⟨12,0,0,0,0,[],trimT t.dropLast,0⟩else none by rw[<-hr];unfold parseI;rw[if_neg (by omega)];simp only[ht];rw[if_neg h1,if_pos h2]);obtain⟨n,hn⟩: ∃n,(tx s).size=n:=⟨_,rfl⟩;have hnl:n=s.length:=by rw[<-hn,tx_size]
 have hz:decide (262144<(n:Int))=false:=by simp;omega
 have TR:=hid (fun(w:World)=>refTrim' s (by omega) w);rw[ht]at TR;have htl:=trimT_length s;rw[ht]at htl;have z:((tx t).toList==[102,101,110,99,101,46,116,115,111])=false:=tx_ne _ _ h1;obtain⟨m,hm⟩: ∃m,t.length=m:=⟨_,rfl⟩;have htm:(tx t).size=m:=by rw[tx_size,hm]
 have hm1:1<=m:=by
  rcases Nat.eq_zero_or_pos m with h0|h0
  ·rw[h0]at hm;have:=List.eq_nil_of_length_eq_zero hm;rw[this]at h2;cases h2
  ·exact h0
 have ix: ∀w,(Instr.index 9 (.string (tx t)) (.int .i64 ((m:Int)-1))).run Tryz.prog w= .ok (.int .u8 (58:UInt8).toNat) w:=by
  have:=run_ix t (m-1) 58 (by rw[<-h2,List.getLast?_eq_getElem?,hm])
  rwa[show((m-1:Nat):Int)=(m:Int)-1 by omega]at this
 have z58:(((58:UInt8).toNat:Int)==58)=true:=by decide
 have sl: ∀w,(Instr.sliceAt 9 (.string (tx t)) none (some (.int .i64 ((m:Int)-1))) none).run Tryz.prog w= .ok (.string (tx t.dropLast)) w:=by
  have:=run_strto t (m-1) (by omega)
  rwa[show((m-1:Nat):Int)=(m:Int)-1 by omega,show t.take (m-1)=t.dropLast by rw[List.dropLast_eq_take,hm]]at this
 have T2:=hid (fun(w:World)=>refTrim' t.dropLast (by simp;omega) w);have hll:=trimT_length t.dropLast;have hmb:m<=262144:=by omega
 rw[List.length_dropLast,hm]at hll;generalize t.dropLast=u at*;generalize trimT u=lb at*;have CK:=hid (fun(w:World)=>refCheck ⟨12,0,0,0,0,[],lb,0⟩ (by simp;omega) w);clear hr hl hnl ht h2 h1 hm htl
 by_cases hnm:nameB lb=true
 ·skip
  have hE:=errI_yes (i:=⟨12,0,0,0,0,[],lb,0⟩) (by rw[check_label];exact hnm);rw[if_pos hnm]at HK;rw[hE]at CK;clear hE hnm;go_enter Tryz.func47,Tryz.ntmps47;go_wp2_with fail;refine(TR.out _).mono ?_;rintro e w1 ⟨rfl,E⟩;go_wp2_with fail;refine(T2.out _).mono ?_;rintro e w3 ⟨rfl,E3⟩;have E:=ext_trans E E3;go_wp2_with fail;refine(CK.out _).mono ?_;rintro e w4 ⟨rfl,E4⟩;obtain⟨⟨f0,f1,f2,f3,f4,f5,f6,f7⟩,hf2,hlt2,B2⟩:=freshV E4;have E:=ext_trans E B2;obtain⟨⟨d0,d1,d2,d3,d4,d5,d6,d7⟩,⟨e0,e1,e2,e3,e4,e5,e6,e7⟩,hf,hlt,B⟩:=fresh16 E;clear E E3 E4 B2;go_wp2_with fail;exact bodyPost_ret (by simp[results,Tryz.results47,go_sem,d0,d1,d2,d3,d4,d5,d6,d7]) rfl (RetP.yes HK.out rfl blA)
 ·skip
  have hE:=errI_no (i:=⟨12,0,0,0,0,[],lb,0⟩) (by rw[check_label];simpa using hnm);rw[if_neg hnm]at HK;rw[hE]at CK;clear hE hnm;go_enter Tryz.func47,Tryz.ntmps47;go_wp2_with fail;refine(TR.out _).mono ?_;rintro e w1 ⟨rfl,E⟩;go_wp2_with fail;refine(T2.out _).mono ?_;rintro e w3 ⟨rfl,E3⟩;have E:=ext_trans E E3;go_wp2_with fail;refine(CK.out _).mono ?_;rintro e w4 ⟨rfl,E4⟩;obtain⟨⟨f0,f1,f2,f3,f4,f5,f6,f7⟩,hf2,hlt2,B2⟩:=freshV E4;have E:=ext_trans E B2;obtain⟨⟨d0,d1,d2,d3,d4,d5,d6,d7⟩,⟨e0,e1,e2,e3,e4,e5,e6,e7⟩,hf,hlt,B⟩:=fresh16 E;clear E E3 E4 B2;go_wp2_with fail;exact bodyPost_ret (by simp[results,Tryz.results47,go_sem,d0,d1,d2,d3,d4,d5,d6,d7]) rfl (RetP.no HK.out rfl blA)
theorem refParse_op(s t:Tx)(hl:s.length<=262144)(ht:trimT s=t)(h1:t≠[102,101,110,99,101,46,116,115,111])(h2: ¬t.getLast?=some 58)(w:World):Calls Tryz.prog 47 #[.string (tx s)] w (RetP (parseI s) w):=by
 obtain⟨r,hr⟩: ∃r,parseI s=r:=⟨_,rfl⟩;rw[hr];have HK:=hid (show readI (t.takeWhile fun c=> !blankC c) ((splitC 44 (t.dropWhile fun c=> !blankC c)).map trimT)=r by rw[<-hr];unfold parseI;rw[if_neg (by omega)];simp only[ht];rw[if_neg h1,if_neg h2]);obtain⟨n,hn⟩: ∃n,(tx s).size=n:=⟨_,rfl⟩;have hnl:n=s.length:=by rw[<-hn,tx_size]
 have hz:decide (262144<(n:Int))=false:=by simp;omega
 have TR:=hid (fun(w:World)=>refTrim' s (by omega) w);rw[ht]at TR;have htl:=trimT_length s;rw[ht]at htl;have z:((tx t).toList==[102,101,110,99,101,46,116,115,111])=false:=tx_ne _ _ h1;obtain⟨m,hm⟩: ∃m,t.length=m:=⟨_,rfl⟩;have htm:(tx t).size=m:=by rw[tx_size,hm]
 have hmb:m<=262144:=by omega
 have HM:=hid hm
 have HG:Hid (0<m-> ∃x:UInt8,(∀w,(Instr.index 9 (.string (tx t)) (.int .i64 ((m:Int)-1))).run Tryz.prog w= .ok (.int .u8 x.toNat) w)/\((x.toNat:Int)==58)=false):=hid (fun h0=>by
  obtain⟨x,hx⟩: ∃x,t[m-1]? =some x:=⟨_,List.getElem?_eq_getElem (by omega)⟩;refine⟨x,?_,u8_neq x 58 (fun e=>h2 (by rw[List.getLast?_eq_getElem?,hm,hx,e]))⟩;have:=run_ix t (m-1) x hx
  rwa[show((m-1:Nat):Int)=(m:Int)-1 by omega]at this)
 clear hr hl hnl ht h2 h1 hm htl
 have HGC:m=0\/(0<m/\ ∃x:UInt8,(∀w,(Instr.index 9 (.string (tx t)) (.int .i64 ((m:Int)-1))).run Tryz.prog w= .ok (.int .u8 x.toNat) w)/\((x.toNat:Int)==58)=false):=by
  rcases Nat.eq_zero_or_pos m with h|h
  ·exact .inl h
  ·exact .inr ⟨h,HG.out h⟩
 clear HG;have LOOPPART:=hid HGC;clear HGC;rcases LOOPPART.out with rfl|⟨h0,x,hix,z58⟩
 ·skip
  go_enter Tryz.func47,Tryz.ntmps47;go_wp2_with fail;refine(TR.out _).mono ?_;rintro e w1 ⟨rfl,E⟩;go_wp2_with fail
  go_loop [6] (fun i=> ∃k:Nat,k<=0/\i= .int .i64 k/\Hid (∀(j:Nat) (c:UInt8),j<k->t[j]? =some c->blankC c=false)) (fun i=>0-(intOf i).toNat)
  case atStart=>exact⟨0,by omega,rfl,fun j c hj=>absurd hj (Nat.not_lt_zero j)⟩
  case round=>
   obtain⟨k,hk,rfl,HB⟩:=hrel
   by_cases hend:k<0/\ ∃c,t[k]? =some c/\blankC c=false
   ·obtain⟨hlt,c,hc,hbc⟩:=hend
    omega
   ·have hlen:=takeWhile_len (fun c=> !blankC c) t k (fun j c hj hc=>by rw[HB.out j c hj hc];rfl) (fun c hc=>by
     have hlt:=(List.getElem?_eq_some_iff.1 hc).1;cases hb:blankC c with
     |true=>rfl
     |false=>exact absurd ⟨by have:=HM.out;omega,c,hc,hb⟩ hend) (by have:=HM.out;omega)
    have HK2:=HK.out;rw[takeWhile_take,dropWhile_drop',hlen]at HK2;have sl1:=run_strto t k (by have:=HM.out;omega);have sl2:=run_strfrom t k (by have:=HM.out;omega);have hsm:Sm ((splitC 44 (t.drop k)).map trimT):=splitC_sm 44 _ (by have:=HM.out;simp;omega);have SP:=hid (fun(w:World)=>refSplit (t.drop k) 44 (by have:=HM.out;simp;omega) w);have RD:=hid (fun(a:Option Addr) (c:Nat) (w:World) (h:Txs w a ((splitC 44 (t.drop k)).map trimT))=>refOperands (t.take k) _ a c w h hsm);rw[HK2]at RD;clear hsm HK2 HK hlen;generalize (splitC 44 (t.drop k)).map trimT=ps at*;generalize t.drop k=t2 at*;generalize t.take k=t1 at*
    have hex:(k<0/\ ∃c,t[k]? =some c/\blankC c=true)\/k=0:=by
     by_cases hkm:k<0
     ·left
      obtain⟨c,hc⟩: ∃c,t[k]? =some c:=⟨_,List.getElem?_eq_getElem (by have:=HM.out;omega)⟩;refine⟨hkm,c,hc,?_⟩;cases hb:blankC c with
      |true=>rfl
      |false=>exact absurd ⟨hkm,c,hc,hb⟩ hend
     ·right;omega
    clear hend;obtain rfl:k=0:=by omega
    clear hex;have sl3: ∀w,(Instr.sliceAt 9 (.string (tx t)) none (some (.int .i64 0)) none).run Tryz.prog w= .ok (.string (tx t1)) w:=sl1;have sl4: ∀w,(Instr.sliceAt 9 (.string (tx t)) (some (.int .i64 0)) none none).run Tryz.prog w= .ok (.string (tx t2)) w:=sl2;clear sl1 sl2
    ·go_wp2_with fail
     go_cut [7,8] (fun x y wx=> ∃(bb:Nat) (op d a1 b1 imm:Int) (label:Tx) (fence:Int) (ok:Bool),x= .pointer (some ⟨bb,0,none⟩)/\y= .bool ok/\Hid (keepI ⟨op,d,a1,b1,imm,[],label,fence⟩ ok=r)/\label.length<=1000000/\BxI wx bb ⟨op,d,a1,b1,imm,[],label,fence⟩/\Below (W2 w).heap.size (W2 w) wx)
     case first=>
      go_region_with (first|(go_at_call 110;refine(SP.out _).mono ?_;rintro e' w' ⟨a2,c2,rfl,tx2,E2⟩;have E5:=ext_trans (a:=w1) blA E2;have s5:=E5.size)|(go_at_call 109;refine(RD.out _ _ _ (by first|exact tx2|exact tx2.below (al _ _))).mono ?_;rintro e' w' ⟨op,d,a1,b,imm,label,fence,ok,rfl,hk,hl,E3⟩;have E6:=ext_trans (a:=w1) (by first|exact E5|exact bel_alloc E5 _) E3;have s6:=E6.size;first|(revert E3;with_reducible refine freshV_arrow ?_;intro E3 f0 f1 f2 f3 f4 f5 f6 f7 hf2 hlt2)|(have E23:=ext_trans E2 E3;revert E23;with_reducible refine freshV_drew ?_;intro E23 f0 f1 f2 f3 f4 f5 f6 f7 hf2 hlt2)|skip))
      all_goals
       go_wp2_with fail
       go_meet
       refine⟨_,op,d,a1,b,imm,label,fence,ok,rfl,rfl,hk,hl,BxI.of8 rfl ?_ ?_ ?_ ?_ ?_ ?_ ?_ ?_ ?_,ext_trans E blA⟩
       all_goals go_simp
     case rest=>
      clear E;obtain⟨bb,op,d,a1,b1,imm,label,fence,ok,rfl,rfl,hkk,hl,bx,E⟩:=hcut;have CK:=hid (fun(w:World)=>refCheck ⟨op,d,a1,b1,imm,[],label,fence⟩ (by simp;omega) w);obtain⟨q0,q1,q2,q3,q4,q5,q6,q7⟩:=bx.cells;cases ok
      ·obtain⟨⟨d0,d1,d2,d3,d4,d5,d6,d7⟩,⟨e0,e1,e2,e3,e4,e5,e6,e7⟩,hf,hlt,B⟩:=fresh16 E
       have HN:=hid (show r=none from hkk.out.symm);clear E q0 q1 q2 q3 q4 q5 q6 q7 bx;go_wp2_with fail;exact bodyPost_ret (by simp[results,Tryz.results47,go_sem,d0,d1,d2,d3,d4,d5,d6,d7]) rfl (RetP.no HN.out rfl blA)
      ·cases hck:checkI ⟨op,d,a1,b1,imm,[],label,fence⟩
       ·have hE:=errI_no hck
        have HN:=hid (show r=none by rw[<-hkk.out];unfold keepI;rw[hck];rfl);rw[hE]at CK;clear hE hck;go_wp2_with fail;refine(CK.out _).mono ?_;rintro e w9 ⟨rfl,E4⟩;have E:=E.trans (E4.mono E.size);obtain⟨⟨d0,d1,d2,d3,d4,d5,d6,d7⟩,⟨e0,e1,e2,e3,e4,e5,e6,e7⟩,hf,hlt,B⟩:=fresh16 E;clear E E4 q0 q1 q2 q3 q4 q5 q6 q7 bx;go_wp2_with fail;exact bodyPost_ret (by simp[results,Tryz.results47,go_sem,d0,d1,d2,d3,d4,d5,d6,d7]) rfl (RetP.no HN.out rfl blA)
       ·have hE:=errI_yes hck
        have HN:=hid (show r=some ⟨op,d,a1,b1,imm,[],label,fence⟩ by rw[<-hkk.out];unfold keepI;rw[hck];rfl);rw[hE]at CK;clear hE hck;go_wp2_with fail;refine(CK.out _).mono ?_;rintro e w9 ⟨rfl,E4⟩;have E:=E.trans (E4.mono E.size);have bx:=bx.below E4;clear q0 q1 q2 q3 q4 q5 q6 q7;obtain⟨q0,q1,q2,q3,q4,q5',q6,q7⟩:=bx.cells;have q5:w9.cell? ⟨bb,5,none⟩=some (.string ⟨#[]⟩):=q5';clear q5';obtain⟨⟨d0,d1,d2,d3,d4,d5,d6,d7⟩,⟨e0,e1,e2,e3,e4,e5,e6,e7⟩,hf,hlt,B⟩:=fresh16 E;clear E E4 bx;go_wp2_with fail;exact bodyPost_ret (by simp[results,Tryz.results47,go_sem,d0,d1,d2,d3,d4,d5,d6,d7]) rfl (RetP.yes HN.out rfl blA)
 ·skip
  go_enter Tryz.func47,Tryz.ntmps47;go_wp2_with fail;refine(TR.out _).mono ?_;rintro e w1 ⟨rfl,E⟩;go_wp2_with fail
  go_loop [6] (fun i=> ∃k:Nat,k<=m/\i= .int .i64 k/\Hid (∀(j:Nat) (c:UInt8),j<k->t[j]? =some c->blankC c=false)) (fun i=>m-(intOf i).toNat)
  case atStart=>exact⟨0,by omega,rfl,fun j c hj=>absurd hj (Nat.not_lt_zero j)⟩
  case round=>
   obtain⟨k,hk,rfl,HB⟩:=hrel
   by_cases hend:k<m/\ ∃c,t[k]? =some c/\blankC c=false
   ·obtain⟨hlt,c,hc,hbc⟩:=hend
    have ix:=run_ix t k c hc
    have HB2:=hid (show ∀(j:Nat) (c:UInt8),j<k+1->t[j]? =some c->blankC c=false from fun j c' hj hc'=>by
     rcases Nat.lt_succ_iff_lt_or_eq.1 hj with h|h
     ·exact HB.out j c' h hc'
     ·subst h;rw[hc]at hc';cases hc';exact hbc)
    have HC:=hid hbc;clear hc hbc
    go_wp2_with (go_at_call 108;refine(refBlank c _).mono ?_;rintro e w' ⟨rfl,rfl⟩;rw[HC.out])
    go_round
    case rel=>exact⟨k+1,by omega,by go_num,HB2⟩
    case measure=>simp[intOf];omega
   ·have hlen:=takeWhile_len (fun c=> !blankC c) t k (fun j c hj hc=>by rw[HB.out j c hj hc];rfl) (fun c hc=>by
     have hlt:=(List.getElem?_eq_some_iff.1 hc).1;cases hb:blankC c with
     |true=>rfl
     |false=>exact absurd ⟨by have:=HM.out;omega,c,hc,hb⟩ hend) (by have:=HM.out;omega)
    have HK2:=HK.out;rw[takeWhile_take,dropWhile_drop',hlen]at HK2;have sl1:=run_strto t k (by have:=HM.out;omega);have sl2:=run_strfrom t k (by have:=HM.out;omega);have hsm:Sm ((splitC 44 (t.drop k)).map trimT):=splitC_sm 44 _ (by have:=HM.out;simp;omega);have SP:=hid (fun(w:World)=>refSplit (t.drop k) 44 (by have:=HM.out;simp;omega) w);have RD:=hid (fun(a:Option Addr) (c:Nat) (w:World) (h:Txs w a ((splitC 44 (t.drop k)).map trimT))=>refOperands (t.take k) _ a c w h hsm);rw[HK2]at RD;clear hsm HK2 HK hlen;generalize (splitC 44 (t.drop k)).map trimT=ps at*;generalize t.drop k=t2 at*;generalize t.take k=t1 at*
    have hex:(k<m/\ ∃c,t[k]? =some c/\blankC c=true)\/k=m:=by
     by_cases hkm:k<m
     ·left
      obtain⟨c,hc⟩: ∃c,t[k]? =some c:=⟨_,List.getElem?_eq_getElem (by have:=HM.out;omega)⟩;refine⟨hkm,c,hc,?_⟩;cases hb:blankC c with
      |true=>rfl
      |false=>exact absurd ⟨hkm,c,hc,hb⟩ hend
     ·right;omega
    clear hend;rcases hex with⟨hlt,c,hc,hbc⟩|rfl
    ·have ix:=run_ix t k c hc
     have HC:=hid hbc;clear hc hbc
     go_wp2_with (go_at_call 108;refine(refBlank c _).mono ?_;rintro e w' ⟨rfl,rfl⟩;rw[HC.out])
     go_cut [7,8] (fun x y wx=> ∃(bb:Nat) (op d a1 b1 imm:Int) (label:Tx) (fence:Int) (ok:Bool),x= .pointer (some ⟨bb,0,none⟩)/\y= .bool ok/\Hid (keepI ⟨op,d,a1,b1,imm,[],label,fence⟩ ok=r)/\label.length<=1000000/\BxI wx bb ⟨op,d,a1,b1,imm,[],label,fence⟩/\Below (W2 w).heap.size (W2 w) wx)
     case first=>
      go_region_with (first|(go_at_call 110;refine(SP.out _).mono ?_;rintro e' w' ⟨a2,c2,rfl,tx2,E2⟩;have E5:=ext_trans (a:=w1) blA E2;have s5:=E5.size)|(go_at_call 109;refine(RD.out _ _ _ (by first|exact tx2|exact tx2.below (al _ _))).mono ?_;rintro e' w' ⟨op,d,a1,b,imm,label,fence,ok,rfl,hk,hl,E3⟩;have E6:=ext_trans (a:=w1) (by first|exact E5|exact bel_alloc E5 _) E3;have s6:=E6.size;first|(revert E3;with_reducible refine freshV_arrow ?_;intro E3 f0 f1 f2 f3 f4 f5 f6 f7 hf2 hlt2)|(have E23:=ext_trans E2 E3;revert E23;with_reducible refine freshV_drew ?_;intro E23 f0 f1 f2 f3 f4 f5 f6 f7 hf2 hlt2)|skip))
      all_goals
       go_wp2_with fail
       go_meet
       refine⟨_,op,d,a1,b,imm,label,fence,ok,rfl,rfl,hk,hl,BxI.of8 rfl ?_ ?_ ?_ ?_ ?_ ?_ ?_ ?_ ?_,ext_trans E blA⟩
       all_goals go_simp
     case rest=>
      clear E;obtain⟨bb,op,d,a1,b1,imm,label,fence,ok,rfl,rfl,hkk,hl,bx,E⟩:=hcut;have CK:=hid (fun(w:World)=>refCheck ⟨op,d,a1,b1,imm,[],label,fence⟩ (by simp;omega) w);obtain⟨q0,q1,q2,q3,q4,q5,q6,q7⟩:=bx.cells;cases ok
      ·obtain⟨⟨d0,d1,d2,d3,d4,d5,d6,d7⟩,⟨e0,e1,e2,e3,e4,e5,e6,e7⟩,hf,hlt,B⟩:=fresh16 E
       have HN:=hid (show r=none from hkk.out.symm);clear E q0 q1 q2 q3 q4 q5 q6 q7 bx;go_wp2_with fail;exact bodyPost_ret (by simp[results,Tryz.results47,go_sem,d0,d1,d2,d3,d4,d5,d6,d7]) rfl (RetP.no HN.out rfl blA)
      ·cases hck:checkI ⟨op,d,a1,b1,imm,[],label,fence⟩
       ·have hE:=errI_no hck
        have HN:=hid (show r=none by rw[<-hkk.out];unfold keepI;rw[hck];rfl);rw[hE]at CK;clear hE hck;go_wp2_with fail;refine(CK.out _).mono ?_;rintro e w9 ⟨rfl,E4⟩;have E:=E.trans (E4.mono E.size);obtain⟨⟨d0,d1,d2,d3,d4,d5,d6,d7⟩,⟨e0,e1,e2,e3,e4,e5,e6,e7⟩,hf,hlt,B⟩:=fresh16 E;clear E E4 q0 q1 q2 q3 q4 q5 q6 q7 bx;go_wp2_with fail;exact bodyPost_ret (by simp[results,Tryz.results47,go_sem,d0,d1,d2,d3,d4,d5,d6,d7]) rfl (RetP.no HN.out rfl blA)
       ·have hE:=errI_yes hck
        have HN:=hid (show r=some ⟨op,d,a1,b1,imm,[],label,fence⟩ by rw[<-hkk.out];unfold keepI;rw[hck];rfl);rw[hE]at CK;clear hE hck;go_wp2_with fail;refine(CK.out _).mono ?_;rintro e w9 ⟨rfl,E4⟩;have E:=E.trans (E4.mono E.size);have bx:=bx.below E4;clear q0 q1 q2 q3 q4 q5 q6 q7;obtain⟨q0,q1,q2,q3,q4,q5',q6,q7⟩:=bx.cells;have q5:w9.cell? ⟨bb,5,none⟩=some (.string ⟨#[]⟩):=q5';clear q5';obtain⟨⟨d0,d1,d2,d3,d4,d5,d6,d7⟩,⟨e0,e1,e2,e3,e4,e5,e6,e7⟩,hf,hlt,B⟩:=fresh16 E;clear E E4 bx;go_wp2_with fail;exact bodyPost_ret (by simp[results,Tryz.results47,go_sem,d0,d1,d2,d3,d4,d5,d6,d7]) rfl (RetP.yes HN.out rfl blA)
    ·go_wp2_with fail
     go_cut [7,8] (fun x y wx=> ∃(bb:Nat) (op d a1 b1 imm:Int) (label:Tx) (fence:Int) (ok:Bool),x= .pointer (some ⟨bb,0,none⟩)/\y= .bool ok/\Hid (keepI ⟨op,d,a1,b1,imm,[],label,fence⟩ ok=r)/\label.length<=1000000/\BxI wx bb ⟨op,d,a1,b1,imm,[],label,fence⟩/\Below (W2 w).heap.size (W2 w) wx)
     case first=>
      go_region_with (first|(go_at_call 110;refine(SP.out _).mono ?_;rintro e' w' ⟨a2,c2,rfl,tx2,E2⟩;have E5:=ext_trans (a:=w1) blA E2;have s5:=E5.size)|(go_at_call 109;refine(RD.out _ _ _ (by first|exact tx2|exact tx2.below (al _ _))).mono ?_;rintro e' w' ⟨op,d,a1,b,imm,label,fence,ok,rfl,hk,hl,E3⟩;have E6:=ext_trans (a:=w1) (by first|exact E5|exact bel_alloc E5 _) E3;have s6:=E6.size;first|(revert E3;with_reducible refine freshV_arrow ?_;intro E3 f0 f1 f2 f3 f4 f5 f6 f7 hf2 hlt2)|(have E23:=ext_trans E2 E3;revert E23;with_reducible refine freshV_drew ?_;intro E23 f0 f1 f2 f3 f4 f5 f6 f7 hf2 hlt2)|skip))
      all_goals
       go_wp2_with fail
       go_meet
       refine⟨_,op,d,a1,b,imm,label,fence,ok,rfl,rfl,hk,hl,BxI.of8 rfl ?_ ?_ ?_ ?_ ?_ ?_ ?_ ?_ ?_,ext_trans E blA⟩
       all_goals go_simp
     case rest=>
      clear E;obtain⟨bb,op,d,a1,b1,imm,label,fence,ok,rfl,rfl,hkk,hl,bx,E⟩:=hcut;have CK:=hid (fun(w:World)=>refCheck ⟨op,d,a1,b1,imm,[],label,fence⟩ (by simp;omega) w);obtain⟨q0,q1,q2,q3,q4,q5,q6,q7⟩:=bx.cells;cases ok
      ·obtain⟨⟨d0,d1,d2,d3,d4,d5,d6,d7⟩,⟨e0,e1,e2,e3,e4,e5,e6,e7⟩,hf,hlt,B⟩:=fresh16 E
       have HN:=hid (show r=none from hkk.out.symm);clear E q0 q1 q2 q3 q4 q5 q6 q7 bx;go_wp2_with fail;exact bodyPost_ret (by simp[results,Tryz.results47,go_sem,d0,d1,d2,d3,d4,d5,d6,d7]) rfl (RetP.no HN.out rfl blA)
      ·cases hck:checkI ⟨op,d,a1,b1,imm,[],label,fence⟩
       ·have hE:=errI_no hck
        have HN:=hid (show r=none by rw[<-hkk.out];unfold keepI;rw[hck];rfl);rw[hE]at CK;clear hE hck;go_wp2_with fail;refine(CK.out _).mono ?_;rintro e w9 ⟨rfl,E4⟩;have E:=E.trans (E4.mono E.size);obtain⟨⟨d0,d1,d2,d3,d4,d5,d6,d7⟩,⟨e0,e1,e2,e3,e4,e5,e6,e7⟩,hf,hlt,B⟩:=fresh16 E;clear E E4 q0 q1 q2 q3 q4 q5 q6 q7 bx;go_wp2_with fail;exact bodyPost_ret (by simp[results,Tryz.results47,go_sem,d0,d1,d2,d3,d4,d5,d6,d7]) rfl (RetP.no HN.out rfl blA)
       ·have hE:=errI_yes hck
        have HN:=hid (show r=some ⟨op,d,a1,b1,imm,[],label,fence⟩ by rw[<-hkk.out];unfold keepI;rw[hck];rfl);rw[hE]at CK;clear hE hck;go_wp2_with fail;refine(CK.out _).mono ?_;rintro e w9 ⟨rfl,E4⟩;have E:=E.trans (E4.mono E.size);have bx:=bx.below E4;clear q0 q1 q2 q3 q4 q5 q6 q7;obtain⟨q0,q1,q2,q3,q4,q5',q6,q7⟩:=bx.cells;have q5:w9.cell? ⟨bb,5,none⟩=some (.string ⟨#[]⟩):=q5';clear q5';obtain⟨⟨d0,d1,d2,d3,d4,d5,d6,d7⟩,⟨e0,e1,e2,e3,e4,e5,e6,e7⟩,hf,hlt,B⟩:=fresh16 E;clear E E4 bx;go_wp2_with fail;exact bodyPost_ret (by simp[results,Tryz.results47,go_sem,d0,d1,d2,d3,d4,d5,d6,d7]) rfl (RetP.yes HN.out rfl blA)
theorem refParse(s:Tx)(w:World):Calls Tryz.prog 47 #[.string (tx s)] w (RetP (parseI s) w):=by
 by_cases hl:s.length<=262144
 ·by_cases h1:trimT s=[102,101,110,99,101,46,116,115,111]
  ·exact refParse_tso s hl h1 w
  ·by_cases h2:(trimT s).getLast?=some 58
   ·exact refParse_label s _ hl rfl h1 h2 w
   ·exact refParse_op s _ hl rfl h1 h2 w
 ·exact refParse_long s (by omega) w
end Go.Proofs.YtkbbgjloifmmbaaGreatDoor
