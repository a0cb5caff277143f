/- What ReadPiecesP leans on, part 25. -/
import Derived.Test.YtkbbgjloifmmbaaGreatDoorRp15
set_option linter.unusedVariables false
set_option maxRecDepth 100000
set_option maxHeartbeats 3200000
namespace Go.Proofs.YtkbbgjloifmmbaaGreatDoor
open Go.RowKit Go.Sort
theorem readThing{w:World}{B rb:Nat}{arch:Int}{s:Tx}{a:Option Addr}{c:Nat}{L:List Tok}{k:Nat}(R:Rdr w B rb arch s a c L k)(hsh: ∀t∈L,t.1.length<=s.length)(g:Gl w):
 Calls Tryz.prog 350 #[.pointer (some ⟨rb,0,none⟩)] w (RetC w B rb arch s a c L (thingR arch (L.drop k)) VT):=by
 by_cases h91:headS (L.drop k)=[91]
 ·exact condThing_1 R hsh h91
 ·cases hn:numHead (headS (L.drop k))with
  |true=>exact condThing_2 R hsh g h91 hn
  |false=>exact condThing_3 R hsh h91 hn
theorem rowF_eq{k:Int}{sign:Tx}{one:List Tok->PR Nd}{n:Nat}{acc:List Nd}{l:List Tok}(h:headS l=sign):rowF k sign one (n+1) acc l=match one l.tail with
 | .error e=>.error e
 | .ok (x,r)=>rowF k sign one n (acc++[x]) r:=by rw[rowF,if_pos h];cases one l.tail<;>rfl
theorem rowF_no{k:Int}{sign:Tx}{one:List Tok->PR Nd}{n:Nat}{acc:List Nd}{l:List Tok}(h:headS l≠sign):rowF k sign one n acc l= .ok (oneR k acc,l):=by
 cases n with
 |zero=>rfl
 |succ n=>rw[rowF,if_neg h]
theorem rowR_err{k:Int}{sign:Tx}{one:List Tok->PR Nd}{l e:List Tok}(h:one l= .error e):rowR k sign one l= .error e:=by unfold rowR;rw[h]
theorem rowR_ok'{k:Int}{sign:Tx}{one:List Tok->PR Nd}{l r:List Tok}{x:Nd}(h:one l= .ok (x,r)):rowR k sign one l=rowF k sign one r.length [x] r:=by unfold rowR;rw[h]
theorem oneR_no{k:Int}{l:List Nd}(h:l.length≠1):oneR k l=ndK k l:=by
 match l with
 |[]=>rfl
 |[x]=>exact absurd rfl h
 |x::y::r=>rfl
structure RdG(w0 w:World)(rb:Nat)(arch:Int)(s:Tx)(a:Option Addr)(c:Nat)(L:List Tok)(k:Nat):Prop where
 rd:Rdr w w0.heap.size rb arch s a c L k
 g:Gl w0
 bel:Below w0.heap.size w0 w
 sh: ∀t∈L,t.1.length<=s.length
section
variable {w0 w w1:World} {rb:Nat} {arch:Int} {s:Tx} {a:Option Addr} {c:Nat} {L:List Tok} {k k1:Nat}
theorem RdG.gl(h:RdG w0 w rb arch s a c L k):Gl w:=h.g.below h.bel
theorem RdG.lo(h:RdG w0 w rb arch s a c L k):w0.heap.size<=rb/\rb<w.heap.size:=by
 have:=Own.lt h.rd.own (by simp);simpa using this
theorem RdG.below(h:RdG w0 w rb arch s a c L k)(hb:Below w.heap.size w w1):RdG w0 w1 rb arch s a c L k:=
 ⟨h.rd.below hb,h.g,h.bel.trans (hb.mono h.bel.size),h.sh⟩
theorem RdG.st(h:RdG w0 w rb arch s a c L k)(hs:St w w1 rb)(hr:Rdr w1 w0.heap.size rb arch s a c L k1):RdG w0 w1 rb arch s a c L k1:=
 ⟨hr,h.g,h.bel.grown hs.grown h.bel.size (fun r hr=>by simp at hr;subst hr;exact h.lo.1),h.sh⟩
theorem RdG.next(h:RdG w0 w rb arch s a c L k)(hk:k<L.length):RdG w0 (w.setCell ⟨rb,3,none⟩ (.int .i64 ((k:Int)+1))) rb arch s a c L (k+1):=by
 obtain⟨R2,S2⟩:=h.rd.next hk;exact h.st S2 R2
end
theorem grown_step{w w':World}{b:Nat}(hg:w.grownBy w' (Option.some b)):Step w w' (Option.some ⟨b,0,none⟩) (Option.some ⟨b,0,none⟩):=⟨hg,.inl rfl⟩
theorem RdG.grew{w0 w w1:World}{rb b:Nat}{arch:Int}{s:Tx}{a:Option Addr}{c:Nat}{L:List Tok}{k:Nat}(h:RdG w0 w rb arch s a c L k)(hg:w.grownBy w1 (Option.some b))(hb:b≠rb)(ha:L≠[]->bk a≠b)(hw:w0.heap.size<=b):RdG w0 w1 rb arch s a c L k:=
 ⟨⟨Own.kept h.rd.own hg (.inr (by simp;exact fun e=>hb e.symm)),Els.step cTok_len (by omega) h.rd.toks (grown_step hg) ha,h.rd.ne,h.rd.le,h.rd.sm,h.rd.sl⟩,h.g,h.bel.grown hg h.bel.size (fun r hr=>by simp at hr;omega),h.sh⟩
theorem grown_put{w w':World}{b:Nat}(h:w.grownBy w' (Option.some b))(j:Nat)(v:Value):w.grownBy (w'.setCell ⟨b,j,none⟩ v) (Option.some b):=
 ⟨h.os,h.tape,h.output,by simpa using h.size,fun k hk hne=>by rw[Below.heap_setCell _ _ _ _ (by simp;exact fun e=>hne (by rw[e]))];exact h.block k hk hne⟩
theorem grown_refl(w:World)(b:Nat):w.grownBy w (Option.some b):=⟨rfl,rfl,rfl,Nat.le_refl _,fun k hk hne=>rfl⟩
theorem VN.fin{w0 w w1 w2:World}{rb:Nat}{arch:Int}{s:Tx}{a:Option Addr}{c:Nat}{L:List Tok}{k:Nat}{o:Obj}{pp:PR Nd}{e:Ending}(hG:RdG w0 w1 rb arch s a c L k)(hS:St (w.alloc o) w1 rb)(hg:w1.grownBy w2 (Option.some w.heap.size))(hrb:rb<w.heap.size)(hT:L≠[]->bk a<w.heap.size)(y:Nd)(hN:NdW w1 (w.heap.size+1) y)(hn:(blkN y).Nodup)(hp:pp= .ok (bareN y,L.drop k))(he:e= .returned (vN y)):RetC w w0.heap.size rb arch s a c L pp (VN w.heap.size) e w2:=by
 have h0:=hG.lo.1;have h1:=hG.grew hg (by omega) (fun h=>by have:=hT h;omega) (by omega);have hs:=(St.new (St.refl w rb) o).trans hS;refine⟨⟨⟨hg.os.trans hs.grown.os,hg.tape.trans hs.grown.tape,hg.output.trans hs.grown.output,Nat.le_trans hs.grown.size hg.size,fun j hj hne=>?_⟩,.inl rfl⟩,.inr ⟨_,k,hp,⟨y,rfl,he,?_,hn⟩,h1.rd⟩⟩
 ·rw[hg.block j (Nat.lt_of_lt_of_le hj hs.grown.size) (by simp;omega)]
  exact hs.grown.block j hj hne
 ·refine(hN.mono (B':=w.heap.size) (by omega)).kept hg fun b hb e=>?_
  have:=(hN.lt b hb).1;simp at e;omega
def OneC(F:Nat)(w0:World)(rb:Nat)(arch:Int)(s:Tx)(a:Option Addr)(c:Nat)(L:List Tok)(m:Nat)(one:List Tok->PR Nd):Prop:=
 ∀(w:World) (k:Nat),RdG w0 w rb arch s a c L k->(L.drop k).length<=m->Calls Tryz.prog F #[.pointer (some ⟨rb,0,none⟩)] w (RetC w w0.heap.size rb arch s a c L (one (L.drop k)) (VN w.heap.size))
abbrev zN0:Obj:=.cells #[.int .i64 0,.int .i64 0,.int .i64 0,.string ⟨#[]⟩,.int .i64 0,.slice none 0 0] 28
theorem st_grew{w w1 w2:World}{rb:Nat}{a a':Option Addr}{c c':Nat}(h:St w w1 rb)(hg:Grew w1 w2 a c a' c')(ha:a≠none)(hw:w.heap.size<=bk a):St w w2 rb:=by
 refine⟨⟨?_,?_,?_,?_,fun k hk hne=>?_⟩,.inl rfl⟩
 all_goals have h1:=h.grown
 all_goals have h2:=hg.step.grown
 ·exact h2.os.trans h1.os
 ·exact h2.tape.trans h1.tape
 ·exact h2.output.trans h1.output
 ·exact Nat.le_trans h1.size h2.size
 ·rw[h2.block k (Nat.lt_of_lt_of_le hk h1.size) ?_,h1.block k hk hne]
  cases a with
  |none=>exact absurd rfl ha
  |some p=>have hw':w.heap.size<=p.block:=hw;simp;omega
theorem condRowAnd_e{w0 w:World}{rb:Nat}{arch:Int}{s:Tx}{a:Option Addr}{c:Nat}{L:List Tok}{k:Nat}{m:Nat}{one:List Tok->PR Nd}(R:RdG w0 w rb arch s a c L k)(kd:Int)(sign:Tx)(hm:(L.drop k).length<=m)
 (ONE:OneC 300 w0 rb arch s a c L m one) (er:List Tok) (hone:one (L.drop k)= .error er):
 Calls Tryz.prog 299 #[.pointer (some ⟨rb,0,none⟩),.int .i64 kd,.string (tx sign),.func (.func 300) #[.pointer (some ⟨rb,0,none⟩)] #[]] w (RetC w w0.heap.size rb arch s a c L (rowR kd sign one (L.drop k)) (VN w.heap.size)):=by
 rw[rowR_err hone];have O:=ONE _ k (R.below (al w zN0)) hm;rw[hone]at O;have O:=hid O;clear hone ONE R;go_enter Tryz.func299,Tryz.ntmps299;go_wp2_with fail;refine O.out.mono ?_;rintro e w1 h;obtain⟨rfl,S⟩:=h.err rfl;unfold PanC;go_wp2_with fail;exact⟨rfl,(St.new (St.refl w rb) zN0).trans S,.inl ⟨_,rfl,rfl⟩⟩
theorem condRowAnd{w0 w:World}{rb:Nat}{arch:Int}{s:Tx}{a:Option Addr}{c:Nat}{L:List Tok}{k:Nat}{m:Nat}{one:List Tok->PR Nd}(R:RdG w0 w rb arch s a c L k)(kd:Int)(sign:Tx)(hs:sign≠[])(hm:(L.drop k).length<=m)
 (ONE:OneC 300 w0 rb arch s a c L m one) (H: ∀l x r,l.length<=m->one l= .ok (x,r)->r.length<l.length):
 Calls Tryz.prog 299 #[.pointer (some ⟨rb,0,none⟩),.int .i64 kd,.string (tx sign),.func (.func 300) #[.pointer (some ⟨rb,0,none⟩)] #[]] w (RetC w w0.heap.size rb arch s a c L (rowR kd sign one (L.drop k)) (VN w.heap.size)):=by
 cases hone:one (L.drop k)with
 |error er=>exact condRowAnd_e R kd sign hm ONE er hone
 | ok p=>
   obtain⟨x,r⟩:=p;have hr:=H _ _ _ hm hone;have O:=ONE _ k (R.below (al w zN0)) hm;rw[hone]at O;have O:=hid O;rw[rowR_ok' hone];have HONE:=hid ONE;have HH:=hid H;have HG:=hid (R.below (al w zN0));have hrb:=R.lo.2;have hrb0:=R.lo.1;have HT:=hid (show L≠[]->bk a<w.heap.size from fun h=>R.rd.toks.lt cTok_len (by omega) h);have hL:L.length<=262144:=R.rd.sm;have hdl:r.length<m:=by omega
   obtain⟨pp,hpp⟩: ∃pp,rowF kd sign one r.length [x] r=pp:=⟨_,rfl⟩;rw[hpp];have HPP:=hid hpp;have HS:=hid hs;have PK:=hid (fun(w:World) (k':Nat) (R:Rdr w w0.heap.size rb arch s a c L k')=>peek0 R);have hrL:r.length<L.length:=by have h1:(L.drop k).length=L.length-k:=List.length_drop;omega
   clear hone ONE R H hs hm hr hpp;go_enter Tryz.func299,Tryz.ntmps299;go_wp2_with fail;refine O.out.mono ?_;rintro e w1 h;obtain⟨k1,rfl,⟨y,hy,rfl,hyo,hyn⟩,R1,S1⟩:=h.okay rfl;have N1:=hid (show NdsF (w1.alloc (mkN y)) (w.heap.size+1) (Option.some ⟨w1.heap.size,0,none⟩) 1 [y] by have h0:=NdsF.one hyo hyn S1.grown.size;simpa using h0);have G1:=hid ((HG.out.st S1 R1).below (al w1 (mkN y)));have S1:=hid (St.new S1 (mkN y));have HY:=hid (show bareL [y]=[x] by rw[bareL_cons,bareL_nil,hy]);clear h hyo hyn R1;go_wp2_with fail
   go_loopw [9] (fun v wr=> ∃(k2:Nat) (a2:Option Addr) (c2 n2:Nat) (l2:List Nd),v= .slice a2 l2.length c2/\Hid (pp=rowF kd sign one n2 (bareL l2) (L.drop k2))/\(L.drop k2).length<=n2/\(L.drop k2).length<=m/\l2.length+(L.drop k2).length<=L.length/\Hid (RdG w0 wr rb arch s a c L k2)/\Hid (NdsF wr (w.heap.size+1) a2 c2 l2)/\Hid (St (w.alloc zN0) wr rb)) (fun v _=>match v with| .slice _ n _=>300000-n|_=>0)
   case atStart=>exact⟨k1,_,_,(L.drop k1).length,[y],rfl,by rw[HY.out];exact HPP.out.symm,Nat.le_refl _,by omega,by simp only[List.length_singleton];omega,G1.out,N1.out,S1.out⟩
   case round=>
    obtain⟨k2,a2,c2,n2,l2,rfl,HP,hn2,hm2,hl2,HG2,HN2,HS2⟩:=hrel;have lo2:=HG2.out.lo;have hlo:=HN2.out.lt;have hd2:(L.drop k2).length=L.length-k2:=List.length_drop;have hs1:w.heap.size+1<=wr.heap.size:=by have:=HS2.out.grown.size;simpa using this
    have PK2:=hid (PK.out _ _ HG2.out.rd);unfold PeekC at PK2
    by_cases hsg:headS (L.drop k2)=sign
    ·rw[hsg]at PK2
     have z:((tx sign).toList==(tx sign).toList)=true:=by simp
     have hk2:k2<L.length:=head_lt (by rw[hsg];exact HS.out);obtain⟨n3,rfl⟩: ∃n3,n2=n3+1:=⟨n2-1,by omega⟩;have HP2:=hid (HP.out.trans (rowF_eq hsg));rw[List.tail_drop]at HP2;have hd3:(L.drop (k2+1)).length=L.length-(k2+1):=List.length_drop;have O2:=hid (fun(w:World) (R:RdG w0 w rb arch s a c L (k2+1))=>HONE.out w (k2+1) R (by omega));cases hone2:one (L.drop (k2+1))with
     | error er=>
       rw[hone2]at HP2 O2;clear hone2 hsg;go_wp2_with fail;refine PK2.out.mono ?_;rintro e w2 ⟨rfl,q⟩;have G2:=HG2.out.below q.below';obtain⟨c0,c1,c2',c3,f3,lt⟩:=G2.rd.cells;obtain⟨R3,S3⟩:=G2.rd.next hk2;have G3:=hid (G2.st S3 R3);have S3:=hid (HS2.out.trans ((step_below q.below').trans S3));clear q G2 R3;go_wp2_with fail;refine(O2.out _ G3.out).mono ?_;rintro e w3 h;obtain⟨rfl,S4⟩:=h.err rfl;unfold PanC;go_wp2_with fail;exact⟨rfl,(St.new (St.refl w rb) zN0).trans (S3.out.trans S4),.inl ⟨_,HP2.out,rfl⟩⟩
     | ok p2=>
       obtain⟨x2,r2⟩:=p2;rw[hone2]at HP2 O2;have hr2:=HH.out _ _ _ (by omega) hone2;clear hone2 hsg;go_wp2_with fail;refine PK2.out.mono ?_;rintro e w2 ⟨rfl,q⟩;have G2:=HG2.out.below q.below';obtain⟨c0,c1,c2',c3,f3,lt⟩:=G2.rd.cells;obtain⟨R3,S3⟩:=G2.rd.next hk2;have G3:=hid (G2.st S3 R3);have S3:=hid ((step_below (bw:=rb) q.below').trans S3);have hq:=q.below'.size;clear q G2 R3;go_wp2_with fail;refine(O2.out _ G3.out).mono ?_;rintro e w3 h;obtain⟨k3,rfl,⟨y2,hy2,rfl,hyo,hyn⟩,R4,S4⟩:=h.okay rfl;have G4:=hid (G3.out.st S4 R4);have S5:=S3.out.trans S4;have N3:=HN2.out.st S5 (by omega);have hO:=N3.own;have hs3:=S5.grown.size;have hyo:=hid (hyo.mono (B':=wr.heap.size) (by simp;omega));have S5:=hid S5;clear h N3 S4 R4
       go_wp2_with (at_builtin;go_loud(refine wpList_app1 ndl (.tmp 24) (.tmp 27) rfl rfl rfl hO rfl rfl (by exact cN_one y2) (Below.refl _ w3) (by omega) (by omega) (by unfold maxLen;omega) ?_))
       intro a' c' w4 hO' hg hB'
       have hO2:OwnNd w4 (w.heap.size+1) a' (l2++[y2]).length c' (l2++[y2]):=by
        unfold OwnNd;rw[flat_app,flat_one,List.length_append];exact hO'
       have ha':a'≠none:=Own.some hO2 (by simp);obtain⟨N4,S6⟩:=HN2.out.app (by omega) S5.out (by omega) hyo.out hyn hO2 hg ha';have N4:=hid N4;have S7:=hid (st_grew (HS2.out.trans S5.out) hg HN2.out.ne (by simp;omega));have G5:=hid (G4.out.grew (show w3.grownBy w4 (Option.some (bk a2))from S6.grown) (by omega) (fun h=>by have:=HT.out h;omega) (by omega));have HP3:=hid (show pp=rowF kd sign one n3 (bareL (l2++[y2])) (L.drop k3) by rw[HP2.out,bareL_app,bareL_cons,bareL_nil,hy2]);clear hO hO' hg hB' hO2 S6;go_wp2_with fail
       go_roundw
       case rel=>exact⟨k3,a',c',n3,l2++[y2],by simp,HP3,by omega,by omega,by simp only[List.length_append,List.length_singleton];omega,G5,N4,S7⟩
       case measure=>simp;omega
    ·have z:((tx (headS (L.drop k2))).toList==(tx sign).toList)=false:=by rw[tx_toList,tx_toList];simpa using hsg
     have HP2:=hid (HP.out.trans (rowF_no hsg));generalize headS (L.drop k2)=u at*;obtain⟨n,hn⟩: ∃n,l2.length=n:=⟨_,rfl⟩;have hl3:n<=1000000:=by omega
     by_cases h1:n=1
     ·subst h1
      obtain⟨y,rfl⟩: ∃y,l2=[y]:=List.length_eq_one_iff.1 hn;have EL:=OwnNd.els HN2.out.own (by omega);have ix:=EL.idx ndl cN_len 0 (by simp) c2;rw[show((0:Nat):Int)=0 from rfl,hn]at ix;rw[hn];simp only[Nat.zero_mul,Nat.add_zero]at ix;go_wp2_with fail;refine PK2.out.mono ?_;rintro e w2 ⟨rfl,q⟩;have N2:=HN2.out.below q.below';obtain⟨d0,d1,d2,d3,d4,d5⟩:=Els.nd (k:=0) (OwnNd.els N2.own (by omega)) rfl;simp only[Nat.zero_mul,Nat.add_zero]at d0 d1 d2 d3 d4 d5;have S3:=HS2.out.trans (step_below (bw:=rb) q.below');have G3:=hid (HG2.out.below q.below');have b8:=thing_cells S3 hrb;have fz:=fun j=>(frz_step S3 (b:=w.heap.size) (by simp) (by omega) j).trans (frz_new w _ _ j)
      have p0:=b8.get 0 _ rfl;have p1:=b8.get 1 _ rfl;have p2:=b8.get 2 _ rfl;have p3:=b8.get 3 _ rfl;have p4:=b8.get 4 _ rfl;have p5:=b8.get 5 _ rfl;have N2:=hid N2;have S3:=hid S3;clear b8 q;go_wp2_with fail;exact bodyPost_ret (by simp[results,Tryz.results299,go_sem,p0,p1,p2,p3,p4,p5]) rfl (VN.fin G3.out S3.out (by(repeat refine grown_put ?_ _ _);exact grown_refl _ _) hrb HT.out y N2.out.sole.1 N2.out.sole.2 (by rw[HP2.out];rfl) rfl)
     ·have z1:((n:Int)==1)=false:=by simp;omega
      rw[hn];go_wp2_with fail;refine PK2.out.mono ?_;rintro e w2 ⟨rfl,q⟩;have N2:=HN2.out.below q.below';have S3:=HS2.out.trans (step_below (bw:=rb) q.below');have G3:=hid (HG2.out.below q.below');have b8:=thing_cells S3 hrb;have fz:=fun j=>(frz_step S3 (b:=w.heap.size) (by simp) (by omega) j).trans (frz_new w _ _ j)
      have p0:=b8.get 0 _ rfl;have p1:=b8.get 1 _ rfl;have p2:=b8.get 2 _ rfl;have p3:=b8.get 3 _ rfl;have p4:=b8.get 4 _ rfl;have p5:=b8.get 5 _ rfl;have N2:=hid (N2.node kd zTh 0 (by decide) (by omega));have S3:=hid S3;clear b8 q;go_wp2_with fail;exact bodyPost_ret (by simp[results,Tryz.results299,go_sem,p0,p1,p2,p3,p4,p5,hn,Nd.kind,Nd.th,zTh,Nd.val,Nd.a,Nd.c,Nd.kids,tx_nil]) rfl (VN.fin G3.out S3.out (by(repeat refine grown_put ?_ _ _);exact grown_refl _ _) hrb HT.out (.mk kd zTh 0 a2 c2 l2) N2.out.1 N2.out.2 (by rw[HP2.out,bareN_eq,oneR_no (by rw[bareL_length,hn];exact h1)];rfl) rfl)
theorem condRowNot_e{w0 w:World}{rb:Nat}{arch:Int}{s:Tx}{a:Option Addr}{c:Nat}{L:List Tok}{k:Nat}{m:Nat}{one:List Tok->PR Nd}(R:RdG w0 w rb arch s a c L k)(kd:Int)(sign:Tx)(hm:(L.drop k).length<=m)
 (ONE:OneC 332 w0 rb arch s a c L m one) (er:List Tok) (hone:one (L.drop k)= .error er):
 Calls Tryz.prog 299 #[.pointer (some ⟨rb,0,none⟩),.int .i64 kd,.string (tx sign),.func (.func 332) #[.pointer (some ⟨rb,0,none⟩)] #[]] w (RetC w w0.heap.size rb arch s a c L (rowR kd sign one (L.drop k)) (VN w.heap.size)):=by
 rw[rowR_err hone];have O:=ONE _ k (R.below (al w zN0)) hm;rw[hone]at O;have O:=hid O;clear hone ONE R;go_enter Tryz.func299,Tryz.ntmps299;go_wp2_with fail;refine O.out.mono ?_;rintro e w1 h;obtain⟨rfl,S⟩:=h.err rfl;unfold PanC;go_wp2_with fail;exact⟨rfl,(St.new (St.refl w rb) zN0).trans S,.inl ⟨_,rfl,rfl⟩⟩
theorem condRowNot{w0 w:World}{rb:Nat}{arch:Int}{s:Tx}{a:Option Addr}{c:Nat}{L:List Tok}{k:Nat}{m:Nat}{one:List Tok->PR Nd}(R:RdG w0 w rb arch s a c L k)(kd:Int)(sign:Tx)(hs:sign≠[])(hm:(L.drop k).length<=m)
 (ONE:OneC 332 w0 rb arch s a c L m one) (H: ∀l x r,l.length<=m->one l= .ok (x,r)->r.length<l.length):
 Calls Tryz.prog 299 #[.pointer (some ⟨rb,0,none⟩),.int .i64 kd,.string (tx sign),.func (.func 332) #[.pointer (some ⟨rb,0,none⟩)] #[]] w (RetC w w0.heap.size rb arch s a c L (rowR kd sign one (L.drop k)) (VN w.heap.size)):=by
 cases hone:one (L.drop k)with
 |error er=>exact condRowNot_e R kd sign hm ONE er hone
 | ok p=>
   obtain⟨x,r⟩:=p;have hr:=H _ _ _ hm hone;have O:=ONE _ k (R.below (al w zN0)) hm;rw[hone]at O;have O:=hid O;rw[rowR_ok' hone];have HONE:=hid ONE;have HH:=hid H;have HG:=hid (R.below (al w zN0));have hrb:=R.lo.2;have hrb0:=R.lo.1;have HT:=hid (show L≠[]->bk a<w.heap.size from fun h=>R.rd.toks.lt cTok_len (by omega) h);have hL:L.length<=262144:=R.rd.sm;have hdl:r.length<m:=by omega
   obtain⟨pp,hpp⟩: ∃pp,rowF kd sign one r.length [x] r=pp:=⟨_,rfl⟩;rw[hpp];have HPP:=hid hpp;have HS:=hid hs;have PK:=hid (fun(w:World) (k':Nat) (R:Rdr w w0.heap.size rb arch s a c L k')=>peek0 R);have hrL:r.length<L.length:=by have h1:(L.drop k).length=L.length-k:=List.length_drop;omega
   clear hone ONE R H hs hm hr hpp;go_enter Tryz.func299,Tryz.ntmps299;go_wp2_with fail;refine O.out.mono ?_;rintro e w1 h;obtain⟨k1,rfl,⟨y,hy,rfl,hyo,hyn⟩,R1,S1⟩:=h.okay rfl;have N1:=hid (show NdsF (w1.alloc (mkN y)) (w.heap.size+1) (Option.some ⟨w1.heap.size,0,none⟩) 1 [y] by have h0:=NdsF.one hyo hyn S1.grown.size;simpa using h0);have G1:=hid ((HG.out.st S1 R1).below (al w1 (mkN y)));have S1:=hid (St.new S1 (mkN y));have HY:=hid (show bareL [y]=[x] by rw[bareL_cons,bareL_nil,hy]);clear h hyo hyn R1;go_wp2_with fail
   go_loopw [9] (fun v wr=> ∃(k2:Nat) (a2:Option Addr) (c2 n2:Nat) (l2:List Nd),v= .slice a2 l2.length c2/\Hid (pp=rowF kd sign one n2 (bareL l2) (L.drop k2))/\(L.drop k2).length<=n2/\(L.drop k2).length<=m/\l2.length+(L.drop k2).length<=L.length/\Hid (RdG w0 wr rb arch s a c L k2)/\Hid (NdsF wr (w.heap.size+1) a2 c2 l2)/\Hid (St (w.alloc zN0) wr rb)) (fun v _=>match v with| .slice _ n _=>300000-n|_=>0)
   case atStart=>exact⟨k1,_,_,(L.drop k1).length,[y],rfl,by rw[HY.out];exact HPP.out.symm,Nat.le_refl _,by omega,by simp only[List.length_singleton];omega,G1.out,N1.out,S1.out⟩
   case round=>
    obtain⟨k2,a2,c2,n2,l2,rfl,HP,hn2,hm2,hl2,HG2,HN2,HS2⟩:=hrel;have lo2:=HG2.out.lo;have hlo:=HN2.out.lt;have hd2:(L.drop k2).length=L.length-k2:=List.length_drop;have hs1:w.heap.size+1<=wr.heap.size:=by have:=HS2.out.grown.size;simpa using this
    have PK2:=hid (PK.out _ _ HG2.out.rd);unfold PeekC at PK2
    by_cases hsg:headS (L.drop k2)=sign
    ·rw[hsg]at PK2
     have z:((tx sign).toList==(tx sign).toList)=true:=by simp
     have hk2:k2<L.length:=head_lt (by rw[hsg];exact HS.out);obtain⟨n3,rfl⟩: ∃n3,n2=n3+1:=⟨n2-1,by omega⟩;have HP2:=hid (HP.out.trans (rowF_eq hsg));rw[List.tail_drop]at HP2;have hd3:(L.drop (k2+1)).length=L.length-(k2+1):=List.length_drop;have O2:=hid (fun(w:World) (R:RdG w0 w rb arch s a c L (k2+1))=>HONE.out w (k2+1) R (by omega));cases hone2:one (L.drop (k2+1))with
     | error er=>
       rw[hone2]at HP2 O2;clear hone2 hsg;go_wp2_with fail;refine PK2.out.mono ?_;rintro e w2 ⟨rfl,q⟩;have G2:=HG2.out.below q.below';obtain⟨c0,c1,c2',c3,f3,lt⟩:=G2.rd.cells;obtain⟨R3,S3⟩:=G2.rd.next hk2;have G3:=hid (G2.st S3 R3);have S3:=hid (HS2.out.trans ((step_below q.below').trans S3));clear q G2 R3;go_wp2_with fail;refine(O2.out _ G3.out).mono ?_;rintro e w3 h;obtain⟨rfl,S4⟩:=h.err rfl;unfold PanC;go_wp2_with fail;exact⟨rfl,(St.new (St.refl w rb) zN0).trans (S3.out.trans S4),.inl ⟨_,HP2.out,rfl⟩⟩
     | ok p2=>
       obtain⟨x2,r2⟩:=p2;rw[hone2]at HP2 O2;have hr2:=HH.out _ _ _ (by omega) hone2;clear hone2 hsg;go_wp2_with fail;refine PK2.out.mono ?_;rintro e w2 ⟨rfl,q⟩;have G2:=HG2.out.below q.below';obtain⟨c0,c1,c2',c3,f3,lt⟩:=G2.rd.cells;obtain⟨R3,S3⟩:=G2.rd.next hk2;have G3:=hid (G2.st S3 R3);have S3:=hid ((step_below (bw:=rb) q.below').trans S3);have hq:=q.below'.size;clear q G2 R3;go_wp2_with fail;refine(O2.out _ G3.out).mono ?_;rintro e w3 h;obtain⟨k3,rfl,⟨y2,hy2,rfl,hyo,hyn⟩,R4,S4⟩:=h.okay rfl;have G4:=hid (G3.out.st S4 R4);have S5:=S3.out.trans S4;have N3:=HN2.out.st S5 (by omega);have hO:=N3.own;have hs3:=S5.grown.size;have hyo:=hid (hyo.mono (B':=wr.heap.size) (by simp;omega));have S5:=hid S5;clear h N3 S4 R4
       go_wp2_with (at_builtin;go_loud(refine wpList_app1 ndl (.tmp 24) (.tmp 27) rfl rfl rfl hO rfl rfl (by exact cN_one y2) (Below.refl _ w3) (by omega) (by omega) (by unfold maxLen;omega) ?_))
       intro a' c' w4 hO' hg hB'
       have hO2:OwnNd w4 (w.heap.size+1) a' (l2++[y2]).length c' (l2++[y2]):=by
        unfold OwnNd;rw[flat_app,flat_one,List.length_append];exact hO'
       have ha':a'≠none:=Own.some hO2 (by simp);obtain⟨N4,S6⟩:=HN2.out.app (by omega) S5.out (by omega) hyo.out hyn hO2 hg ha';have N4:=hid N4;have S7:=hid (st_grew (HS2.out.trans S5.out) hg HN2.out.ne (by simp;omega));have G5:=hid (G4.out.grew (show w3.grownBy w4 (Option.some (bk a2))from S6.grown) (by omega) (fun h=>by have:=HT.out h;omega) (by omega));have HP3:=hid (show pp=rowF kd sign one n3 (bareL (l2++[y2])) (L.drop k3) by rw[HP2.out,bareL_app,bareL_cons,bareL_nil,hy2]);clear hO hO' hg hB' hO2 S6;go_wp2_with fail
       go_roundw
       case rel=>exact⟨k3,a',c',n3,l2++[y2],by simp,HP3,by omega,by omega,by simp only[List.length_append,List.length_singleton];omega,G5,N4,S7⟩
       case measure=>simp;omega
    ·have z:((tx (headS (L.drop k2))).toList==(tx sign).toList)=false:=by rw[tx_toList,tx_toList];simpa using hsg
     have HP2:=hid (HP.out.trans (rowF_no hsg));generalize headS (L.drop k2)=u at*;obtain⟨n,hn⟩: ∃n,l2.length=n:=⟨_,rfl⟩;have hl3:n<=1000000:=by omega
     by_cases h1:n=1
     ·subst h1
      obtain⟨y,rfl⟩: ∃y,l2=[y]:=List.length_eq_one_iff.1 hn;have EL:=OwnNd.els HN2.out.own (by omega);have ix:=EL.idx ndl cN_len 0 (by simp) c2;rw[show((0:Nat):Int)=0 from rfl,hn]at ix;rw[hn];simp only[Nat.zero_mul,Nat.add_zero]at ix;go_wp2_with fail;refine PK2.out.mono ?_;rintro e w2 ⟨rfl,q⟩;have N2:=HN2.out.below q.below';obtain⟨d0,d1,d2,d3,d4,d5⟩:=Els.nd (k:=0) (OwnNd.els N2.own (by omega)) rfl;simp only[Nat.zero_mul,Nat.add_zero]at d0 d1 d2 d3 d4 d5;have S3:=HS2.out.trans (step_below (bw:=rb) q.below');have G3:=hid (HG2.out.below q.below');have b8:=thing_cells S3 hrb;have fz:=fun j=>(frz_step S3 (b:=w.heap.size) (by simp) (by omega) j).trans (frz_new w _ _ j)
      have p0:=b8.get 0 _ rfl;have p1:=b8.get 1 _ rfl;have p2:=b8.get 2 _ rfl;have p3:=b8.get 3 _ rfl;have p4:=b8.get 4 _ rfl;have p5:=b8.get 5 _ rfl;have N2:=hid N2;have S3:=hid S3;clear b8 q;go_wp2_with fail;exact bodyPost_ret (by simp[results,Tryz.results299,go_sem,p0,p1,p2,p3,p4,p5]) rfl (VN.fin G3.out S3.out (by(repeat refine grown_put ?_ _ _);exact grown_refl _ _) hrb HT.out y N2.out.sole.1 N2.out.sole.2 (by rw[HP2.out];rfl) rfl)
     ·have z1:((n:Int)==1)=false:=by simp;omega
      rw[hn];go_wp2_with fail;refine PK2.out.mono ?_;rintro e w2 ⟨rfl,q⟩;have N2:=HN2.out.below q.below';have S3:=HS2.out.trans (step_below (bw:=rb) q.below');have G3:=hid (HG2.out.below q.below');have b8:=thing_cells S3 hrb;have fz:=fun j=>(frz_step S3 (b:=w.heap.size) (by simp) (by omega) j).trans (frz_new w _ _ j)
      have p0:=b8.get 0 _ rfl;have p1:=b8.get 1 _ rfl;have p2:=b8.get 2 _ rfl;have p3:=b8.get 3 _ rfl;have p4:=b8.get 4 _ rfl;have p5:=b8.get 5 _ rfl;have N2:=hid (N2.node kd zTh 0 (by decide) (by omega));have S3:=hid S3;clear b8 q;go_wp2_with fail;exact bodyPost_ret (by simp[results,Tryz.results299,go_sem,p0,p1,p2,p3,p4,p5,hn,Nd.kind,Nd.th,zTh,Nd.val,Nd.a,Nd.c,Nd.kids,tx_nil]) rfl (VN.fin G3.out S3.out (by(repeat refine grown_put ?_ _ _);exact grown_refl _ _) hrb HT.out (.mk kd zTh 0 a2 c2 l2) N2.out.1 N2.out.2 (by rw[HP2.out,bareN_eq,oneR_no (by rw[bareL_length,hn];exact h1)];rfl) rfl)
theorem condAnd{w0 w:World}{rb:Nat}{arch:Int}{s:Tx}{a:Option Addr}{c:Nat}{L:List Tok}{k m n:Nat}(R:RdG w0 w rb arch s a c L k)(hm:(L.drop k).length<=m)
 (ONE:OneC 332 w0 rb arch s a c L m (notR arch n)):
 Calls Tryz.prog 300 #[.pointer (some ⟨rb,0,none⟩)] w (RetC w w0.heap.size rb arch s a c L (rowR 4 [47,92] (notR arch n) (L.drop k)) (VN w.heap.size)):=by
 have R0:=R.below (al w zN0);have RW:=condRowNot R0 4 [47,92] (by decide) hm ONE (fun l x r _ h=>(notR_ok arch n l x r h).2);have hrb:=R.lo.2;have HT:=hid (show L≠[]->bk a<w.heap.size from fun h=>R.rd.toks.lt cTok_len (by omega) h);generalize rowR 4 [47,92] (notR arch n) (L.drop k)=p at*;have R0:=hid R0;clear ONE R;cases p with
 | error er=>
   have RW:=hid RW;go_enter Tryz.func300,Tryz.ntmps300;go_wp2_with fail;refine RW.out.mono ?_;rintro e w1 h;obtain⟨rfl,S⟩:=h.err rfl;unfold PanC;go_wp2_with fail;exact⟨rfl,(St.new (St.refl w rb) zN0).trans S,.inl ⟨_,rfl,rfl⟩⟩
 | ok q=>
   obtain⟨x,r⟩:=q;have RW:=hid RW;go_enter Tryz.func300,Tryz.ntmps300;go_wp2_with fail;refine RW.out.mono ?_;rintro e w1 h;obtain⟨k1,rfl,⟨y,hy,rfl,hyo,hyn⟩,R1,S1⟩:=h.okay rfl;have b8:=thing_cells S1 hrb;have fz:=fun j=>(frz_step S1 (b:=w.heap.size) (by simp) (by omega) j).trans (frz_new w _ _ j)
   have p0:=b8.get 0 _ rfl;have p1:=b8.get 1 _ rfl;have p2:=b8.get 2 _ rfl;have p3:=b8.get 3 _ rfl;have p4:=b8.get 4 _ rfl;have p5:=b8.get 5 _ rfl;have G1:=hid (R0.out.st S1 R1);have hyo:=hid hyo;have S1:=hid S1;clear h R1 b8;go_wp2_with fail;exact bodyPost_ret (by simp[results,Tryz.results300,go_sem,p0,p1,p2,p3,p4,p5]) rfl (VN.fin G1.out S1.out (by(repeat refine grown_put ?_ _ _);exact grown_refl _ _) hrb HT.out y (by simpa using hyo.out) hyn (by rw[hy]) rfl)
theorem condOr{w0 w:World}{rb:Nat}{arch:Int}{s:Tx}{a:Option Addr}{c:Nat}{L:List Tok}{k m n:Nat}(R:RdG w0 w rb arch s a c L k)(hm:(L.drop k).length<=m)
 (ONE:OneC 300 w0 rb arch s a c L m (rowR 4 [47,92] (notR arch n))):
 Calls Tryz.prog 238 #[.pointer (some ⟨rb,0,none⟩)] w (RetC w w0.heap.size rb arch s a c L (rowR 5 [92,47] (rowR 4 [47,92] (notR arch n)) (L.drop k)) (VN w.heap.size)):=by
 have R0:=R.below (al w zN0);have RW:=condRowAnd R0 5 [92,47] (by decide) hm ONE (fun l x r _ h=>(rowR_ok (.inl rfl) (notR_ok arch n) l x r h).2);have hrb:=R.lo.2;have HT:=hid (show L≠[]->bk a<w.heap.size from fun h=>R.rd.toks.lt cTok_len (by omega) h);generalize rowR 5 [92,47] (rowR 4 [47,92] (notR arch n)) (L.drop k)=p at*;have R0:=hid R0;clear ONE R;cases p with
 | error er=>
   have RW:=hid RW;go_enter Tryz.func238,Tryz.ntmps238;go_wp2_with fail;refine RW.out.mono ?_;rintro e w1 h;obtain⟨rfl,S⟩:=h.err rfl;unfold PanC;go_wp2_with fail;exact⟨rfl,(St.new (St.refl w rb) zN0).trans S,.inl ⟨_,rfl,rfl⟩⟩
 | ok q=>
   obtain⟨x,r⟩:=q;have RW:=hid RW;go_enter Tryz.func238,Tryz.ntmps238;go_wp2_with fail;refine RW.out.mono ?_;rintro e w1 h;obtain⟨k1,rfl,⟨y,hy,rfl,hyo,hyn⟩,R1,S1⟩:=h.okay rfl;have b8:=thing_cells S1 hrb;have fz:=fun j=>(frz_step S1 (b:=w.heap.size) (by simp) (by omega) j).trans (frz_new w _ _ j)
   have p0:=b8.get 0 _ rfl;have p1:=b8.get 1 _ rfl;have p2:=b8.get 2 _ rfl;have p3:=b8.get 3 _ rfl;have p4:=b8.get 4 _ rfl;have p5:=b8.get 5 _ rfl;have G1:=hid (R0.out.st S1 R1);have hyo:=hid hyo;have S1:=hid S1;clear h R1 b8;go_wp2_with fail;exact bodyPost_ret (by simp[results,Tryz.results238,go_sem,p0,p1,p2,p3,p4,p5]) rfl (VN.fin G1.out S1.out (by(repeat refine grown_put ?_ _ _);exact grown_refl _ _) hrb HT.out y (by simpa using hyo.out) hyn (by rw[hy]) rfl)
theorem condOrs{w0 w:World}{rb:Nat}{arch:Int}{s:Tx}{a:Option Addr}{c:Nat}{L:List Tok}{k m n:Nat}(R:RdG w0 w rb arch s a c L k)(hm:(L.drop k).length<=m)
 (NOT:OneC 332 w0 rb arch s a c L m (notR arch n)):
 Calls Tryz.prog 238 #[.pointer (some ⟨rb,0,none⟩)] w (RetC w w0.heap.size rb arch s a c L (orR (notR arch n) (L.drop k)) (VN w.heap.size)):=
 condOr R hm fun w k R hm=>condAnd R hm NOT
structure PutB(w w':World)(b:Nat):Prop where
 grown:w.grownBy w' (Option.some b)
 size:w'.heap.size=w.heap.size
theorem PutB.refl(w:World)(b:Nat):PutB w w b:=⟨grown_refl w b,rfl⟩
theorem PutB.put{w w':World}{b:Nat}(h:PutB w w' b)(j:Nat)(v:Value):PutB w (w'.setCell ⟨b,j,none⟩ v) b:=⟨grown_put h.grown j v,by simpa using h.size⟩
theorem PutB.al{w w':World}{b:Nat}(h:PutB w w' b)(o:Obj):PutB (w.alloc o) (w'.alloc o) b:=by
 refine⟨⟨h.grown.os,h.grown.tape,h.grown.output,by simp[h.size],fun k hk hne=>?_⟩,by simp[h.size]⟩;rw[alloc_size]at hk;rcases Nat.lt_or_ge k w.heap.size with h1|h1
 ·rw[heap_alloc_old _ _ (by rw[h.size];exact h1),heap_alloc_old _ _ h1];exact h.grown.block k h1 hne
 ·obtain rfl:k=w.heap.size:=by omega
  rw[heap_alloc_new];rw[<-h.size,heap_alloc_new]
theorem notR_1{arch:Int}{n:Nat}{l:List Tok}(h:headS l=[126]):notR arch (n+1) l=match notR arch n l.tail with
 | .error e=>.error e
 | .ok (x,r)=>.ok (ndK 3 [x],r):=by rw[notR,if_pos h];cases notR arch n l.tail<;>rfl
theorem notR_2{arch:Int}{n:Nat}{l:List Tok}(h:headS l=[40]):notR arch (n+1) l=match orR (notR arch n) l.tail with
 | .error e=>.error e
 | .ok (x,r)=>match takeR [41] r with
   | .error e=>.error e
   | .ok r=>.ok (x,r):=by
 rw[notR,if_neg (by rw[h];decide),if_pos h];cases orR (notR arch n) l.tail with
 |error e=>rfl
 |ok p=>rfl
theorem notR_3{arch:Int}{n:Nat}{l:List Tok}(h:headS l=[116,114,117,101])(h2:headS l.tail≠[61]):notR arch (n+1) l= .ok (ndK 1 [],l.tail):=by
 rw[notR,if_neg (by rw[h];decide),if_neg (by rw[h];decide),if_pos ⟨h,h2⟩]
theorem notR_4{arch:Int}{n:Nat}{l:List Tok}(h1:headS l≠[126])(h2:headS l≠[40])(h3:headS l≠[116,114,117,101]\/headS l.tail=[61]):notR arch (n+1) l=atomR arch l:=by
 rw[notR,if_neg h1,if_neg h2,if_neg];rintro⟨a,b⟩;rcases h3 with h|h
 ·exact h a
 ·exact b h
section
variable {w0 w:World} {rb:Nat} {arch:Int} {s:Tx} {a:Option Addr} {c:Nat} {L:List Tok} {k m n:Nat}
theorem condNot_1(R:RdG w0 w rb arch s a c L k)(hm:(L.drop k).length<=m+1)(NOT:OneC 332 w0 rb arch s a c L m (notR arch n))(h1:headS (L.drop k)=[126]):
 Calls Tryz.prog 332 #[.pointer (some ⟨rb,0,none⟩)] w (RetC w w0.heap.size rb arch s a c L (notR arch (n+1) (L.drop k)) (VN w.heap.size)):=by
 have R0:=R.below (al w zN0);have hk:=head_lt (L:=L) (k:=k) (by rw[h1];decide);have hd:(L.drop (k+1)).length<=m:=by simp at hm ⊢; omega
 have PK:=hid (peek0 R0.rd);unfold PeekC at PK;rw[h1]at PK;rw[notR_1 h1,List.tail_drop];have NT:=hid (fun(w:World) (R:RdG w0 w rb arch s a c L (k+1))=>NOT w (k+1) R hd);have hrb:=R.lo.2;have HT:=hid (show L≠[]->bk a<w.heap.size from fun h=>R.rd.toks.lt cTok_len (by omega) h);generalize notR arch n (L.drop (k+1))=p at*;have z:((tx [126]).toList==[126])=true:=by rw[tx_toList];decide
 have hL:L.length<=262144:=R.rd.sm;generalize tx [126]=u at*;have R0:=hid R0;have HK:=hid hk;clear NOT R h1 hm hd;go_enter Tryz.func332,Tryz.ntmps332;go_wp2_with fail;refine PK.out.mono ?_;rintro e w1 ⟨rfl,q⟩;have R1:=R0.out.below q.below';obtain⟨c0,c1,c2,c3,f3,lt⟩:=R1.rd.cells;obtain⟨R2,S2⟩:=R1.rd.next HK.out;have S:=hid ((step_below (bw:=rb) q.below').trans S2);have hq:=q.below'.size;have G2:=hid (R1.st S2 R2);have NT:=hid (NT.out _ G2.out);clear R1 R2 S2 q;go_wp2_with fail;refine NT.out.mono ?_;rintro e w2 h;rcases p with er|⟨x,r⟩
 ·obtain⟨rfl,S3⟩:=h.err rfl
  unfold PanC;go_wp2_with fail;exact⟨rfl,(St.new (St.refl w rb) zN0).trans (S.out.trans S3),.inl ⟨_,rfl,rfl⟩⟩
 obtain⟨k1,rfl,⟨y,hy,rfl,hyo,hyn⟩,R3,S3⟩:=h.okay rfl;have S4:=S.out.trans S3;have hsz:=S4.grown.size;have S5:=St.new S4 (mkN y);have G3:=hid ((G2.out.st S3 R3).below (al w2 (mkN y)));have N1:=NdsF.one (hyo.mono (B':=w.heap.size+1) (by simp at hq ⊢; omega)) hyn (by simp at hsz;omega);have N1:=hid (N1.node 3 zTh 0 (by decide) (by simp));have hlt8:w.heap.size<w2.heap.size:=by simp at hsz;omega
 have HB:Hid ((Except.ok (ndK 3 [x],L.drop k1):PR Nd)= .ok (bareN (.mk 3 zTh 0 (some ⟨w2.heap.size,0,none⟩) 1 [y]),L.drop k1)):=hid (by
  rw[bareN,bareL_cons,bareL_nil,hy];rfl)
 have b8:=thing_cells S4 hrb;have fz:=fun j=>(frz_step S4 (b:=w.heap.size) (by simp) (by omega) j).trans (frz_new w _ _ j)
 have p0:=b8.get 0 _ rfl;have p1:=b8.get 1 _ rfl;have p2:=b8.get 2 _ rfl;have p3:=b8.get 3 _ rfl;have p4:=b8.get 4 _ rfl;have p5:=b8.get 5 _ rfl;have S5:=hid S5;clear h R3 S3 b8 S4 hyo;go_wp2_with fail;exact bodyPost_ret (by simp[results,Tryz.results332,go_sem,p0,p1,p2,p3,p4,p5,hlt8,Nd.kind,Nd.th,zTh,Nd.val,Nd.a,Nd.c,Nd.kids,tx_nil]) rfl (VN.fin G3.out S5.out (PutB.grown (by refine PutB.al ?_ _;(repeat refine PutB.put ?_ _ _);exact PutB.refl _ _)) hrb HT.out (.mk 3 zTh 0 (some ⟨w2.heap.size,0,none⟩) 1 [y]) N1.out.1 N1.out.2 HB.out rfl)
theorem condNot_2(R:RdG w0 w rb arch s a c L k)(hm:(L.drop k).length<=m+1)(NOT:OneC 332 w0 rb arch s a c L m (notR arch n))(h1:headS (L.drop k)=[40]):
 Calls Tryz.prog 332 #[.pointer (some ⟨rb,0,none⟩)] w (RetC w w0.heap.size rb arch s a c L (notR arch (n+1) (L.drop k)) (VN w.heap.size)):=by
 have R0:=R.below (al w zN0);have hk:=head_lt (L:=L) (k:=k) (by rw[h1];decide);have hd:(L.drop (k+1)).length<=m:=by simp at hm ⊢; omega
 have PK:=hid (fun(w:World) (R:Rdr w w0.heap.size rb arch s a c L k)=>peek0 R);unfold PeekC at PK;rw[h1]at PK;rw[notR_2 h1,List.tail_drop];have NT:=hid (fun(w:World) (R:RdG w0 w rb arch s a c L (k+1))=>condOrs R hd NOT);have TK:=hid (fun(w:World) (k':Nat) (R:Rdr w w0.heap.size rb arch s a c L k')=>condTake R [41] (by decide));have hrb:=R.lo.2;have HT:=hid (show L≠[]->bk a<w.heap.size from fun h=>R.rd.toks.lt cTok_len (by omega) h);generalize orR (notR arch n) (L.drop (k+1))=p at*;have z:((tx [40]).toList==[126])=false:=by rw[tx_toList];decide
 have z2:((tx [40]).toList==[40])=true:=by rw[tx_toList];decide
 have hL:L.length<=262144:=R.rd.sm;generalize tx [40]=u at*;have R0:=hid R0;have HK:=hid hk;clear NOT R h1 hm hd
 obtain⟨Z,hZ⟩: ∃Z,(match p with
  | .error e=>.error e
  | .ok (x,r)=>match takeR [41] r with
    | .error e=>.error e
    | .ok r=>.ok (x,r):PR Nd)=Z:=⟨_,rfl⟩
 rw[hZ];have HZ:=hid hZ;clear hZ;go_enter Tryz.func332,Tryz.ntmps332;go_wp2_with fail;refine(PK.out _ R0.out.rd).mono ?_;rintro e w1 ⟨rfl,q⟩;have R1:=hid (R0.out.below q.below');have S:=hid (step_below (bw:=rb) q.below');clear q;go_wp2_with fail;refine(PK.out _ R1.out.rd).mono ?_;rintro e w2 ⟨rfl,q⟩;have R1:=R1.out.below q.below';have hq:=R1.bel.size;obtain⟨c0,c1,c2,c3,f3,lt⟩:=R1.rd.cells;obtain⟨R2,S2⟩:=R1.rd.next HK.out;have S:=hid ((S.out.trans (step_below (bw:=rb) q.below')).trans S2);have hsw:=S.out.grown.size;have G2:=hid (R1.st S2 R2);have NT:=hid (NT.out _ G2.out);clear R1 R2 S2 q;go_wp2_with fail;refine NT.out.mono ?_;rintro e w3 h;rcases p with er|⟨x,r⟩
 ·obtain⟨rfl,S3⟩:=h.err rfl
  have HZ:=HZ.out;simp only at HZ;subst HZ;unfold PanC;go_wp2_with fail;exact⟨rfl,(St.new (St.refl w rb) zN0).trans (S.out.trans S3),.inl ⟨_,rfl,rfl⟩⟩
 obtain⟨k1,rfl,⟨y,hy,rfl,hyo,hyn⟩,R3,S3⟩:=h.okay rfl;have G3:=hid ((G2.out.st S3 R3).below (al w3 (mkN y)));have TC:=hid (TK.out _ k1 G3.out.rd);have hs3:=S3.grown.size;have S4:=hid (St.new (S.out.trans S3) (mkN y));have hyo:=hid (hyo.mono (B':=w.heap.size+1) (by simp at hsw ⊢; omega));have hlt3:rb<w3.heap.size:=by simp at hsw hs3;omega
 clear h R3 S3;go_wp2_with fail;refine TC.out.mono ?_;rintro e w4 h;rcases htk:takeR [41] (L.drop k1)with er|r2
 ·obtain⟨rfl,S5⟩:=h.err (show _=Except.error er by rw[htk];rfl)
  have HZ:=HZ.out;simp only[htk]at HZ;subst HZ;have S6:=hid (S4.out.trans S5);unfold PanC;go_wp2_with fail;exact⟨rfl,(St.new (St.refl w rb) zN0).trans S6.out,.inl ⟨_,rfl,rfl⟩⟩
 have HZ:=HZ.out;simp only[htk]at HZ;subst HZ;obtain⟨k2,rfl,hv,R5,S5⟩:=h.okay (show _=Except.ok ((),r2) by rw[htk];rfl);unfold VU at hv;subst hv;have b3:=thing_cells S5 hlt3;have S6:=S4.out.trans S5;have b8:=thing_cells S6 hrb;have hsz:=S6.grown.size;have fz:=fun j=>(frz_step S6 (b:=w.heap.size) (by simp) (by omega) j).trans (frz_new w _ _ j)
 have p0:=b8.get 0 _ rfl;have p1:=b8.get 1 _ rfl;have p2:=b8.get 2 _ rfl;have p3:=b8.get 3 _ rfl;have p4:=b8.get 4 _ rfl;have p5:=b8.get 5 _ rfl;have q0:=b3.get 0 _ rfl;have q1:=b3.get 1 _ rfl;have q2:=b3.get 2 _ rfl;have q3:=b3.get 3 _ rfl;have q4:=b3.get 4 _ rfl;have q5:=b3.get 5 _ rfl;have G5:=hid (G3.out.st S5 R5);have hyo:=hid ((hyo.out.keep (al w3 (mkN y))).st S5 (by omega));have S6:=hid S6;clear h htk R5 S5 b8 b3;go_wp2_with fail;exact bodyPost_ret (by simp[results,Tryz.results332,go_sem,p0,p1,p2,p3,p4,p5]) rfl (VN.fin G5.out S6.out (by(repeat refine grown_put ?_ _ _);exact grown_refl _ _) hrb HT.out y hyo.out hyn (by rw[hy]) rfl)
end
end Go.Proofs.YtkbbgjloifmmbaaGreatDoor
