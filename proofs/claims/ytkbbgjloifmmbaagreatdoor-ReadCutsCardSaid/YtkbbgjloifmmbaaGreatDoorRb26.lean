/- What ReadBackP leans on, part 26. -/
import Derived.Test.YtkbbgjloifmmbaaGreatDoorRb17
set_option linter.unusedVariables false
set_option maxRecDepth 100000
set_option maxHeartbeats 3200000
namespace Go.Proofs.YtkbbgjloifmmbaaGreatDoor
open _root_.Go.Proofs.Tryz
open _root_.Option renaming some->aos
open _root_.List renaming tail_drop->apc,length_drop->aoJ,length_singleton->apf,length_append->aoE,not_mem_nil->an0
open _root_.Except renaming error->apd,ok->ape
open _root_.Nat renaming lt_of_lt_of_le->anD,le_refl->amS
open Go.RowKit Go.Sort
theorem aic{w:World}{B rb:Nat}{af:Int}{s:Tx}{a:Option Addr}{c:Nat}{L:List Tok}{k:Nat}(R:b7 w B rb af s a c L k)(hsh: ∀t∈L,t.1.length<=s.length)(g:Gl w):
 Calls prog 350 #[.pointer (some ⟨rb,0,none⟩)] w (eO w B rb af s a c L (gv af (L.drop k)) VT):=by
 by_cases kL:aA (L.drop k)=[91]
 ·exact aaA R hsh kL
 ·cases hn:qu (aA (L.drop k))with
  |true=>exact aaB R hsh g kL hn
  |false=>exact aaC R hsh kL hn
theorem ajb{k:Int}{sign:Tx}{one:List Tok->PR Nd}{n:Nat}{acc:List Nd}{l:List Tok}(h:aA l=sign):gN k sign one (n+1) acc l=match one l.tail with
 | .error e=>.error e
 | .ok (x,r)=>gN k sign one n (acc++[x]) r:=by rw[gN,if_pos h];cases one l.tail<;>rfl
theorem ajc{k:Int}{sign:Tx}{one:List Tok->PR Nd}{n:Nat}{acc:List Nd}{l:List Tok}(h:aA l≠sign):gN k sign one n acc l= .ok (pF k acc,l):=by
 cases n with
 |zero=>rfl
 |succ n=>rw[gN,if_neg h]
theorem ajd{k:Int}{sign:Tx}{one:List Tok->PR Nd}{l e:List Tok}(h:one l= .error e):fR k sign one l= .error e:=by unfold fR;rw[h]
theorem aje{k:Int}{sign:Tx}{one:List Tok->PR Nd}{l r:List Tok}{x:Nd}(h:one l= .ok (x,r)):fR k sign one l=gN k sign one r.length [x] r:=by unfold fR;rw[h]
theorem afa{k:Int}{l:List Nd}(h:l.length≠1):pF k l=uc k l:=by
 match l with
 |[]=>rfl
 |[x]=>exact absurd rfl h
 |x::y::r=>rfl
structure cJ(w0 w:World)(rb:Nat)(af:Int)(s:Tx)(a:Option Addr)(c:Nat)(L:List Tok)(k:Nat):Prop where
 rd:b7 w w0.heap.size rb af s a c L k
 g:Gl w0
 bG:Below w0.heap.size w0 w
 sh: ∀t∈L,t.1.length<=s.length
section
variable {w0 w w1:World} {rb:Nat} {af:Int} {s:Tx} {a:Option Addr} {c:Nat} {L:List Tok} {k k1:Nat}
theorem cJ.gl(h:cJ w0 w rb af s a c L k):Gl w:=h.g.below h.bG
theorem cJ.lo(h:cJ w0 w rb af s a c L k):w0.heap.size<=rb/\rb<w.heap.size:=by
 have:=Own.lt h.rd.own (by simp);simpa using this
theorem cJ.below(h:cJ w0 w rb af s a c L k)(hb:Below w.heap.size w w1):cJ w0 w1 rb af s a c L k:=
 ⟨h.rd.below hb,h.g,h.bG.trans (hb.mono h.bG.size),h.sh⟩
theorem cJ.st(h:cJ w0 w rb af s a c L k)(hs:St w w1 rb)(hr:b7 w1 w0.heap.size rb af s a c L k1):cJ w0 w1 rb af s a c L k1:=
 ⟨hr,h.g,h.bG.grown hs.grown h.bG.size (fun r hr=>by simp at hr;subst hr;exact h.lo.1),h.sh⟩
theorem cJ.next(h:cJ w0 w rb af s a c L k)(hk:k<L.length):cJ w0 (w.setCell ⟨rb,3,none⟩ (.int .i64 ((k:Int)+1))) rb af s a c L (k+1):=by
 obtain⟨R2,S2⟩:=h.rd.next hk;exact h.st S2 R2
end
theorem abN{w w':World}{b:Nat}(hg:w.grownBy w' (aos b)):Step w w' (aos ⟨b,0,none⟩) (aos ⟨b,0,none⟩):=⟨hg,.inl rfl⟩
theorem cJ.qd{w0 w w1:World}{rb b:Nat}{af:Int}{s:Tx}{a:Option Addr}{c:Nat}{L:List Tok}{k:Nat}(h:cJ w0 w rb af s a c L k)(hg:w.grownBy w1 (aos b))(hb:b≠rb)(ha:L≠[]->bk a≠b)(hw:w0.heap.size<=b):cJ w0 w1 rb af s a c L k:=
 ⟨⟨Own.kept h.rd.own hg (.inr (by simp;exact fun e=>hb e.symm)),bf.step jb (by omega) h.rd.toks (abN hg) ha,h.rd.ne,h.rd.le,h.rd.sm,h.rd.sl⟩,h.g,h.bG.grown hg h.bG.size (fun r hr=>by simp at hr;omega),h.sh⟩
theorem tD{w w':World}{b:Nat}(h:w.grownBy w' (aos b))(j:Nat)(v:Value):w.grownBy (w'.setCell ⟨b,j,none⟩ v) (aos b):=
 ⟨h.os,h.tape,h.output,by simpa using h.size,fun k hk hne=>by rw[Below.heap_setCell _ _ _ _ (by simp;exact fun e=>hne (by rw[e]))];exact h.block k hk hne⟩
theorem tE(w:World)(b:Nat):w.grownBy w (aos b):=⟨rfl,rfl,rfl,amS _,fun k hk hne=>rfl⟩
theorem VN.fin{w0 w w1 w2:World}{rb:Nat}{af:Int}{s:Tx}{a:Option Addr}{c:Nat}{L:List Tok}{k:Nat}{o:Obj}{pp:PR Nd}{e:Ending}(hG:cJ w0 w1 rb af s a c L k)(hS:St (w.alloc o) w1 rb)(hg:w1.grownBy w2 (aos w.heap.size))(hrb:rb<w.heap.size)(hT:L≠[]->bk a<w.heap.size)(y:Nd)(hN:bz w1 (w.heap.size+1) y)(hn:(gA y).Nodup)(hp:pp= .ok (aL y,L.drop k))(he:e= .returned (vN y)):eO w w0.heap.size rb af s a c L pp (VN w.heap.size) e w2:=by
 have h0:=hG.lo.1;have h1:=hG.qd hg (by omega) (fun h=>by have:=hT h;omega) (by omega);have hs:=(St.new (St.refl w rb) o).trans hS;refine⟨⟨⟨hg.os.trans hs.grown.os,hg.tape.trans hs.grown.tape,hg.output.trans hs.grown.output,Nat.le_trans hs.grown.size hg.size,fun j hj hne=>?_⟩,.inl rfl⟩,.inr ⟨_,k,hp,⟨y,rfl,he,?_,hn⟩,h1.rd⟩⟩
 ·rw[hg.block j (anD hj hs.grown.size) (by simp;omega)]
  exact hs.grown.block j hj hne
 ·refine(hN.mono (B':=w.heap.size) (by omega)).kept hg fun b hb e=>?_
  have:=(hN.lt b hb).1;simp at e;omega
def rC(F:Nat)(w0:World)(rb:Nat)(af:Int)(s:Tx)(a:Option Addr)(c:Nat)(L:List Tok)(m:Nat)(one:List Tok->PR Nd):Prop:=
 ∀(w:World) (k:Nat),cJ w0 w rb af s a c L k->(L.drop k).length<=m->Calls prog F #[.pointer (some ⟨rb,0,none⟩)] w (eO w w0.heap.size rb af s a c L (one (L.drop k)) (VN w.heap.size))
abbrev jo:Obj:=.cells #[.int .i64 0,.int .i64 0,.int .i64 0,.string ⟨#[]⟩,.int .i64 0,.slice none 0 0] 28
theorem ajW{w w1 w2:World}{rb:Nat}{a a':Option Addr}{c c':Nat}(h:St w w1 rb)(hg:kG w1 w2 a c a' c')(ha:a≠none)(hw:w.heap.size<=bk a):St w w2 rb:=by
 refine⟨⟨?_,?_,?_,?_,fun k hk hne=>?_⟩,.inl rfl⟩
 all_goals have h1:=h.grown
 all_goals have h2:=hg.step.grown
 ·exact h2.os.trans h1.os
 ·exact h2.tape.trans h1.tape
 ·exact h2.output.trans h1.output
 ·exact Nat.le_trans h1.size h2.size
 ·rw[h2.block k (anD hk h1.size) ?_,h1.block k hk hne]
  cases a with
  |none=>exact absurd rfl ha
  |some p=>have hw':w.heap.size<=p.block:=hw;simp;omega
theorem aas{F:Nat}(hF:F∈[300,332]){w0 w:World}{rb:Nat}{af:Int}{s:Tx}{a:Option Addr}{c:Nat}{L:List Tok}{k:Nat}{m:Nat}{one:List Tok->PR Nd}(R:cJ w0 w rb af s a c L k)(kd:Int)(sign:Tx)(hm:(L.drop k).length<=m)
 (ONE:rC F w0 rb af s a c L m one) (er:List Tok) (hone:one (L.drop k)= .error er):
 Calls prog 299 #[.pointer (some ⟨rb,0,none⟩),.int .i64 kd,.string (tx sign),.func (.func F) #[.pointer (some ⟨rb,0,none⟩)] #[]] w (eO w w0.heap.size rb af s a c L (fR kd sign one (L.drop k)) (VN w.heap.size)):=by
 simp only[List.mem_cons,an0,or_false]at hF;rcases hF with rfl|rfl
 all_goals
  rw[ajd hone];have O:=ONE _ k (R.below (al w jo)) hm;rw[hone]at O;have O:=hid O;clear hone ONE R;go_in;go_wp2_with fail;refine O.out.mono ?_;rintro e w1 h;obtain⟨rfl,S⟩:=h.err rfl;unfold dU;go_wp2_with fail;exact⟨rfl,(St.new (St.refl w rb) jo).trans S,.inl ⟨_,rfl,rfl⟩⟩
theorem OL{F:Nat}(hF:F∈[300,332]){w0 w:World}{rb:Nat}{af:Int}{s:Tx}{a:Option Addr}{c:Nat}{L:List Tok}{k:Nat}{m:Nat}{one:List Tok->PR Nd}(R:cJ w0 w rb af s a c L k)(kd:Int)(sign:Tx)(hs:sign≠[])(hm:(L.drop k).length<=m)
 (ONE:rC F w0 rb af s a c L m one) (H: ∀l x r,l.length<=m->one l= .ok (x,r)->r.length<l.length):
 Calls prog 299 #[.pointer (some ⟨rb,0,none⟩),.int .i64 kd,.string (tx sign),.func (.func F) #[.pointer (some ⟨rb,0,none⟩)] #[]] w (eO w w0.heap.size rb af s a c L (fR kd sign one (L.drop k)) (VN w.heap.size)):=by
 simp only[List.mem_cons,an0,or_false]at hF;rcases hF with rfl|rfl
 all_goals
  cases hone:one (L.drop k)with
  |error er=>exact aas (by decide) R kd sign hm ONE er hone
  | ok p=>
    obtain⟨x,r⟩:=p;have hr:=H _ _ _ hm hone;have O:=ONE _ k (R.below (al w jo)) hm;rw[hone]at O;have O:=hid O;rw[aje hone];have Xt:=hid ONE;have HH:=hid H;have HG:=hid (R.below (al w jo));have hrb:=R.lo.2;have Jc:=R.lo.1;have HT:=hid (show L≠[]->bk a<w.heap.size from fun h=>R.rd.toks.lt jb (by omega) h);have hL:L.length<=262144:=R.rd.sm;have hdl:r.length<m:=by omega
    obtain⟨pp,kN⟩: ∃pp,gN kd sign one r.length [x] r=pp:=⟨_,rfl⟩;rw[kN];have oG:=hid kN;have HS:=hid hs;have PK:=hid (fun(w:World) (k':Nat) (R:b7 w w0.heap.size rb af s a c L k')=>qz R);have hrL:r.length<L.length:=by have h1:(L.drop k).length=L.length-k:=aoJ;omega
    clear hone ONE R H hs hm hr kN;go_in;go_wp2_with fail;refine O.out.mono ?_;rintro e w1 h;obtain⟨k1,rfl,⟨y,hy,rfl,cL,iR⟩,R1,S1⟩:=h.fP rfl;have N1:=hid (show fK (w1.alloc (aS y)) (w.heap.size+1) (aos ⟨w1.heap.size,0,none⟩) 1 [y] by have h0:=fK.one cL iR S1.grown.size;simpa using h0);have G1:=hid ((HG.out.st S1 R1).below (al w1 (aS y)));have S1:=hid (St.new S1 (aS y));have HY:=hid (show dx [y]=[x] by rw[tj,oQ,hy]);clear h cL iR R1;go_wp2_with fail
    go_loopw [9] (fun v wr=> ∃(k2:Nat) (a2:Option Addr) (c2 n2:Nat) (l2:List Nd),v= .slice a2 l2.length c2/\Hid (pp=gN kd sign one n2 (dx l2) (L.drop k2))/\(L.drop k2).length<=n2/\(L.drop k2).length<=m/\l2.length+(L.drop k2).length<=L.length/\Hid (cJ w0 wr rb af s a c L k2)/\Hid (fK wr (w.heap.size+1) a2 c2 l2)/\Hid (St (w.alloc jo) wr rb)) (fun v _=>match v with| .slice _ n _=>300000-n|_=>0)
    case atStart=>exact⟨k1,_,_,(L.drop k1).length,[y],rfl,by rw[HY.out];exact oG.out.symm,amS _,by omega,by simp only[apf];omega,G1.out,N1.out,S1.out⟩
    case round=>
     obtain⟨k2,a2,c2,n2,l2,rfl,HP,hn2,hm2,bN,nB,ei,iz⟩:=hrel;have lo2:=nB.out.lo;have hlo:=ei.out.lt;have mq:(L.drop k2).length=L.length-k2:=aoJ;have hs1:w.heap.size+1<=wr.heap.size:=by have:=iz.out.grown.size;simpa using this
     have oK:=hid (PK.out _ _ nB.out.rd);unfold oN at oK
     by_cases vH:aA (L.drop k2)=sign
     ·rw[vH]at oK
      have z:((tx sign).toList==(tx sign).toList)=true:=by simp
      have hk2:k2<L.length:=tK (by rw[vH];exact HS.out);obtain⟨n3,rfl⟩: ∃n3,n2=n3+1:=⟨n2-1,by omega⟩;have jJ:=hid (HP.out.trans (ajb vH));rw[apc]at jJ;have DY:(L.drop (k2+1)).length=L.length-(k2+1):=aoJ;have O2:=hid (fun(w:World) (R:cJ w0 w rb af s a c L (k2+1))=>Xt.out w (k2+1) R (by omega));cases AV:one (L.drop (k2+1))with
      | error er=>
        rw[AV]at jJ O2;clear AV vH;go_wp2_with fail;refine oK.out.mono ?_;rintro e w2 ⟨rfl,q⟩;have G2:=nB.out.below q.aQ;obtain⟨c0,c1,kJ,c3,f3,lt⟩:=G2.rd.cells;obtain⟨R3,S3⟩:=G2.rd.next hk2;have G3:=hid (G2.st S3 R3);have S3:=hid (iz.out.trans ((aX q.aQ).trans S3));clear q G2 R3;go_wp2_with fail;refine(O2.out _ G3.out).mono ?_;rintro e w3 h;obtain⟨rfl,S4⟩:=h.err rfl;unfold dU;go_wp2_with fail;exact⟨rfl,(St.new (St.refl w rb) jo).trans (S3.out.trans S4),.inl ⟨_,jJ.out,rfl⟩⟩
      | ok p2=>
        obtain⟨x2,r2⟩:=p2;rw[AV]at jJ O2;have hr2:=HH.out _ _ _ (by omega) AV;clear AV vH;go_wp2_with fail;refine oK.out.mono ?_;rintro e w2 ⟨rfl,q⟩;have G2:=nB.out.below q.aQ;obtain⟨c0,c1,kJ,c3,f3,lt⟩:=G2.rd.cells;obtain⟨R3,S3⟩:=G2.rd.next hk2;have G3:=hid (G2.st S3 R3);have S3:=hid ((aX (bw:=rb) q.aQ).trans S3);have hq:=q.aQ.size;clear q G2 R3;go_wp2_with fail;refine(O2.out _ G3.out).mono ?_;rintro e w3 h;obtain⟨k3,rfl,⟨y2,hy2,rfl,cL,iR⟩,R4,S4⟩:=h.fP rfl;have G4:=hid (G3.out.st S4 R4);have S5:=S3.out.trans S4;have N3:=ei.out.st S5 (by omega);have hO:=N3.own;have hs3:=S5.grown.size;have cL:=hid (cL.mono (B':=wr.heap.size) (by simp;omega));have S5:=hid S5;clear h N3 S4 R4
        go_wp2_with (at_builtin;go_loud(refine wO nk (.tmp 24) (.tmp 27) rfl rfl rfl hO rfl rfl (by exact Zc y2) (Below.refl _ w3) (by omega) (by omega) (by unfold maxLen;omega) ?_))
        intro a' c' w4 DO hg nQ
        have AA:nD w4 (w.heap.size+1) a' (l2++[y2]).length c' (l2++[y2]):=by
         unfold nD;rw[nO,rP,aoE];exact DO
        have ha':a'≠none:=Own.some AA (by simp);obtain⟨N4,S6⟩:=ei.out.app (by omega) S5.out (by omega) cL.out iR AA hg ha';have N4:=hid N4;have S7:=hid (ajW (iz.out.trans S5.out) hg ei.out.ne (by simp;omega));have G5:=hid (G4.out.qd (show w3.grownBy w4 (aos (bk a2))from S6.grown) (by omega) (fun h=>by have:=HT.out h;omega) (by omega));have Xu:=hid (show pp=gN kd sign one n3 (dx (l2++[y2])) (L.drop k3) by rw[jJ.out,YH,tj,oQ,hy2]);clear hO DO hg nQ AA S6;go_wp2_with fail
        go_roundw
        case rel=>exact⟨k3,a',c',n3,l2++[y2],by simp,Xu,by omega,by omega,by simp only[aoE,apf];omega,G5,N4,S7⟩
        case measure=>simp;omega
     ·have z:((tx (aA (L.drop k2))).toList==(tx sign).toList)=false:=by rw[aW,aW];simpa using vH
      have jJ:=hid (HP.out.trans (ajc vH));generalize aA (L.drop k2)=u at*;obtain⟨n,hn⟩: ∃n,l2.length=n:=⟨_,rfl⟩;have hl3:n<=1000000:=by omega
      by_cases h1:n=1
      ·subst h1
       obtain⟨y,rfl⟩: ∃y,l2=[y]:=List.length_eq_one_iff.1 hn;have EL:=nD.els ei.out.own (by omega);have ix:=EL.idx nk ja 0 (by simp) c2;rw[show((0:Nat):Int)=0 from rfl,hn]at ix;rw[hn];simp only[Nat.zero_mul,Nat.add_zero]at ix;go_wp2_with fail;refine oK.out.mono ?_;rintro e w2 ⟨rfl,q⟩;have N2:=ei.out.below q.aQ;obtain⟨d0,d1,d2,d3,d4,d5⟩:=bf.nd (k:=0) (nD.els N2.own (by omega)) rfl;simp only[Nat.zero_mul,Nat.add_zero]at d0 d1 d2 d3 d4 d5;have S3:=iz.out.trans (aX (bw:=rb) q.aQ);have G3:=hid (nB.out.below q.aQ);have b8:=kD S3 hrb;have fz:=fun j=>(iO S3 (b:=w.heap.size) (by simp) (by omega) j).trans (ew w _ _ j)
       have p0:=b8.get 0 _ rfl;have p1:=b8.get 1 _ rfl;have p2:=b8.get 2 _ rfl;have p3:=b8.get 3 _ rfl;have p4:=b8.get 4 _ rfl;have p5:=b8.get 5 _ rfl;have N2:=hid N2;have S3:=hid S3;clear b8 q;go_wp2_with fail;exact bodyPost_ret (by simp[results,results299,go_sem,p0,p1,p2,p3,p4,p5]) rfl (VN.fin G3.out S3.out (by(repeat refine tD ?_ _ _);exact tE _ _) hrb HT.out y N2.out.VJ.1 N2.out.VJ.2 (by rw[jJ.out];rfl) rfl)
      ·have z1:((n:Int)==1)=false:=by simp;omega
       rw[hn];go_wp2_with fail;refine oK.out.mono ?_;rintro e w2 ⟨rfl,q⟩;have N2:=ei.out.below q.aQ;have S3:=iz.out.trans (aX (bw:=rb) q.aQ);have G3:=hid (nB.out.below q.aQ);have b8:=kD S3 hrb;have fz:=fun j=>(iO S3 (b:=w.heap.size) (by simp) (by omega) j).trans (ew w _ _ j)
       have p0:=b8.get 0 _ rfl;have p1:=b8.get 1 _ rfl;have p2:=b8.get 2 _ rfl;have p3:=b8.get 3 _ rfl;have p4:=b8.get 4 _ rfl;have p5:=b8.get 5 _ rfl;have N2:=hid (N2.node kd eN 0 (by decide) (by omega));have S3:=hid S3;clear b8 q;go_wp2_with fail;exact bodyPost_ret (by simp[results,results299,go_sem,p0,p1,p2,p3,p4,p5,hn,Nd.kind,Nd.th,eN,Nd.val,Nd.a,Nd.c,Nd.kids,iq]) rfl (VN.fin G3.out S3.out (by(repeat refine tD ?_ _ _);exact tE _ _) hrb HT.out (.mk kd eN 0 a2 c2 l2) N2.out.1 N2.out.2 (by rw[jJ.out,vh,afa (by rw[Dl,hn];exact h1)];rfl) rfl)
theorem ZJ{w0 w:World}{rb:Nat}{af:Int}{s:Tx}{a:Option Addr}{c:Nat}{L:List Tok}{k m n:Nat}(R:cJ w0 w rb af s a c L k)(hm:(L.drop k).length<=m)
 (ONE:rC 332 w0 rb af s a c L m (bg af n)):
 Calls prog 300 #[.pointer (some ⟨rb,0,none⟩)] w (eO w w0.heap.size rb af s a c L (fR 4 [47,92] (bg af n) (L.drop k)) (VN w.heap.size)):=by
 have R0:=R.below (al w jo);have RW:=OL (by decide) R0 4 [47,92] (by decide) hm ONE (fun l x r _ h=>(we af n l x r h).2);have hrb:=R.lo.2;have HT:=hid (show L≠[]->bk a<w.heap.size from fun h=>R.rd.toks.lt jb (by omega) h);generalize fR 4 [47,92] (bg af n) (L.drop k)=p at*;have R0:=hid R0;clear ONE R;cases p with
 | error er=>
   have RW:=hid RW;go_in;go_wp2_with fail;refine RW.out.mono ?_;rintro e w1 h;obtain⟨rfl,S⟩:=h.err rfl;unfold dU;go_wp2_with fail;exact⟨rfl,(St.new (St.refl w rb) jo).trans S,.inl ⟨_,rfl,rfl⟩⟩
 | ok q=>
   obtain⟨x,r⟩:=q;have RW:=hid RW;go_in;go_wp2_with fail;refine RW.out.mono ?_;rintro e w1 h;obtain⟨k1,rfl,⟨y,hy,rfl,cL,iR⟩,R1,S1⟩:=h.fP rfl;have b8:=kD S1 hrb;have fz:=fun j=>(iO S1 (b:=w.heap.size) (by simp) (by omega) j).trans (ew w _ _ j)
   have p0:=b8.get 0 _ rfl;have p1:=b8.get 1 _ rfl;have p2:=b8.get 2 _ rfl;have p3:=b8.get 3 _ rfl;have p4:=b8.get 4 _ rfl;have p5:=b8.get 5 _ rfl;have G1:=hid (R0.out.st S1 R1);have cL:=hid cL;have S1:=hid S1;clear h R1 b8;go_wp2_with fail;exact bodyPost_ret (by simp[results,results300,go_sem,p0,p1,p2,p3,p4,p5]) rfl (VN.fin G1.out S1.out (by(repeat refine tD ?_ _ _);exact tE _ _) hrb HT.out y (by simpa using cL.out) iR (by rw[hy]) rfl)
theorem Z9{w0 w:World}{rb:Nat}{af:Int}{s:Tx}{a:Option Addr}{c:Nat}{L:List Tok}{k m n:Nat}(R:cJ w0 w rb af s a c L k)(hm:(L.drop k).length<=m)
 (ONE:rC 300 w0 rb af s a c L m (fR 4 [47,92] (bg af n))):
 Calls prog 238 #[.pointer (some ⟨rb,0,none⟩)] w (eO w w0.heap.size rb af s a c L (fR 5 [92,47] (fR 4 [47,92] (bg af n)) (L.drop k)) (VN w.heap.size)):=by
 have R0:=R.below (al w jo);have RW:=OL (by decide) R0 5 [92,47] (by decide) hm ONE (fun l x r _ h=>(Ff (.inl rfl) (we af n) l x r h).2);have hrb:=R.lo.2;have HT:=hid (show L≠[]->bk a<w.heap.size from fun h=>R.rd.toks.lt jb (by omega) h);generalize fR 5 [92,47] (fR 4 [47,92] (bg af n)) (L.drop k)=p at*;have R0:=hid R0;clear ONE R;cases p with
 | error er=>
   have RW:=hid RW;go_in;go_wp2_with fail;refine RW.out.mono ?_;rintro e w1 h;obtain⟨rfl,S⟩:=h.err rfl;unfold dU;go_wp2_with fail;exact⟨rfl,(St.new (St.refl w rb) jo).trans S,.inl ⟨_,rfl,rfl⟩⟩
 | ok q=>
   obtain⟨x,r⟩:=q;have RW:=hid RW;go_in;go_wp2_with fail;refine RW.out.mono ?_;rintro e w1 h;obtain⟨k1,rfl,⟨y,hy,rfl,cL,iR⟩,R1,S1⟩:=h.fP rfl;have b8:=kD S1 hrb;have fz:=fun j=>(iO S1 (b:=w.heap.size) (by simp) (by omega) j).trans (ew w _ _ j)
   have p0:=b8.get 0 _ rfl;have p1:=b8.get 1 _ rfl;have p2:=b8.get 2 _ rfl;have p3:=b8.get 3 _ rfl;have p4:=b8.get 4 _ rfl;have p5:=b8.get 5 _ rfl;have G1:=hid (R0.out.st S1 R1);have cL:=hid cL;have S1:=hid S1;clear h R1 b8;go_wp2_with fail;exact bodyPost_ret (by simp[results,results238,go_sem,p0,p1,p2,p3,p4,p5]) rfl (VN.fin G1.out S1.out (by(repeat refine tD ?_ _ _);exact tE _ _) hrb HT.out y (by simpa using cL.out) iR (by rw[hy]) rfl)
theorem OB{w0 w:World}{rb:Nat}{af:Int}{s:Tx}{a:Option Addr}{c:Nat}{L:List Tok}{k m n:Nat}(R:cJ w0 w rb af s a c L k)(hm:(L.drop k).length<=m)
 (NOT:rC 332 w0 rb af s a c L m (bg af n)):
 Calls prog 238 #[.pointer (some ⟨rb,0,none⟩)] w (eO w w0.heap.size rb af s a c L (gI (bg af n) (L.drop k)) (VN w.heap.size)):=
 Z9 R hm fun w k R hm=>ZJ R hm NOT
structure aM(w w':World)(b:Nat):Prop where
 grown:w.grownBy w' (aos b)
 size:w'.heap.size=w.heap.size
theorem aM.refl(w:World)(b:Nat):aM w w b:=⟨tE w b,rfl⟩
theorem aM.put{w w':World}{b:Nat}(h:aM w w' b)(j:Nat)(v:Value):aM w (w'.setCell ⟨b,j,none⟩ v) b:=⟨tD h.grown j v,by simpa using h.size⟩
theorem aM.al{w w':World}{b:Nat}(h:aM w w' b)(o:Obj):aM (w.alloc o) (w'.alloc o) b:=by
 refine⟨⟨h.grown.os,h.grown.tape,h.grown.output,by simp[h.size],fun k hk hne=>?_⟩,by simp[h.size]⟩;rw[lz]at hk;rcases Nat.lt_or_ge k w.heap.size with h1|h1
 ·rw[heap_alloc_old _ _ (by rw[h.size];exact h1),heap_alloc_old _ _ h1];exact h.grown.block k h1 hne
 ·obtain rfl:k=w.heap.size:=by omega
  rw[heap_alloc_new];rw[<-h.size,heap_alloc_new]
theorem ae0{af:Int}{n:Nat}{l:List Tok}(h:aA l=[126]):bg af (n+1) l=match bg af n l.tail with
 | .error e=>.error e
 | .ok (x,r)=>.ok (uc 3 [x],r):=by rw[bg,if_pos h];cases bg af n l.tail<;>rfl
theorem ae1{af:Int}{n:Nat}{l:List Tok}(h:aA l=[40]):bg af (n+1) l=match gI (bg af n) l.tail with
 | .error e=>.error e
 | .ok (x,r)=>match bt [41] r with
   | .error e=>.error e
   | .ok r=>.ok (x,r):=by
 rw[bg,if_neg (by rw[h];decide),if_pos h];cases gI (bg af n) l.tail with
 |error e=>rfl
 |ok p=>rfl
theorem ae2{af:Int}{n:Nat}{l:List Tok}(h:aA l=[116,114,117,101])(h2:aA l.tail≠[61]):bg af (n+1) l= .ok (uc 1 [],l.tail):=by
 rw[bg,if_neg (by rw[h];decide),if_neg (by rw[h];decide),if_pos ⟨h,h2⟩]
theorem ae3{af:Int}{n:Nat}{l:List Tok}(h1:aA l≠[126])(h2:aA l≠[40])(h3:aA l≠[116,114,117,101]\/aA l.tail=[61]):bg af (n+1) l=jN af l:=by
 rw[bg,if_neg h1,if_neg h2,if_neg];rintro⟨a,b⟩;rcases h3 with h|h
 ·exact h a
 ·exact b h
section
variable {w0 w:World} {rb:Nat} {af:Int} {s:Tx} {a:Option Addr} {c:Nat} {L:List Tok} {k m n:Nat}
theorem Z3(R:cJ w0 w rb af s a c L k)(hm:(L.drop k).length<=m+1)(NOT:rC 332 w0 rb af s a c L m (bg af n))(h1:aA (L.drop k)=[126]):
 Calls prog 332 #[.pointer (some ⟨rb,0,none⟩)] w (eO w w0.heap.size rb af s a c L (bg af (n+1) (L.drop k)) (VN w.heap.size)):=by
 have R0:=R.below (al w jo);have hk:=tK (L:=L) (k:=k) (by rw[h1];decide);have hd:(L.drop (k+1)).length<=m:=by simp at hm ⊢; omega
 have PK:=hid (qz R0.rd);unfold oN at PK;rw[h1]at PK;rw[ae0 h1,apc];have NT:=hid (fun(w:World) (R:cJ w0 w rb af s a c L (k+1))=>NOT w (k+1) R hd);have hrb:=R.lo.2;have HT:=hid (show L≠[]->bk a<w.heap.size from fun h=>R.rd.toks.lt jb (by omega) h);generalize bg af n (L.drop (k+1))=p at*;have z:((tx [126]).toList==[126])=true:=by rw[aW];decide
 have hL:L.length<=262144:=R.rd.sm;generalize tx [126]=u at*;have R0:=hid R0;have HK:=hid hk;clear NOT R h1 hm hd;go_in;go_wp2_with fail;refine PK.out.mono ?_;rintro e w1 ⟨rfl,q⟩;have R1:=R0.out.below q.aQ;obtain⟨c0,c1,c2,c3,f3,lt⟩:=R1.rd.cells;obtain⟨R2,S2⟩:=R1.rd.next HK.out;have S:=hid ((aX (bw:=rb) q.aQ).trans S2);have hq:=q.aQ.size;have G2:=hid (R1.st S2 R2);have NT:=hid (NT.out _ G2.out);clear R1 R2 S2 q;go_wp2_with fail;refine NT.out.mono ?_;rintro e w2 h;rcases p with er|⟨x,r⟩
 ·obtain⟨rfl,S3⟩:=h.err rfl
  unfold dU;go_wp2_with fail;exact⟨rfl,(St.new (St.refl w rb) jo).trans (S.out.trans S3),.inl ⟨_,rfl,rfl⟩⟩
 obtain⟨k1,rfl,⟨y,hy,rfl,cL,iR⟩,R3,S3⟩:=h.fP rfl;have S4:=S.out.trans S3;have hsz:=S4.grown.size;have S5:=St.new S4 (aS y);have G3:=hid ((G2.out.st S3 R3).below (al w2 (aS y)));have N1:=fK.one (cL.mono (B':=w.heap.size+1) (by simp at hq ⊢; omega)) iR (by simp at hsz;omega);have N1:=hid (N1.node 3 eN 0 (by decide) (by simp));have QA:w.heap.size<w2.heap.size:=by simp at hsz;omega
 have HB:Hid ((ape (uc 3 [x],L.drop k1):PR Nd)= .ok (aL (.mk 3 eN 0 (some ⟨w2.heap.size,0,none⟩) 1 [y]),L.drop k1)):=hid (by
  rw[aL,tj,oQ,hy];rfl)
 have b8:=kD S4 hrb;have fz:=fun j=>(iO S4 (b:=w.heap.size) (by simp) (by omega) j).trans (ew w _ _ j)
 have p0:=b8.get 0 _ rfl;have p1:=b8.get 1 _ rfl;have p2:=b8.get 2 _ rfl;have p3:=b8.get 3 _ rfl;have p4:=b8.get 4 _ rfl;have p5:=b8.get 5 _ rfl;have S5:=hid S5;clear h R3 S3 b8 S4 cL;go_wp2_with fail;exact bodyPost_ret (by simp[results,results332,go_sem,p0,p1,p2,p3,p4,p5,QA,Nd.kind,Nd.th,eN,Nd.val,Nd.a,Nd.c,Nd.kids,iq]) rfl (VN.fin G3.out S5.out (aM.grown (by refine aM.al ?_ _;(repeat refine aM.put ?_ _ _);exact aM.refl _ _)) hrb HT.out (.mk 3 eN 0 (some ⟨w2.heap.size,0,none⟩) 1 [y]) N1.out.1 N1.out.2 HB.out rfl)
theorem Z4(R:cJ w0 w rb af s a c L k)(hm:(L.drop k).length<=m+1)(NOT:rC 332 w0 rb af s a c L m (bg af n))(h1:aA (L.drop k)=[40]):
 Calls prog 332 #[.pointer (some ⟨rb,0,none⟩)] w (eO w w0.heap.size rb af s a c L (bg af (n+1) (L.drop k)) (VN w.heap.size)):=by
 have R0:=R.below (al w jo);have hk:=tK (L:=L) (k:=k) (by rw[h1];decide);have hd:(L.drop (k+1)).length<=m:=by simp at hm ⊢; omega
 have PK:=hid (fun(w:World) (R:b7 w w0.heap.size rb af s a c L k)=>qz R);unfold oN at PK;rw[h1]at PK;rw[ae1 h1,apc];have NT:=hid (fun(w:World) (R:cJ w0 w rb af s a c L (k+1))=>OB R hd NOT);have TK:=hid (fun(w:World) (k':Nat) (R:b7 w w0.heap.size rb af s a c L k')=>vo R [41] (by decide));have hrb:=R.lo.2;have HT:=hid (show L≠[]->bk a<w.heap.size from fun h=>R.rd.toks.lt jb (by omega) h);generalize gI (bg af n) (L.drop (k+1))=p at*;have z:((tx [40]).toList==[126])=false:=by rw[aW];decide
 have z2:((tx [40]).toList==[40])=true:=by rw[aW];decide
 have hL:L.length<=262144:=R.rd.sm;generalize tx [40]=u at*;have R0:=hid R0;have HK:=hid hk;clear NOT R h1 hm hd
 obtain⟨Z,hZ⟩: ∃Z,(match p with
  | .error e=>.error e
  | .ok (x,r)=>match bt [41] r with
    | .error e=>.error e
    | .ok r=>.ok (x,r):PR Nd)=Z:=⟨_,rfl⟩
 rw[hZ];have HZ:=hid hZ;clear hZ;go_in;go_wp2_with fail;refine(PK.out _ R0.out.rd).mono ?_;rintro e w1 ⟨rfl,q⟩;have R1:=hid (R0.out.below q.aQ);have S:=hid (aX (bw:=rb) q.aQ);clear q;go_wp2_with fail;refine(PK.out _ R1.out.rd).mono ?_;rintro e w2 ⟨rfl,q⟩;have R1:=R1.out.below q.aQ;have hq:=R1.bG.size;obtain⟨c0,c1,c2,c3,f3,lt⟩:=R1.rd.cells;obtain⟨R2,S2⟩:=R1.rd.next HK.out;have S:=hid ((S.out.trans (aX (bw:=rb) q.aQ)).trans S2);have hsw:=S.out.grown.size;have G2:=hid (R1.st S2 R2);have NT:=hid (NT.out _ G2.out);clear R1 R2 S2 q;go_wp2_with fail;refine NT.out.mono ?_;rintro e w3 h;rcases p with er|⟨x,r⟩
 ·obtain⟨rfl,S3⟩:=h.err rfl
  have HZ:=HZ.out;simp only at HZ;subst HZ;unfold dU;go_wp2_with fail;exact⟨rfl,(St.new (St.refl w rb) jo).trans (S.out.trans S3),.inl ⟨_,rfl,rfl⟩⟩
 obtain⟨k1,rfl,⟨y,hy,rfl,cL,iR⟩,R3,S3⟩:=h.fP rfl;have G3:=hid ((G2.out.st S3 R3).below (al w3 (aS y)));have TC:=hid (TK.out _ k1 G3.out.rd);have hs3:=S3.grown.size;have S4:=hid (St.new (S.out.trans S3) (aS y));have cL:=hid (cL.mono (B':=w.heap.size+1) (by simp at hsw ⊢; omega));have acs:rb<w3.heap.size:=by simp at hsw hs3;omega
 clear h R3 S3;go_wp2_with fail;refine TC.out.mono ?_;rintro e w4 h;rcases htk:bt [41] (L.drop k1)with er|r2
 ·obtain⟨rfl,S5⟩:=h.err (show _=apd er by rw[htk];rfl)
  have HZ:=HZ.out;simp only[htk]at HZ;subst HZ;have S6:=hid (S4.out.trans S5);unfold dU;go_wp2_with fail;exact⟨rfl,(St.new (St.refl w rb) jo).trans S6.out,.inl ⟨_,rfl,rfl⟩⟩
 have HZ:=HZ.out;simp only[htk]at HZ;subst HZ;obtain⟨k2,rfl,hv,R5,S5⟩:=h.fP (show _=ape ((),r2) by rw[htk];rfl);unfold VU at hv;subst hv;have b3:=kD S5 acs;have S6:=S4.out.trans S5;have b8:=kD S6 hrb;have hsz:=S6.grown.size;have fz:=fun j=>(iO S6 (b:=w.heap.size) (by simp) (by omega) j).trans (ew w _ _ j)
 have p0:=b8.get 0 _ rfl;have p1:=b8.get 1 _ rfl;have p2:=b8.get 2 _ rfl;have p3:=b8.get 3 _ rfl;have p4:=b8.get 4 _ rfl;have p5:=b8.get 5 _ rfl;have q0:=b3.get 0 _ rfl;have q1:=b3.get 1 _ rfl;have q2:=b3.get 2 _ rfl;have q3:=b3.get 3 _ rfl;have q4:=b3.get 4 _ rfl;have q5:=b3.get 5 _ rfl;have G5:=hid (G3.out.st S5 R5);have cL:=hid ((cL.out.keep (al w3 (aS y))).st S5 (by omega));have S6:=hid S6;clear h htk R5 S5 b8 b3;go_wp2_with fail;exact bodyPost_ret (by simp[results,results332,go_sem,p0,p1,p2,p3,p4,p5]) rfl (VN.fin G5.out S6.out (by(repeat refine tD ?_ _ _);exact tE _ _) hrb HT.out y cL.out iR (by rw[hy]) rfl)
end
section
variable {w0 w:World} {rb:Nat} {af:Int} {s:Tx} {a:Option Addr} {c:Nat} {L:List Tok} {k m n:Nat}
theorem Ul{w:World}{B:Nat}(R:b7 w B rb af s a c L k):Calls prog 236 #[.pointer (some ⟨rb,0,none⟩),.int .i64 1] w (sY w (.string (tx (aA (L.drop (k+1)))))):=Aj R 1 (by omega)
theorem Z5(R:cJ w0 w rb af s a c L k)(h1:aA (L.drop k)=[116,114,117,101])(h2:aA (L.drop (k+1))≠[61]):
 Calls prog 332 #[.pointer (some ⟨rb,0,none⟩)] w (eO w w0.heap.size rb af s a c L (bg af (n+1) (L.drop k)) (VN w.heap.size)):=by
 have R0:=R.below (al w jo);have hk:=tK (L:=L) (k:=k) (by rw[h1];decide);have PK:=hid (fun(w:World) (R:b7 w w0.heap.size rb af s a c L k)=>qz R);unfold oN at PK;have zO:=hid (fun(w:World) (R:b7 w w0.heap.size rb af s a c L k)=>Ul R);rw[h1]at PK;rw[ae2 h1 (by rw[apc];exact h2),apc];have hrb:=R.lo.2;have Jc:=R.lo.1;have HT:=hid (show L≠[]->bk a<w.heap.size from fun h=>R.rd.toks.lt jb (by omega) h);have hL:L.length<=262144:=R.rd.sm;have XI:=hid R.sh;have z:((tx [116,114,117,101]).toList==[126])=false:=by rw[aW];decide
 have z2:((tx [116,114,117,101]).toList==[40])=false:=by rw[aW];decide
 have z3:((tx [116,114,117,101]).toList==[116,114,117,101])=true:=by rw[aW];decide
 have z4:((tx (aA (L.drop (k+1)))).toList==[61])=false:=jm _ _ h2;generalize tx [116,114,117,101]=u at*;generalize tx (aA (L.drop (k+1)))=v at*;have R0:=hid R0;have HK:=hid hk;clear R h1 h2;go_in;go_wp2_with fail;refine(PK.out _ R0.out.rd).mono ?_;rintro e w1 ⟨rfl,q⟩;have R1:=hid (R0.out.below q.aQ);have S:=hid (aX (bw:=rb) q.aQ);clear q;go_wp2_with fail;refine(PK.out _ R1.out.rd).mono ?_;rintro e w2 ⟨rfl,q⟩;have R2:=hid (R1.out.below q.aQ);have S:=hid (S.out.trans (aX (bw:=rb) q.aQ));clear q R1;go_wp2_with fail;refine(PK.out _ R2.out.rd).mono ?_;rintro e w3 ⟨rfl,q⟩;have R3:=hid (R2.out.below q.aQ);have S:=hid (S.out.trans (aX (bw:=rb) q.aQ));clear q R2;go_wp2_with fail;refine(zO.out _ R3.out.rd).mono ?_;rintro e w4 ⟨rfl,q⟩;have R3:=hid (R3.out.below q.aQ);have S:=hid (S.out.trans (aX (bw:=rb) q.aQ));clear q;obtain⟨c0,c1,c2,c3,f3,lt⟩:=R3.out.rd.cells;obtain⟨R4,S4⟩:=R3.out.rd.next HK.out;have S5:=S.out.trans S4;have b8:=kD S.out hrb;have fz:=fun j=>(iO S.out (b:=w.heap.size) (by simp) (by omega) j).trans (ew w _ _ j)
 have p0:=b8.get 0 _ rfl;have p1:=b8.get 1 _ rfl;have p2:=b8.get 2 _ rfl;have p3:=b8.get 3 _ rfl;have p4:=b8.get 4 _ rfl;have p5:=b8.get 5 _ rfl;have hne:w.heap.size≠rb:=by omega
 have G5:=hid (R3.out.st S4 R4);have S5:=hid S5;clear S4 R4 b8;go_wp2_with fail;exact bodyPost_ret (by simp[results,results332,go_sem,p0,p1,p2,p3,p4,p5,Nd.kind,Nd.th,eN,Nd.val,Nd.a,Nd.c,Nd.kids,iq]) rfl (VN.fin G5.out S5.out (aM.grown (by(repeat refine aM.put ?_ _ _);exact aM.refl _ _)) hrb HT.out (.mk 1 eN 0 none 0 []) (bz.leaf _ _ 1 eN 0 (by decide)).1 (bz.leaf w1 0 1 eN 0 (by decide)).2 (by rw[aL,oQ];rfl) rfl)
theorem Hl(R:cJ w0 w rb af s a c L k)(h1:aA (L.drop k)≠[126])(h2:aA (L.drop k)≠[40])(h3:aA (L.drop k)≠[116,114,117,101]\/aA (L.drop (k+1))=[61]):
 Calls prog 332 #[.pointer (some ⟨rb,0,none⟩)] w (eO w w0.heap.size rb af s a c L (bg af (n+1) (L.drop k)) (VN w.heap.size)):=by
 have R0:=R.below (al w jo);have PK:=hid (fun(w:World) (R:b7 w w0.heap.size rb af s a c L k)=>qz R);unfold oN at PK;have zO:=hid (fun(w:World) (R:b7 w w0.heap.size rb af s a c L k)=>Ul R);rw[ae3 h1 h2 (by rw[apc];exact h3)];have hrb:=R.lo.2;have Jc:=R.lo.1;have HT:=hid (show L≠[]->bk a<w.heap.size from fun h=>R.rd.toks.lt jb (by omega) h);have hL:L.length<=262144:=R.rd.sm;have XI:=hid R.sh;have z:((tx (aA (L.drop k))).toList==[126])=false:=jm _ _ h1;have z2:((tx (aA (L.drop k))).toList==[40])=false:=jm _ _ h2
 have HB:=hid (show((tx (aA (L.drop k))).toList==[116,114,117,101])=false\/(((tx (aA (L.drop k))).toList==[116,114,117,101])=true/\aA (L.drop (k+1))=[61]) by
  by_cases h:aA (L.drop k)=[116,114,117,101]
  ·exact .inr ⟨by rw[aW,h];decide,h3.resolve_left (fun g=>g h)⟩
  ·exact .inl (jm _ _ h))
 have TH:=hid (fun(w:World) (R:cJ w0 w rb af s a c L k)=>aic R.rd R.sh R.gl);have TK:=hid (fun(w:World) (k':Nat) (R:b7 w w0.heap.size rb af s a c L k')=>vo R [61] (by decide));have IC:=hid (fun(w:World) (k':Nat) (R:cJ w0 w rb af s a c L k')=>Ou R.rd R.sh (-2147483648) 2147483647 (by decide) (by decide) R.gl);generalize tx (aA (L.drop k))=u at*;have R0:=hid R0;obtain⟨Z,hZ⟩: ∃Z,jN af (L.drop k)=Z:=⟨_,rfl⟩;rw[hZ];have HZ:=hid hZ;clear R h1 h2 h3 hZ;go_in;go_wp2_with fail;refine(PK.out _ R0.out.rd).mono ?_;rintro e w1 ⟨rfl,q⟩;have R1:=hid (R0.out.below q.aQ);have S:=hid (aX (bw:=rb) q.aQ);clear q;go_wp2_with fail;refine(PK.out _ R1.out.rd).mono ?_;rintro e w2 ⟨rfl,q⟩;have R2:=hid (R1.out.below q.aQ);have S:=hid (S.out.trans (aX (bw:=rb) q.aQ));clear q R1;go_wp2_with fail;refine(PK.out _ R2.out.rd).mono ?_;rintro e w3 ⟨rfl,q⟩;have R3:=hid (R2.out.below q.aQ);have S:=hid (S.out.trans (aX (bw:=rb) q.aQ));clear q R2;rcases HB.out with z3|⟨z3,h4⟩
 all_goals clear HB
 rotate_left
 rw[h4]at zO;have z4:((tx [61]).toList==[61])=true:=by rw[aW];decide
 generalize tx [61]=v at zO z4;clear h4;go_wp2_with fail;refine(zO.out _ R3.out.rd).mono ?_;rintro e w4 ⟨rfl,q⟩;have R3:=hid (R3.out.below q.aQ);have S:=hid (S.out.trans (aX (bw:=rb) q.aQ));clear q
 all_goals
  have TH:=hid (TH.out _ R3.out);go_wp2_with fail;refine TH.out.mono ?_;rintro e w5 h;rcases tQ:gv af (L.drop k)with er|⟨t,r⟩
  ·have ri:=hid tQ
   have HZ:=HZ.out;simp only[jN,tQ]at HZ;subst HZ;obtain⟨rfl,S5⟩:=h.err (show _=apd er by rw[ri.out]);unfold dU;go_wp2_with fail;exact⟨rfl,(St.new (St.refl w rb) jo).trans (S.out.trans S5),.inl ⟨_,rfl,rfl⟩⟩
  have ri:=hid tQ;clear tQ;obtain⟨k1,rfl,⟨rfl,hx⟩,R5,S5⟩:=h.fP (show _=ape (t,r) by rw[ri.out]);have HX:=hid hx;have R5:=hid ((R3.out.st S5 R5).below (al w5 (aS (.mk 2 t 0 none 0 []))));have hs5:=S5.grown.size;have acI:=S.out.grown.size;have acu:rb<w5.heap.size:=by simp at acI;omega
  have acz:w5.heap.size≠rb:=by omega
  have S:=hid (S.out.trans S5);have hS5:=S.out.grown.size;have TC:=hid (TK.out _ k1 R5.out.rd);clear h hx R3 S5;go_wp2_with fail;refine TC.out.mono ?_;rintro e w6 h;rcases htk:bt [61] (L.drop k1)with er|r2
  ·have iK:=hid htk
   have HZ:=HZ.out;simp only[jN,ri.out,htk]at HZ;subst HZ;obtain⟨rfl,S6⟩:=h.err (show _=apd er by rw[iK.out];rfl);unfold dU;go_wp2_with fail;exact⟨rfl,(St.new (St.refl w rb) jo).trans ((St.new S.out (aS (.mk 2 t 0 none 0 []))).trans S6),.inl ⟨_,rfl,rfl⟩⟩
  have iK:=hid htk;clear htk;obtain⟨k2,rfl,hv,R6,S6⟩:=h.fP (show _=ape ((),r2) by rw[iK.out];rfl);unfold VU at hv;subst hv;have R6:=hid (R5.out.st S6 R6);have IT:=hid (IC.out _ k2 R6.out);have S6:=hid S6;clear h R5;go_wp2_with fail;refine IT.out.mono ?_;rintro e w7 h;rcases hin:jf (-2147483648) 2147483647 (L.drop k2)with er|⟨v',r3⟩
  ·have qV:=hid hin
   have HZ:=HZ.out;simp only[jN,ri.out,iK.out,hin]at HZ;subst HZ;obtain⟨rfl,S7⟩:=h.err (show _=apd er by rw[qV.out]);unfold dU;go_wp2_with fail;exact⟨rfl,(St.new (St.refl w rb) jo).trans ((St.new S.out (aS (.mk 2 t 0 none 0 []))).trans (S6.out.trans S7)),.inl ⟨_,rfl,rfl⟩⟩
  have qV:=hid hin;have HZ:=HZ.out;simp only[jN,ri.out,iK.out,hin]at HZ;subst HZ;clear hin;obtain⟨k3,rfl,hv,R7,S7⟩:=h.fP (show _=ape (v',r3) by rw[qV.out]);unfold VI at hv;subst hv;have b4:=kD (S6.out.trans S7) acu;have S8:=(St.new S.out (aS (.mk 2 t 0 none 0 []))).trans (S6.out.trans S7);have b8:=kD S8 hrb;have Je:=(S6.out.trans S7).grown.size;have fz:=fun j=>(iO S8 (b:=w.heap.size) (by simp) (by omega) j).trans (ew w _ _ j)
  have fy:=fun j=>(iO (S6.out.trans S7) (b:=w5.heap.size) (by simp) (by omega) j).trans (ew w5 _ _ j)
  have p0:=b8.get 0 _ rfl;have p1:=b8.get 1 _ rfl;have p2:=b8.get 2 _ rfl;have p3:=b8.get 3 _ rfl;have p4:=b8.get 4 _ rfl;have p5:=b8.get 5 _ rfl;have q0:=b4.get 0 _ rfl;have q1:=b4.get 1 _ rfl;have q2:=b4.get 2 _ rfl;have q3:=b4.get 3 _ rfl;have q4:=b4.get 4 _ rfl;have q5:=b4.get 5 _ rfl;have QA:w.heap.size<w5.heap.size:=by simp at hS5;omega
  have amk:w5.heap.size≠w.heap.size:=by omega
  have amd:w5.heap.size<w7.heap.size:=by simp at Je;omega
  have R7:=hid (R6.out.st S7 R7);have S8:=hid S8;clear h b4 b8 S7 R6;go_wp2_with fail;exact bodyPost_ret (by simp[results,results332,go_sem,p0,p1,p2,p3,p4,p5,Nd.kind,Nd.th,Nd.val,Nd.a,Nd.c,Nd.kids]) rfl (VN.fin (R7.out.qd (tD (tE _ _) 4 _) acz (fun h=>by have:=HT.out h;omega) (by omega)) (St.put S8.out (b:=w5.heap.size) (by simp;omega) 4 _) (aM.grown (by(repeat refine aM.put ?_ _ _);exact aM.refl _ _)) hrb HT.out (.mk 2 t v' none 0 []) (bz.leaf _ _ 2 t v' HX.out).1 (bz.leaf w1 0 2 t v' HX.out).2 (by rw[aL,oQ]) rfl)
theorem Z7(H:rC 332 w0 rb af s a c L m (bg af n))(R:cJ w0 w rb af s a c L k)(hm:(L.drop k).length<=m+1):Calls prog 332 #[.pointer (some ⟨rb,0,none⟩)] w (eO w w0.heap.size rb af s a c L (bg af (n+1) (L.drop k)) (VN w.heap.size)):=by
 by_cases h1:aA (L.drop k)=[126]
 ·exact Z3 R hm H h1
 ·by_cases h2:aA (L.drop k)=[40]
  ·exact Z4 R hm H h2
  ·by_cases h3:aA (L.drop k)=[116,114,117,101]
   ·by_cases h4:aA (L.drop (k+1))=[61]
    ·exact Hl R h1 h2 (.inr h4)
    ·exact Z5 R h3 h4
   ·exact Hl R h1 h2 (.inl h3)
theorem Z6(R:cJ w0 w rb af s a c L k)(hm:(L.drop k).length=0):Calls prog 332 #[.pointer (some ⟨rb,0,none⟩)] w (eO w w0.heap.size rb af s a c L (bg af (n+1) (L.drop k)) (VN w.heap.size)):=by
 have h:aA (L.drop k)=[]:=by rw[List.eq_nil_of_length_eq_zero hm];rfl
 exact Hl R (by rw[h];decide) (by rw[h];decide) (.inl (by rw[h];decide))
theorem Z2(n:Nat):rC 332 w0 rb af s a c L n (bg af (n+1)):=by
 induction n with
 |zero=>intro w k R hm;exact Z6 R (by omega)
 |succ n ih=>intro w k R hm;exact Z7 ih R hm
theorem ah9(R:cJ w0 w rb af s a c L k):Calls prog 238 #[.pointer (some ⟨rb,0,none⟩)] w (eO w w0.heap.size rb af s a c L (gI (bg af ((L.drop k).length+1)) (L.drop k)) (VN w.heap.size)):=
 OB R (amS _) (Z2 _)
end
end Go.Proofs.YtkbbgjloifmmbaaGreatDoor
