/- What ReadBlanksP leans on, part 21. -/
import Derived.Test.YtkbbgjloifmmbaaGreatDoorPc17
import Derived.Test.YtkbbgjloifmmbaaGreatDoorPc18
import Derived.Test.YtkbbgjloifmmbaaGreatDoorPc19
set_option linter.unusedVariables false
set_option maxRecDepth 100000
set_option maxHeartbeats 6400000
open _root_.Go.Proofs.Tryz
open _root_.Option renaming some->an7
open _root_.Bool renaming noConfusion->anB
open _root_.Classical renaming byContradiction->apY
open _root_.List renaming mem_map_of_mem->apZ,length_cons->ans,length_drop->aoN
open _root_.Nat renaming zero_add->ann,zero_le->apL,le_refl->anb
namespace Go.Proofs.YtkbbgjloifmmbaaGreatDoor
open Go.RowKit Go.Sort
variable{a af:Int}{N:Nat}{c n r r1 s:Tx}
abbrev rdD(af:Int)(S:Tx)(l:List Tok)(b:Int):List Value:=[.int .i64 af,.string (tx S),.int .i64 (aY (au l)),.string (tx (au l)),.int .i64 (dz S.length l),.int .i64 (gh S.length l),.int .i64 b]
structure cD(w:World)(B rb:Nat)(af:Int)(S:Tx)(l:List Tok)(b:Int):Prop where
 own:Own w B 189 7 (an7 ⟨rb,0,none⟩) 1 1 (rdD af S l b)
 lx:Lx S l
 sl:S.length<=262144
section
variable {w w1:World} {B rb:Nat} {af:Int} {S:Tx} {l:List Tok} {b:Int}
structure aar(w:World)(rb:Nat)(af:Int)(S:Tx)(l:List Tok)(b:Int):Prop where
 c0:w.cell? ⟨rb,0,none⟩=an7 (.int .i64 af)
 c1:w.cell? ⟨rb,1,none⟩=an7 (.string (tx S))
 c2:w.cell? ⟨rb,2,none⟩=an7 (.int .i64 (aY (au l)))
 c3:w.cell? ⟨rb,3,none⟩=an7 (.string (tx (au l)))
 c4:w.cell? ⟨rb,4,none⟩=an7 (.int .i64 (dz S.length l))
 c5:w.cell? ⟨rb,5,none⟩=an7 (.int .i64 (gh S.length l))
 c6:w.cell? ⟨rb,6,none⟩=an7 (.int .i64 b)
 fz: ∀j,w.frozen? ⟨rb,j,none⟩=false
 lt:rb<w.heap.size
 ge:B<=rb
theorem cD.cells(h:cD w B rb af S l b): @aar B w rb af S l b:=by
 have f:=fun j=>Own.frozen h.own (by simp) j
 have c0:=(Own.row h.own).cell 0 (by simp);have c1:=(Own.row h.own).cell 1 (by simp);have c2:=(Own.row h.own).cell 2 (by simp);have c3:=(Own.row h.own).cell 3 (by simp);have c4:=(Own.row h.own).cell 4 (by simp);have c5:=(Own.row h.own).cell 5 (by simp);have c6:=(Own.row h.own).cell 6 (by simp);have lt:=Own.lt h.own (by simp);simp only[gv,gX,ann]at f c0 c1 c2 c3 c4 c5 c6 lt;exact⟨c0,c1,c2,c3,c4,c5,c6,f,lt.2,lt.1⟩
theorem cD.below(h:cD w B rb af S l b)(hb:Below w.heap.size w w1):cD w1 B rb af S l b:=⟨Own.below h.own hb,h.lx,h.sl⟩
theorem cD.gb(h:cD w B rb af S l b){c:Nat}(hg:w.grownBy w1 (an7 c))(hc:c≠rb):cD w1 B rb af S l b:=
 ⟨Own.kept h.own hg (.inr (by simp;exact fun e=>hc e.symm)),h.lx,h.sl⟩
theorem cD.four(h:cD w B rb af S l b){l':List Tok}(hx:Lx S l'):cD ((((w.setCell ⟨rb,2,none⟩ (.int .i64 (aY (au l')))).setCell ⟨rb,3,none⟩ (.string (tx (au l')))).setCell ⟨rb,4,none⟩ (.int .i64 (dz S.length l'))).setCell ⟨rb,5,none⟩ (.int .i64 (gh S.length l'))) B rb af S l' b/\
 St w ((((w.setCell ⟨rb,2,none⟩ (.int .i64 (aY (au l')))).setCell ⟨rb,3,none⟩ (.string (tx (au l')))).setCell ⟨rb,4,none⟩ (.int .i64 (dz S.length l'))).setCell ⟨rb,5,none⟩ (.int .i64 (gh S.length l'))) rb:=by
 obtain⟨o1,s1⟩:=Own.set h.own (by simp) 2 (.int .i64 (aY (au l')));obtain⟨o2,s2⟩:=Own.set o1 (by simp) 3 (.string (tx (au l')));obtain⟨o3,s3⟩:=Own.set o2 (by simp) 4 (.int .i64 (dz S.length l'));obtain⟨o4,s4⟩:=Own.set o3 (by simp) 5 (.int .i64 (gh S.length l'));simp only[gv,gX,ann]at o4 s1 s2 s3 s4;exact⟨⟨o4,hx,h.sl⟩,((s1.trans s2).trans s3).trans s4⟩
theorem cD.bad(h:cD w B rb af S l b)(b':Int):cD (w.setCell ⟨rb,6,none⟩ (.int .i64 b')) B rb af S l b'/\St w (w.setCell ⟨rb,6,none⟩ (.int .i64 b')) rb:=by
 obtain⟨o1,s1⟩:=Own.set h.own (by simp) 6 (.int .i64 b');simp only[gv,gX,ann]at o1 s1;exact⟨⟨o1,h.lx,h.sl⟩,s1⟩
theorem tH(R:cD w B rb af S l b)(k:Nat)(u:Tx)(hk:aY u=k):Calls prog 159 #[.pointer (some ⟨rb,0,none⟩),.int .i64 k,.string (tx u)] w fun e w'=>e= .returned (.bool (decide (au l=u)))/\w=w':=by
 obtain⟨-, -, c2,c3,-, -, -, -, lt, -⟩:=R.cells
 by_cases h1:au l=u
 ·have z1:((aY (au l):Int)==(k:Int))=true:=by rw[h1,hk];simp
  have z2:((tx (au l)).toList==(tx u).toList)=true:=by rw[h1];simp
  have HD:=hid (show decide (au l=u)=true from decide_eq_true h1);clear h1 hk R;go_in;go_wp2;go_ret;exact⟨aQ HD.out.symm,rfl⟩
 have z2:((tx (au l)).toList==(tx u).toList)=false:=mY h1
 have HD:=hid (show decide (au l=u)=false from decide_eq_false h1)
 by_cases h3:aY (au l)=k
 ·have z1:((aY (au l):Int)==(k:Int))=true:=by rw[h3];simp
  clear h1 hk R h3;go_in;go_wp2;go_ret;exact⟨aQ HD.out.symm,rfl⟩
 have z1:((aY (au l):Int)==(k:Int))=false:=ah
 clear h1 hk R h3;go_in;go_wp2;go_ret;exact⟨aQ HD.out.symm,rfl⟩
theorem nO(R:cD w B rb af S l b):Calls prog 160 #[.pointer (some ⟨rb,0,none⟩)] w fun e w'=>e= .returned (.tuple #[])/\St w w' rb/\cD w' B rb af S l.tail b:=by
 have TK:=hid (fun w=>GI (s:=S) R.sl R.lx.next.1 w);rw[R.lx.next.2]at TK;have R0:=R.below (below_drewN w 1);have R0:cD w.drew B rb af S l b:=R0;have FR:=hid (fun(w1:World) (h:cD w1 B rb af S l b)=>h.four (l':=l.tail) R.lx.tail);obtain⟨-, c1,-, -, -, c5,-, fz,lt, -⟩:=R0.cells;have E0:Below w.heap.size w w.drew:=below_drewN w 1;clear R;go_in;have HR:=hid R0;clear R0
 go_region_with (go_at_call 119;refine(TK.out _).mono ?_;rintro e w1 ⟨rfl,E1⟩;have R1:=HR.out.below E1;have Ai:=hid R1;obtain⟨c0,c1,c2,c3,c4,c5,c6,fz,lt, -⟩:=R1.cells;clear R1)
 all_goals go_end0
 all_goals exact⟨rfl,(aX (bw:=rb) (aB E0 E1)).trans (FR.out _ Ai.out).2,(FR.out _ Ai.out).1⟩
def k9{α:Type}(w:World)(B rb:Nat)(af:Int)(S:Tx)(p:PR α)(V:α->Ending->World->Prop)(J:Ending->Prop)(e:Ending)(w':World):Prop:=
 St w w' rb/\((∃l l',p= .error l/\J e/\cD w' B rb af S l' (dz S.length l))\/(∃x r,p= .ok (x,r)/\V x e w'/\cD w' B rb af S r (-1)))
theorem k9.cX{α:Type}{p:PR α}{V:α->Ending->World->Prop}{J:Ending->Prop}{e:Ending}(h:k9 w B rb af S p V J e w1){x:α}{r:List Tok}(hp:p= .ok (x,r)):V x e w1/\cD w1 B rb af S r (-1)/\St w w1 rb:=by
 obtain⟨h1,⟨l,l',h2,h3⟩|⟨y,k,h2,h3,h4⟩⟩:=h
 ·rw[hp]at h2;cases h2
 rw[hp]at h2;cases h2;exact⟨h3,h4,h1⟩
theorem k9.err{α:Type}{p:PR α}{V:α->Ending->World->Prop}{J:Ending->Prop}{e:Ending}(h:k9 w B rb af S p V J e w1){l:List Tok}(hp:p= .error l):J e/\St w w1 rb/\ ∃l',cD w1 B rb af S l' (dz S.length l):=by
 obtain⟨h1,⟨l,l',h2,h3,h4⟩|⟨y,k,h2,h3,h4⟩⟩:=h
 ·rw[hp]at h2;cases h2;exact⟨h3,h1,l',h4⟩
 rw[hp]at h2;cases h2
def JU(e:Ending):Prop:=e= .returned (.tuple #[])
theorem wJ(R:cD w B rb af S l (-1)):Calls prog 163 #[.pointer (some ⟨rb,0,none⟩)] w fun e w'=>e= .returned (.tuple #[])/\St w w' rb/\cD w' B rb af S l (dz S.length l):=by
 obtain⟨-, -, -, -, c4,-, c6,fz,lt, -⟩:=R.cells;have FR:=hid (R.bad (dz S.length l));clear R;go_in;go_wp2
 go_end0
 exact⟨rfl,FR.out.2,FR.out.1⟩
theorem CZ(R:cD w B rb af S l b)(hb:0<=b)(k:Nat)(u:Tx):Calls prog 161 #[.pointer (some ⟨rb,0,none⟩),.int .i64 k,.string (tx u)] w fun e w'=>e= .returned (.tuple #[])/\w=w':=by
 obtain⟨-, -, -, -, c4,-, c6,fz,lt, -⟩:=R.cells;have z:decide (0<=b)=true:=decide_eq_true hb;clear R;go_in;go_wp2;exact bodyPost_ret (results_none rfl _ _ _) rfl ⟨rfl,rfl⟩
theorem ak2{u:Tx}(hu:u≠[])(h:au l=u):zJ (bg u l)= .ok ((),l.tail):=by
 cases l with
 |nil=>exact absurd h.symm hu
 |cons t r=>rw[tK,if_pos (show t.1=u from h)];rfl
theorem ak1{u:Tx}(h:au l≠u):zJ (bg u l)= .error l:=by
 cases l with
 |nil=>rfl
 |cons t r=>rw[tK,if_neg (show ¬t.1=u from h)];rfl
theorem uO(R:cD w B rb af S l (-1))(k:Nat)(u:Tx)(hk:aY u=k)(hu:u≠[]):Calls prog 161 #[.pointer (some ⟨rb,0,none⟩),.int .i64 k,.string (tx u)] w (k9 w B rb af S (zJ (bg u l)) VU JU):=by
 have IS:=hid (tH R k u hk);obtain⟨-, -, -, -, c4,-, c6,fz,lt, -⟩:=R.cells
 by_cases hh:au l=u
 ·rw[ak2 hu hh]
  have ON:=hid (nO R);have HB:=hid (show decide (au l=u)=true from decide_eq_true hh);clear hh R hu hk;go_in
  go_wp2_with (go_at_call 159;refine av IS.out ?_;rw[HB.out])
  refine ON.out.mono ?_;rintro e w1 ⟨rfl,S1,R1⟩;go_wp2
  go_end0
  exact⟨S1,.inr ⟨(),_,rfl,rfl,R1⟩⟩
 rw[ak1 hh]
 have WR:=hid (wJ R);have HB:=hid (show decide (au l=u)=false from decide_eq_false hh);clear hh R hu hk;go_in
 go_wp2_with (go_at_call 159;refine av IS.out ?_;rw[HB.out])
 refine WR.out.mono ?_;rintro e w1 ⟨rfl,S1,R1⟩;go_wp2;exact bodyPost_ret (results_none rfl _ _ _) rfl ⟨S1,.inl ⟨_,_,rfl,rfl,R1⟩⟩
end
def dB(s:Tx):Int:=s.count 40-s.count 41
theorem aag{d:Nat->Nat}: ∀{l:List Tok},(∀t∈l,d t.2=t.2)->zP d l=l
 |[],_=>rfl
 |t::l,h=>by rw[DR,aag fun u hu=>h u (by simp[hu]),h t (by simp)]
theorem Ms: ∀(n p:Nat) (s:Tx),s.length<=n-> ∀t∈lex p s,t.2<=p+s.length
 |_,p,[],_,t,ht=>by rw[lex_nil]at ht;cases ht
 |0,_,_::_,h,_,_=>absurd h (by simp)
 | n+1,p,c::r,h,t,ht=>by
   simp only[ans]at h⊢;cases hb:aq c with
   |true=>rw[yD p r hb]at ht;have:=Ms n (p+1) r (by omega) t ht;omega
   | false=>
     have hp:=nJ c r;have hle:=tC c r;rw[Cm p r hb]at ht;rcases List.mem_cons.1 ht with rfl|ht
     ·simp only;omega
     have:=Ms n _ _ ah t ht
     simp only[aoN,ans]at this;omega
theorem Xm{e:Int}{k:Nat}(h:cJ af s= .error (e,k)):k<=s.length:=by
 unfold cJ at h
 split at h
 ·cases h;exact apL _
 split at h
 ·cases h;exact apL _
 split at h
 ·rename_i l hl
  cases h;have hz:zP (fun n=>min n s.length) (lex 0 s)=lex 0 s:=aag fun t ht=>by have:=Ms _ 0 s (anb _) t ht;omega
  have:=Sg af (fun n=>min n s.length) (lex 0 s);rw[hz,hl]at this;have e2:l=zP (fun n=>min n s.length) l:=by injection this
  cases l with
  |nil=>exact anb _
  | cons t l=>
    rw[DR]at e2;have e3:=congrArg Prod.snd (List.cons.inj e2).1;show t.2<=s.length;simp only at e3;omega
 split at h
 ·cases h
 cases h;exact apL _
theorem Uh(h:fP N r= .ok (a,n,r1)):r1=bE (ax r):=by
 unfold fP at h
 dsimp only at h
 split at h
 ·cases h
 split at h
 ·cases h
 cases h;rfl
theorem Sw(h:eH N r= .ok (c,r1)):(r1=r/\(aK (ax r)).head?≠some 34)\/r1=bE (ax r):=by
 unfold eH at h
 dsimp only at h
 split at h
 ·rename_i h0;cases h;exact .inl ⟨rfl,h0⟩
 split at h
 ·cases h
 cases h;exact .inr rfl
theorem U7{l:List aL}(h:eM af N r= .ok (l,r1)):(ax r).head?=some 123/\(125:UInt8)∈ax r/\r1.length<=r.length:=by
 unfold eM at h
 dsimp only at h
 split at h
 ·cases h
 rename_i h0
 rw[not_or]at h0
 split at h
 ·cases h
 cases h
 refine⟨apY h0.1,apY h0.2,?_⟩;have a:=(List.dropWhile_suffix (l:=ax r) (· != 125)).length_le;have b:=mV r;rw[aoN];omega
abbrev uL(q:Int)(x:Nd):Obj:=.cells #[.int .i64 q,.int .i64 x.kind,.int .i64 x.th.thread,.int .i64 x.th.az,.string (tx x.th.loc),.int .i64 x.val,.slice x.a x.kids.length x.c] 30
theorem ahH(p q:Int)(x y:Nd)(w:World)(h1:fW w x)(h2:fW w y):Calls prog 39 #[vC p x,vC q y] w (I4 w (p=q/\bG x=bG y)):=by
 have A1:=al w (uL p x);have A2:=al (w.alloc (uL p x)) (uL q y);have x0:=(aA.new w #[.int .i64 p,.int .i64 x.kind,.int .i64 x.th.thread,.int .i64 x.th.az,.string (tx x.th.loc),.int .i64 x.val,.slice x.a x.kids.length x.c] 30).below A2;have y0:=aA.new (w.alloc (uL p x)) #[.int .i64 q,.int .i64 y.kind,.int .i64 y.th.thread,.int .i64 y.th.az,.string (tx y.th.loc),.int .i64 y.val,.slice y.a y.kids.length y.c] 30;rw[cR]at y0;have HA:=hid (A1.trans (A2.mono A1.size));have AN:=hid (fun w2 (E:Below ((w.alloc (uL p x)).alloc (uL q y)).heap.size ((w.alloc (uL p x)).alloc (uL q y)) w2)=>ahI x y w2 ((h1.keep HA.out).keep E) ((h2.keep HA.out).keep E));obtain⟨b1,dH⟩: ∃b,(p==q)=b:=⟨_,rfl⟩;have HK:=hid (show b1=true<->p=q by rw[<-dH];simp);obtain⟨p0,p1,p2,p3,p4,p5,p6⟩:=x0.lA;obtain⟨q0,q1,q2,q3,q4,q5,q6⟩:=y0.lA;clear h1 h2 A1 A2 x0 y0;cases b1 with
 | false=>
   have HZ:=hid (show ¬(p=q/\bG x=bG y)from fun h=>by have:=HK.out.2 h.1;cases this);go_in;go_wp2_with fail
   (try go_simp)
   go_ret;exact⟨false,rfl,⟨fun h=>anB h,fun h=>absurd h HZ.out⟩,HA.out⟩
 | true=>
   go_in;go_wp2_with fail;refine(AN.out _ (Below.refl _ _)).mono ?_;rintro e w2 ⟨bb,rfl,dU,E2⟩;have oK:=hid dU;clear dU;go_wp2_with fail
   (try go_simp)
   go_ret;exact⟨bb,rfl,⟨fun h=>⟨HK.out.1 gf,oK.out.1 h⟩,fun h=>oK.out.2 h.2⟩,HA.out.trans (E2.mono HA.out.size)⟩
def oU(a b:aG):Prop:=a.af=b.af/\a.name=b.name/\a.bD=b.bD/\a.init=b.init/\gK a.code=gK b.code/\a.q=b.q/\bG a.node=bG b.node
theorem ET{a b:aG}:oU a b<->mA a=mA b:=by
 unfold oU mA pH
 constructor
 ·rintro⟨h1,h2,h3,h4,h5,h6,h7⟩;rw[h1,h2,h3,h4,h5,h6,h7]
 intro h
 simp only[aG.mk.injEq]at h;obtain⟨h1,h2,h3,-, -, h4,-, -, h5,h6,h7⟩:=h;refine⟨h1,h2,h3,h4,?_,h6,h7⟩;have:=congrArg (fun l=>l.map (·.l)) h5;simpa[Function.comp_def]using this
theorem Yf(a b:aG)(w:World)(h1:iT w a)(h2:iT w b):Calls prog 11 #[vT a,vT b] w (I4 w (oU a b)):=by
 have A1:=al w (cq a);have A2:=al (w.alloc (cq a)) (cq b);have a0:=(fF.new w a).below A2;have b0:=fF.new (w.alloc (cq a)) b;rw[cR]at b0;have HA:=hid (A1.trans (A2.mono A1.size));have H1:=hid (h1.keep HA.out);have H2:=hid (h2.keep HA.out);clear h1 h2 A1 A2;obtain⟨b1,dH⟩: ∃x,(a.af==b.af)=x:=⟨_,rfl⟩;obtain⟨b2,de⟩: ∃x,((tx a.name).toList==(tx b.name).toList)=x:=⟨_,rfl⟩;obtain⟨b3,eJ⟩: ∃x,((tx a.bD).toList==(tx b.bD).toList)=x:=⟨_,rfl⟩;obtain⟨b4,ku⟩: ∃x,decide (a.init=b.init)=x:=⟨_,rfl⟩;obtain⟨b5,lI⟩: ∃x,decide (gK a.code=gK b.code)=x:=⟨_,rfl⟩;have K1:=hid (show b1=true<->a.af=b.af by rw[<-dH];simp);have K2:=hid (show b2=true<->a.name=b.name by rw[<-de,iQ];simp);have K3:=hid (show b3=true<->a.bD=b.bD by rw[<-eJ,iQ];simp);have K4:=hid (show b4=true<->a.init=b.init by rw[<-ku];simp);have K5:=hid (show b5=true<->gK a.code=gK b.code by rw[<-lI];simp);have SI:=hid (fun(w':World) (h1:bK fN w' a.ia a.init) (h2:bK fN w' b.ia b.init)=>aie a.init b.init a.ia b.ia a.ic b.ic w' h1 h2);have SC:=hid (fun(w':World) (h1:iT w' a) (h2:iT w' b)=>aid a.code b.code a.ca b.ca a.cc b.cc w' h1.code h2.code h1.rows h2.rows);have SA:=hid (fun(w':World) (h1:iT w' a) (h2:iT w' b)=>ahH a.q b.q a.node b.node w' h1.node h2.node);rw[ku]at SI;rw[lI]at SC;clear ku lI;go_in
 go_upto_region 1 with(fail)
 generalize (w.alloc (cq a)).alloc (cq b)=W1 at*;obtain⟨p0,p1,p2,p3,p4,p5,p6,p7,p8,p9,gZ,ig⟩:=a0.cells;obtain⟨q0,q1,q2,q3,q4,q5,q6,q7,q8,q9,iN,iO⟩:=b0.cells;cases b1 with
 | false=>
   have HZ:=hid (show ¬oU a b from fun h=>by have:=K1.out.2 h.1;cases this);clear de eJ;go_wp2_with fail
   (try go_simp)
   go_ret;exact⟨false,rfl,⟨fun h=>anB h,fun h=>absurd h HZ.out⟩,HA.out⟩
 | true=>
   cases b2 with
   | false=>
     have HZ:=hid (show ¬oU a b from fun h=>by have:=K2.out.2 h.2.1;cases this);clear eJ;go_wp2_with fail
     (try go_simp)
     go_ret;exact⟨false,rfl,⟨fun h=>anB h,fun h=>absurd h HZ.out⟩,HA.out⟩
   | true=>
     cases b3 with
     | false=>
       have HZ:=hid (show ¬oU a b from fun h=>by have:=K3.out.2 h.2.2.1;cases this);go_wp2_with fail
       (try go_simp)
       go_ret;exact⟨false,rfl,⟨fun h=>anB h,fun h=>absurd h HZ.out⟩,HA.out⟩
     | true=>
       go_wp2_with fail;refine(SI.out _ H1.out.init H2.out.init).mono ?_;rintro e w2 ⟨rfl,E⟩;clear p0 p1 p2 p3 p4 p5 p6 p7 p8 p9 gZ ig q0 q1 q2 q3 q4 q5 q6 q7 q8 q9 iN iO;obtain⟨p0,p1,p2,p3,p4,p5,p6,p7,p8,p9,gZ,ig⟩:=(a0.below E).cells;obtain⟨q0,q1,q2,q3,q4,q5,q6,q7,q8,q9,iN,iO⟩:=(b0.below E).cells;cases b4 with
       | false=>
         have HZ:=hid (show ¬oU a b from fun h=>by have:=K4.out.2 h.2.2.2.1;cases this);go_wp2_with fail
         (try go_simp)
         go_ret;exact⟨false,rfl,⟨fun h=>anB h,fun h=>absurd h HZ.out⟩,HA.out.trans (E.mono HA.out.size)⟩
       | true=>
         go_wp2_with fail;refine(SC.out _ (H1.out.keep E) (H2.out.keep E)).mono ?_;rintro e w3 ⟨rfl,E3⟩;have E:=E.trans (E3.mono E.size);clear p0 p1 p2 p3 p4 p5 p6 p7 p8 p9 gZ ig q0 q1 q2 q3 q4 q5 q6 q7 q8 q9 iN iO E3;obtain⟨p0,p1,p2,p3,p4,p5,p6,p7,p8,p9,gZ,ig⟩:=(a0.below E).cells;obtain⟨q0,q1,q2,q3,q4,q5,q6,q7,q8,q9,iN,iO⟩:=(b0.below E).cells;cases b5 with
         | false=>
           have HZ:=hid (show ¬oU a b from fun h=>by have:=K5.out.2 h.2.2.2.2.1;cases this);go_wp2_with fail
           (try go_simp)
           go_ret;exact⟨false,rfl,⟨fun h=>anB h,fun h=>absurd h HZ.out⟩,HA.out.trans (E.mono HA.out.size)⟩
         | true=>
           go_wp2_with fail;refine(SA.out _ (H1.out.keep E) (H2.out.keep E)).mono ?_;rintro e w4 ⟨bb,rfl,dU,E4⟩;have E:=E.trans (E4.mono E.size);have oK:=hid dU;clear p0 p1 p2 p3 p4 p5 p6 p7 p8 p9 gZ ig q0 q1 q2 q3 q4 q5 q6 q7 q8 q9 iN iO E4 dU;go_wp2_with fail
           (try go_simp)
           go_ret;exact⟨bb,rfl,⟨fun h=>⟨K1.out.1 gf,K2.out.1 gf,K3.out.1 gf,K4.out.1 gf,K5.out.1 gf,(oK.out.1 h).1,(oK.out.1 h).2⟩,fun h=>oK.out.2 ⟨h.2.2.2.2.2.1,h.2.2.2.2.2.2⟩⟩,HA.out.trans (E.mono HA.out.size)⟩
theorem aa3{r2 r3 r4:Tx}{i:List aL}{C:List Cd}(hl:s.length<=262144)(h1:fP s.length s= .ok (a,n,r1))(h2:eH s.length r1= .ok (c,r2))(h3:eM a s.length r2= .ok (i,r3))(h4:eR a s.length r3= .ok (C.map (·.l),r4)):
 n.length<=262144/\c.length<=262144/\(∀x∈i,ue x)/\i.length<=1000000/\(∀x∈C,∀i∈x.l,sM i)/\C.length<=1000000/\ ∀x∈C,x.l.length<=1000000:=by
 have a1:=(FP h1).2;have a2:=Sv h2;have a3:=Uh h1;have a4:=uR s;rw[<-a3]at a4
 have a5:r2.length<=r1.length:=by
  rcases Sw h2 with⟨e, -⟩|e
  ·rw[e];exact anb _
  rw[e];exact uR _
 have a6:=U5 h3;have a7:=(U7 h3).2.2;obtain⟨b1,b2⟩:=Zu h4;have b3:=Zx h4;rw[List.length_map]at b1;exact⟨by omega,by omega,U9 h3,by omega,fun x hx=>b3 x.l (apZ hx),by omega,fun x hx=>by have:=b2 x.l (apZ hx);omega⟩
end Go.Proofs.YtkbbgjloifmmbaaGreatDoor
