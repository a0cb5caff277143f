/- What ReadBackP leans on, part 22. -/
import Derived.Test.YtkbbgjloifmmbaaGreatDoorRb21
set_option linter.unusedVariables false
set_option maxRecDepth 100000
set_option maxHeartbeats 6400000
namespace Go.Proofs.YtkbbgjloifmmbaaGreatDoor
open _root_.Go.Proofs.Tryz
open _root_.List renaming append_assoc->anF,length_append->aoE,cons_append->anr,takeWhile_cons_of_pos->aoF,nil_append->anJ,append_nil->anz,singleton_append->anl,getElem?_eq_some_iff->ano,length_cons->ans,drop_eq_nil_of_le->amT,mem_of_getLast?->amV,length_drop->aoJ
open _root_.Bool renaming and_eq_true->am6
open _root_.Go.Lib renaming itoa->anj
open _root_.Nat renaming le_refl->amS
open _root_.List.cons renaming inj->aoZ
open Go.RowKit Go.Sort
theorem Rz:gQ prog 41 3 (.int .i64 0) 1 8:=⟨underlying41,by kernel_rfl,rfl,by decide⟩
theorem LA:gQ prog 42 9 (.string ByteArray.empty) 1 16:=⟨underlying42,by kernel_rfl,rfl,by decide⟩
def mG(N:Nat):List Tx->Tx->List Int
 |[],_=>[]
 |c::L,x=>((N:Int)-(x.length:Nat)+((c.length-(aq c).length:Nat):Int))::mG N L (x.drop (c.length+1))
theorem Um(N:Nat): ∀(L:List Tx) (x:Tx),(mG N L x).length=L.length
 |[],_=>rfl
 |c::L,x=>by rw[mG,ans,Um N L];rfl
def jQ(l:List Tx):List Value:=l.map fun x=>Value.string (tx x)
def lQ(W:Tx):List Tx->Tx
 |[]=>W
 |[p]=>p++W
 |p::L=>p++124::lQ W L
theorem Kj(W:Tx): ∀A:Tx,lQ W (aD 124 A)=A++W
 |[]=>rfl
 | c::A=>by
   have ih:=Kj W A;cases h:c==124 with
   | true=>
     obtain rfl:c=124:=by simpa using h
     rw[aD,if_pos h];cases e:aD 124 A with
     |nil=>exact absurd e (om 124 A)
     |cons x t=>rw[e]at ih;show[]++124::lQ W (x::t)=_;rw[ih];rfl
   | false=>
     rw[aD,if_neg (by rw[h];decide)];cases e:aD 124 A with
     |nil=>exact absurd e (om 124 A)
     | cons x t=>
       rw[e]at ih;cases t with
       |nil=>show(c::x)++W=_;rw[show c::A++W=c::(A++W)from rfl,<-ih];rfl
       |cons y t=>show(c::x)++124::lQ W (y::t)=_;rw[show c::A++W=c::(A++W)from rfl,<-ih];rfl
theorem Uh(W p:Tx)(L:List Tx)(hW:W≠[]): ∃d r,lQ W (p::L)=p++d::r/\(L≠[]->r=lQ W L):=by
 cases L with
 | nil=>
   cases W with
   |nil=>exact absurd rfl hW
   |cons d r=>exact⟨d,r,rfl,fun h=>absurd rfl h⟩
 |cons x L=>exact⟨124,lQ W (x::L),rfl,fun _=>rfl⟩
theorem OV(f:Tx->Tx): ∀(L:List Tx) (m:Nat) (c:Tx),L[m]? =some c->((L.take m).map f++L.drop m).set m (f c)=(L.take (m+1)).map f++L.drop (m+1)
 |[],m,c,h=>by cases h
 | d::L,0,c,h=>by
   obtain rfl:d=c:=by simpa using h
   rfl
 | d::L,m+1,c,h=>by
   have ih:=OV f L m c (by simpa using h);show f d::((L.take m).map f++L.drop m).set m (f c)=f d::((L.take (m+1)).map f++L.drop (m+1));rw[ih]
theorem OU(f:Tx->Tx): ∀(L:List Tx) (m:Nat) (c:Tx),L[m]? =some c->((L.take m).map f++L.drop m)[m]? =some c
 |[],m,c,h=>by cases h
 |d::L,0,c,h=>h
 | d::L,m+1,c,h=>by
   have ih:=OU f L m c (by simpa using h);show((L.take m).map f++L.drop m)[m]? =some c;exact ih
theorem ah3(A X:Tx)(d:UInt8)(hd:aj d=false):dz (A++d::X)=A++d::dz X:=by
 unfold dz;rw[List.reverse_append,List.reverse_cons,anF,List.dropWhile_append]
 by_cases h:(X.reverse.dropWhile aj).isEmpty
 ·rw[if_pos h]
  have h2:X.reverse.dropWhile aj=[]:=by simpa using h
  rw[h2];simp[hd]
 ·rw[if_neg h];simp
theorem aej{u b:Tx}{c:UInt8}(hu:u.head?=some c)(hc:aj c=false):dz (b++u.takeWhile (· != 10))=b++aI u/\aI u≠[]/\ ∃z,u=aI u++z:=by
 cases u with
 |nil=>cases hu
 | cons d r=>
   obtain rfl:d=c:=by simpa using hu
   have h10:(d != 10)=true:=by
    rw[bne_iff_ne];rintro rfl;revert hc;decide
   obtain⟨y,hy,Q1⟩:=qB (r.takeWhile (· != 10));have e2: ∀A:Tx,dz (A++d::r.takeWhile (· != 10))=A++d::dz (r.takeWhile (· != 10)):=fun A=>ah3 A _ d hc
   have e1:aI (d::r)=d::dz (r.takeWhile (· != 10)):=by
    unfold aI;rw[aoF (p:=fun x=>x != 10) h10];exact e2 []
   refine⟨?_,by rw[e1];simp,y++r.dropWhile (· != 10),?_⟩
   ·rw[aoF (p:=fun x=>x != 10) h10,e2,e1]
   ·rw[e1,anr,<-anF,<-hy,List.takeWhile_append_dropWhile]
theorem NQ(L:List Tx)(m:Nat):(jQ ((L.take m).map ah++L.drop m)).length=L.length:=by
 unfold jQ;simp;omega
theorem NS{w:World}{B n c m:Nat}{a:Option Addr}{L:List Tx}{p:Tx}(h:Own w B 9 1 a n c (jQ ((L.take m).map ah++L.drop m)))(hp:L[m]? =some p):w.cell? ⟨bk a,fo a+m,none⟩=some (.string (tx p)):=by
 have:=(Own.row h).cell m (by rw[NQ];exact(ano.1 hp).1);rw[this];unfold jQ;rw[List.getElem?_map,OU ah L m p hp];rfl
theorem Jk{w:World}{B n c m:Nat}{a:Option Addr}{l:List Value}(h:Own w B 9 1 a n c l)(hm:m<l.length)(hn:n<=1000000000): ∀c w',(Instr.indexAt 42 (.slice a n c) (.int .i64 m)).run prog w'= .ok (.pointer (some ⟨bk a,fo a+m,none⟩)) w':=by
 intro c;have hl:l.length=n:=by have:=h.1;omega
 have:=sC (c:=c) (n:=n) (m:=1) (Own.row h) LA.j4 LA.cells LA.isSome (by omega) (by omega) m (by omega) .i64;simpa using this
def Gu(u:Tx)(w1 w:World)(s:Tx)(t:ak)(e:Ending)(w':World):Prop:=
 (gp u=false/\e= .returned (.tuple #[.slice none 0 0,.slice none 0 0,.int .i64 (bO s.length u),.bool false])/\Below w.heap.size w w')\/
 ∃b n ca pa pc k',gp u=true/\(∀c∈b,aj c=true)/\b.length+u.length<=s.length/\n=(aD 124 (b++(aI u).dropLast)).length/\e= .returned (.tuple #[.slice ca n n,.slice pa n pc,.int .i64 (bO s.length u),.bool true])/\s.drop k'=aZ u/\St w w' w1.heap.size/\bQ w1 w' s k' t/\Own w' w.heap.size 9 1 ca n n (jQ ((aD 124 (b++(aI u).dropLast)).map ah))/\cI w' w.heap.size pa n pc (mG s.length (aD 124 (b++(aI u).dropLast)) (b++u))
theorem UR{w1 w:World}{s:Tx}{k:Nat}{t:ak}(R:bQ w1 w s k t):Calls prog 81 #[.pointer (some ⟨w1.heap.size,0,none⟩)] w (Gu (aq (s.drop k)) w1 w s t):=by
 have c0:=R.bx.get 0 _ rfl;have c1:=R.bx.get 1 _ rfl;have hl:=R.sl;have PK:=hid (By s w1.heap.size k R.le R.sl w c0 c1);have HR:=hid R;have HG:=hid R.g;obtain⟨u,hu⟩: ∃u,aq (s.drop k)=u:=⟨_,rfl⟩;rw[hu];obtain⟨N,hN⟩: ∃N,s.length=N:=⟨_,rfl⟩;have Iw:N<=262144:=by omega
 have oC:=hid hN;clear c0 c1 hl;go_in;go_wp2_with fail;refine PK.out.mono ?_;rintro e w2 ⟨hv,E2⟩;unfold sU at hv;rw[hu,hN]at hv;rcases hv with⟨h0,rfl⟩|⟨b,h0,hb,h10,kM,rfl⟩
 ·have TR:=hid (fun w=>Wd [] (by simp) w)
  have TR:=hid (fun w=>(show ax w (.string (tx (dz [])))=ax w (.string ⟨#[]⟩)from rfl)▸TR.out w);have HZ:=hid (show gp u=false/\bO s.length u=N from by rw[h0,hN];exact⟨rfl,rfl⟩);have E2:=hid E2;clear hu h0 hN;go_wp2_with fail;refine(TR.out _).mono ?_;rintro e w3 ⟨rfl,E3⟩;have E:=hid (ay E2.out E3);clear E3;go_wp2_with fail;refine bodyPost_ret (v:=.tuple #[.slice none 0 0,.slice none 0 0,.int .i64 (N:Nat),.bool false]) (by simp[results,results81,go_sem]) rfl ?_;refine .inl ⟨HZ.out.1,by rw[HZ.out.2],E.out⟩
 ·obtain⟨c,hc⟩: ∃c,u.head?=some c:=by
   cases u with
   |nil=>exact absurd rfl h0
   |cons c r=>exact⟨c,rfl⟩
  have hcb:aj c=false:=js (l:=s.drop k) (p:=aj) (by rw[show(s.drop k).dropWhile aj=u from hu];exact hc);obtain⟨q1,q2,z,q3⟩:=aej (b:=b) hc hcb;have ez:u.length<=N:=by rw[<-hu];have:=(pJ (s.drop k)).length_le;have:=aoJ (i:=k) (l:=s);omega
  have hin:b.length+u.length<=N:=by unfold bO at kM;omega
  have hlen:(b++u.takeWhile (· != 10)).length<=262144:=by have:=oq (· != 10) u;rw[aoE];omega
  have TR:=hid (fun w=>Wd (b++u.takeWhile (· != 10)) (by omega) w);rw[q1]at TR;have hzl:u.length=(aI u).length+z.length:=by rw[congrArg List.length q3];simp
  have SF:=hid (fun w=>BK (b++aI u) 59 (by rw[aoE];omega) w)
  have mz:((b++u.takeWhile (· != 10)).length-(aq (b++u.takeWhile (· != 10))).length:Nat)=b.length:=by
   have:aq (b++u.takeWhile (· != 10))=u.takeWhile (· != 10):=by
    unfold aq;rw[List.dropWhile_append_of_pos hb];cases u with
    |nil=>rfl
    | cons d r=>
      obtain rfl:d=c:=by simpa using hc
      rw[aoF (p:=fun x=>x != 10) (by rw[bne_iff_ne];rintro rfl;revert hcb;decide),List.dropWhile_cons_of_neg (by rw[hcb];decide)]
   rw[this,aoE];omega
  have C8:=hid (fun w=>yM (b++u.takeWhile (· != 10)) (by omega) w);rw[mz]at C8
  have IZ:(b++aI u).getLast?=(aI u).getLast?:=by
   rw[List.getLast?_append];cases h:(aI u).getLast? with
   |none=>exact absurd (List.getLast?_eq_none_iff.1 h) q2
   |some z=>rfl
  rw[IZ]at SF;have HB:=hid hb;have qV:=hid hin;generalize b++u.takeWhile (· != 10)=ln at*;have E2:=hid E2
  by_cases vr:(aI u).getLast?=some 59
  ·have hrow:gp u=true:=by unfold gp;rw[vr];rfl
   rw[vr,show(some (59:UInt8)==some 59)=true from rfl]at SF;obtain⟨M,hM⟩:=tV.1 vr;have pz:s.drop (N-(aZ u).length)=aZ u:=by rw[<-hN];exact DA (k:=k) ((BB u).trans (by rw[<-hu];exact pJ _))
   have hle:N-(aZ u).length<=s.length:=by omega
   rw[hM]at TR hzl SF;have hap:b++M++[59]=b++(M++[59]):=anF ..;have hdl:(aI u).dropLast=M:=by rw[hM];simp
   have Qj:b++u=(b++M)++59::z:=by rw[show b++u=b++(aI u++z)from by rw[<-q3],hM];simp[anF]
   have hJ:=Kj (59::z) (b++M);rw[<-Qj]at hJ;have hbM:(b++M).length+1+z.length=b.length+u.length:=by rw[hzl,aoE,aoE];simp;omega
   obtain⟨cn,hcn⟩: ∃cn,(tx (b++(M++[59]))).size=cn:=⟨_,rfl⟩;have abY:cn=(b++M).length+1:=by rw[<-hcn,aP,<-hap];simp;try omega
   have al2:cn<=262145:=by omega
   have sl:=BC (b++M++[59]) (b++M).length (by simp);rw[List.take_left,hap,show(((b++M).length:Nat):Int)=(cn:Int)-1 by omega]at sl;have SP:=hid (fun w g=>VO (b++M) 124 (by omega) w g);have hne:=om 124 (b++M);have pn: ∀p∈aD 124 (b++M),p.length<=262144:=fun p hp=>by have:=Fp 124 (b++M) p hp;omega
   have hLn:=uh 124 (b++M);have HL:=hid (show aD 124 (b++(aI u).dropLast)=aD 124 (b++M) by rw[hdl]);have Mk:=hid (show bO s.length u=bO N u by rw[hN]);have hx0:(b++u).length=b.length+u.length:=aoE;generalize aD 124 (b++M)=L at*;obtain⟨x0,hx1⟩: ∃x0,b++u=x0:=⟨_,rfl⟩;have uO:=hid hx1;rw[hx1]at hJ hx0;clear hx1;obtain⟨n,hn⟩: ∃n,L.length=n:=⟨_,rfl⟩;rw[hn]at SP hLn;have fC:n<=262145:=by omega
   obtain⟨pp,kN⟩: ∃pp,mG N L x0=pp:=⟨_,rfl⟩;have hn0:n≠0:=fun h=>hne (List.length_eq_zero_iff.1 (hn.trans h))
   obtain⟨p0,gU⟩: ∃p0,bO N u=p0:=⟨_,rfl⟩;have Ip:(p0:Int)-(b.length:Nat)=((N-x0.length:Nat):Int):=by rw[<-gU];unfold bO;omega
   have acN:x0.length<=N:=by omega
   rw[gU]at Mk;rw[gU];obtain⟨bl,AH⟩: ∃bl,b.length=bl:=⟨_,rfl⟩;rw[AH]at C8 Ip;have gy:=hid hn;have Xw:=hid pn;have HJ:=hid hJ;have oG:=hid kN;have Xi:=hid Ip;have CS:=hid hrow;have wZ:=hid pz;have Me:=hid hN;clear hu hc hcb q1 q2 q3 ez hin hlen hzl IZ vr hrow hM pz hdl Qj hJ hbM abY hne pn hLn hn kN Ip gU hx0 hb mz hN kM AH hap;go_wp2_with fail;refine(TR.out _).mono ?_;rintro e w3 ⟨rfl,E3⟩;have E:=hid (ay E2.out E3);clear E3
   go_wp2_with (first|(go_at_call 99;refine(SF.out _).mono ?_;rintro e w' ⟨rfl,rfl⟩)|fail)
   refine(C8.out _).mono ?_;rintro e w4 ⟨rfl,E4⟩;have E:=hid (ay E.out E4);have g4:=HG.out.below E.out;clear E4;go_wp2_with fail;refine(SP.out _ g4).mono ?_;rintro e w5 ⟨a,rfl,oA,-, E5⟩;have IA:a≠none:=Own.some oA (by omega);have abS:w.heap.size<=bk a:=Nat.le_trans E.out.size (Own.lt oA IA).1;have Ed:=E.out.size;have E:=hid (ay E.out E5);have oA:=hid (show Own w5 w.heap.size 9 1 a n n (jQ ((L.take 0).map ah++L.drop 0))from Own.mono oA Ed);clear E5 g4;go_wp2_with fail;have P0:=hid (show pp=[]++mG N (L.drop 0) x0 by rw[anJ,List.drop_zero,oG.out]);have HOA:=hid (Own.nil w5 w.heap.size 3 1)
   go_loopw [11,12,45] (fun f q i wi=> ∃(m:Nat) (pa:Option Addr) (pc:Nat) (x:Tx) (acc:List Int),i= .int .i64 m/\m<=n/\f= .int .i64 (N-x.length:Nat)/\x.length<=N/\q= .slice pa m pc/\acc.length=m/\Hid (m<n->x=lQ (59::z) (L.drop m))/\Hid (pp=acc++mG N (L.drop m) x)/\Hid (cI wi w.heap.size pa m pc acc)/\Hid (Own wi w.heap.size 9 1 a n n (jQ ((L.take m).map ah++L.drop m)))/\Hid (pP a pa)/\Hid (Below w.heap.size w wi)) (fun _ _ i _=>n-(intOf i).toNat)
   case atStart=>
    refine⟨0,none,0,x0,[],rfl,Nat.zero_le _,?_,acN,rfl,rfl,hid fun _=>by rw[List.drop_zero];exact HJ.out.symm,P0,hid (Own.nil _ _ _ _),oA,hid (.inr (.inl rfl)),E⟩;rw[Xi.out];congr 1;unfold wrap64;omega
   case round=>
    obtain⟨m,pa,pc,x,acc,rfl,hmn,rfl,Eg,rfl,Qh,HX,HP,OP,OC,AP,EE⟩:=hrel
    by_cases hlt:m<n
    ·obtain⟨p,ko⟩: ∃p,L[m]? =some p:=⟨_,List.getElem?_eq_getElem (by rw[gy.out];exact hlt)⟩
     have hdr:L.drop m=p::L.drop (m+1):=by
      obtain⟨h1,h2⟩:=ano.1 ko;rw[List.drop_eq_getElem_cons h1,h2]
     have hcs:=OV ah L m p ko;have ix:=Jk OC.out (m:=m) (by rw[NQ,gy.out];exact hlt) (by omega);have cl:=NS OC.out ko;have FY:=hid (fun(w2:World) (h:Own w2 w.heap.size 9 1 a n n (jQ ((L.take m).map ah++L.drop m)))=>NS h ko);obtain⟨d,r,ex,er⟩:=Uh (59::z) p (L.drop (m+1)) (by simp);have hx:=HX.out hlt;rw[hdr,ex]at hx;have hxl:x.length=p.length+1+r.length:=by rw[hx];simp;omega
     have lK:x.drop (p.length+1)=r:=by rw[hx,<-List.drop_drop];simp
     have oI:=hid (show m+1<n->r=lQ (59::z) (L.drop (m+1))from fun h=>er (fun e=>by
      have:=congrArg List.length e;rw[aoJ,gy.out]at this;simp at this;omega))
     obtain⟨ld,mz⟩: ∃ld,p.length-(aq p).length=ld:=⟨_,rfl⟩;have acr:ld<=p.length:=by omega
     have jJ:=hid (show pp=(acc++[((N-x.length:Nat):Int)+(ld:Int)])++mG N (L.drop (m+1)) r by
      rw[HP.out,hdr,mG,lK,mz,anF,show((N-x.length:Nat):Int)=(N:Int)-(x.length:Nat) by omega];rfl)
     have AX:p.length<=262144:=by omega
     have LD:=hid (fun w=>yM p (by omega) w);rw[mz]at LD;have TP:=hid (fun w=>og p (by omega) w);obtain⟨pl,hpl⟩: ∃pl,(tx p).size=pl:=⟨_,rfl⟩;have pn:pl=p.length:=by rw[<-hpl,aP]
     have acD:pl<=262144:=by omega
     have hfr:((N-x.length:Nat):Int)+((pl:Int)+1)=((N-r.length:Nat):Int):=by omega
     have Cz:=hid hfr;have Cp:decide ((m:Int)<(n:Int))=true:=by simp;omega
     have vG:r.length<=N:=by omega
     have qX:N-x.length<=262144:=by omega
     have acq:ld<=262144:=by omega
     have hsz:=EE.out.size;obtain⟨tp,vJ⟩: ∃tp,ah p=tp:=⟨_,rfl⟩;rw[vJ]at TP hcs;have Xf:=hid hcs;clear ko hdr hcs ex er hx hxl lK mz acr pn hfr vJ HX HP AX;go_wp2_with fail;refine(LD.out _).mono ?_;rintro e w6 ⟨rfl,E6⟩;have FT:=hid (ay EE.out E6);have Mz:=hid (Own.below OC.out E6);have MA:=Own.below OP.out E6;clear cl E6 hsz
     go_wp2_with (at_builtin;go_loud(refine kF Rz (.tmp 50) (.tmp 55) rfl rfl rfl rfl MA rfl rfl (by intro u hu;simp at hu;subst hu;rfl) FT.out FT.out.size (by omega) (by unfold maxLen;omega) ?_))
     intro a7 c7 w7 o7 g7 B7;have o7:=hid (show cI w7 w.heap.size a7 (m+1) c7 (acc++[((N-x.length:Nat):Int)+(ld:Int)]) by unfold cI;rw[show ints (acc++[((N-x.length:Nat):Int)+(ld:Int)])=ints acc++ints [((N-x.length:Nat):Int)+(ld:Int)]from List.map_append];exact o7);obtain⟨rB,FQ⟩:=Own.step Mz.out g7.step AP.out;have rB:=hid rB;have FQ:=hid FQ;have B7:=hid B7;clear MA FT Mz g7;go_wp2_with fail;refine(TP.out _).mono ?_;rintro e w8 ⟨rfl,E8⟩;have zK:=Own.below rB.out E8;have MB:=Own.below o7.out E8;have FU:=ay B7.out E8;obtain⟨s1,s2⟩:=Own.set zK IA m (.string (tx tp));have cl:w8.cell? ⟨bk a,fo a+m,none⟩=some (.string (tx p)):=FY.out _ zK;have fz:=Own.frozen zK IA m;have WV:=hid (s2.below zK FU FU.size);obtain⟨Gp,FR⟩:=Own.step MB s2 FQ.out.symm;have Gp:=hid Gp;have FR:=hid FR.symm
     have zL:=hid (show Own (w8.setCell ⟨bk a,fo a+m,none⟩ (.string (tx tp))) w.heap.size 9 1 a n n (jQ ((L.take (m+1)).map ah++L.drop (m+1))) by
      rw[<-Xf.out];unfold jQ at s1 ⊢; rw[List.map_set];exact s1)
     clear zK MB FU s1 s2 E8;go_wp2_with fail
     go_roundw
     case rel=>exact⟨m+1,a7,c7,r,acc++[((N-x.length:Nat):Int)+(ld:Int)],by go_num,by omega,by rw[Cz.out],vG,rfl,by rw[aoE,Qh];rfl,oI,jJ,Gp,zL,FR,WV⟩
     case measure=>simp[intOf];omega
    ·obtain rfl:m=n:=by omega
     have jJ:=hid (show pp=acc by rw[HP.out,amT (by rw[gy.out];exact amS _)];exact anz _);have wT:=hid (show(L.take m).map ah++L.drop m=L.map ah by rw[amT (by rw[gy.out];exact amS _),List.take_of_length_le (by rw[gy.out];exact amS _),anz]);have zn:decide ((m:Int)<(m:Int))=false:=by simp
     have R5:=HR.out.below EE.out;have q1:=R5.bx.get 1 _ rfl;have IK:=R5.gh 1;have yh:=R5.lt;have R6:=R5.put 1 (.int .i64 (N-(aZ u).length:Nat)) (k':=N-(aZ u).length) (t':=t) rfl hle;have ST:=hid ((aX (bw:=w1.heap.size) EE.out).trans R6.2);have TC:=hid (Own.kept OC.out R6.2.grown (by right;have:=HR.out.lt;simp;omega))
     have TI:=hid (Own.kept OP.out R6.2.grown (by
      have h:=(Own.lt OP.out (Own.some OP.out (Nat.pos_of_ne_zero hn0))).1
      right;have:=HR.out.lt;simp;omega))
     replace R6:=hid R6.1;clear R5;go_wp2_with fail;refine bodyPost_ret (v:=.tuple #[.slice a m m,.slice pa m pc,.int .i64 (p0:Nat),.bool true]) (by simp[results,results81,go_sem]) rfl (.inr ⟨b,m,a,pa,pc,N-(aZ u).length,CS.out,HB.out,by rw[Me.out];exact qV.out,by rw[HL.out];exact gy.out.symm,by rw[Mk.out],wZ.out,ST.out,R6.out,?_,?_⟩)
     ·rw[HL.out]
      have:=TC.out;rw[wT.out]at this;exact this
     ·rw[HL.out,uO.out,Me.out,oG.out,jJ.out]
      exact TI.out
  ·have hrow:gp u=false:=by unfold gp;simpa using vr
   rw[show((aI u).getLast?==some 59)=false by simpa using vr]at SF;have CS:=hid (show gp u=false/\bO s.length u=bO N u from⟨hrow,by rw[hN]⟩);generalize b++aI u=cut at*;generalize bO N u=p0 at*;clear hu hc hcb q1 q2 q3 ez hin hlen hzl IZ vr hrow C8 mz hb kM hN;go_wp2_with fail;refine(TR.out _).mono ?_;rintro e w3 ⟨rfl,E3⟩;have E:=hid (ay E2.out E3);clear E3
   go_wp2_with (first|(go_at_call 99;refine(SF.out _).mono ?_;rintro e w' ⟨rfl,rfl⟩)|fail)
   refine bodyPost_ret (v:=.tuple #[.slice none 0 0,.slice none 0 0,.int .i64 (p0:Nat),.bool false]) (by simp[results,results81,go_sem]) rfl ?_;refine .inl ⟨CS.out.1,by rw[CS.out.2],E.out⟩
end Go.Proofs.YtkbbgjloifmmbaaGreatDoor
namespace Go.Proofs.YtkbbgjloifmmbaaGreatDoor
open _root_.Go.Proofs.Tryz
open _root_.List renaming append_assoc->anF,length_append->aoE,cons_append->anr,takeWhile_cons_of_pos->aoF,nil_append->anJ,append_nil->anz,singleton_append->anl,getElem?_eq_some_iff->ano,length_cons->ans,drop_eq_nil_of_le->amT,mem_of_getLast?->amV,length_drop->aoJ
open _root_.Bool renaming and_eq_true->am6
open _root_.Go.Lib renaming itoa->anj
open _root_.Nat renaming le_refl->amS
open _root_.List.cons renaming inj->aoZ
def Cut(A r:Tx):Prop:= ∀c,r.head?=some c->bU c=false/\aR c=false/\((c≠47/\c≠92)\/(A.getLast?≠some 47/\A.getLast?≠some 92))
theorem Cut.tail{x:UInt8}{A r:Tx}(h:Cut (x::A) r)(k:Nat):Cut ((x::A).drop k) r:=fun d hd=>by
 obtain⟨a,b,e⟩:=h d hd;refine⟨a,b,e.imp id fun e=>?_⟩;rw[List.getLast?_drop];split
 ·exact⟨by simp,by simp⟩
 ·exact e
theorem vV: ∀(n:Nat) (A r:Tx),A.length<=n->Cut A r->av (A++r)=av A++av r
 |_,A,[],_,_=>by rw[anz,vW,anz]
 |_,[],r,_,_=>by rw[anJ,vW,anJ]
 |0,_::_,_,hn,_=>absurd hn (by simp)
 | n+1,x::A,c::B,hn,h=>by
   obtain⟨h1,h2,h3⟩:=h c rfl;simp only[ans]at hn;cases hb:aj x with
   | true=>
     rw[anr,ku _ hb,ku _ hb,vV n A (c::B) (by omega) (by simpa using h.tail 1)]
   | false=>
     have hp:=mB x A;have hle:=tZ x A
     have e:bS (x::(A++c::B))=bS (x::A):=by
      rw[ju,ju,wJ h1,wJ h2];cases A with
      | nil=>
        rcases h3 with⟨h3,h4⟩|⟨h3,h4⟩
        ·simp[h2,h3,h4]
        ·simp at h3 h4;simp[h2,h3,h4]
      |cons y A=>simp
     rw[anr,kP _ hb,kP _ hb,e,<-anr,List.take_append_of_le_length (by simp;omega),List.drop_append_of_le_length (by simp;omega),vV n _ (c::B) (by simp;omega) (h.tail _),anr]
def Ke(c:UInt8):Bool:= !aj c&&(!cG c&&(!aR c&&(c != 45&&(c != 47&&c != 92))))
theorem sj{c:UInt8}(r:Tx)(h:Ke c=true):av (c::r)=[c]::av r:=by
 unfold Ke at h;simp only[am6,Bool.not_eq_true',bne_iff_ne,ne_eq]at h;obtain⟨h1,h2,h3,h4,h5,h6⟩:=h;have e:bS (c::r)=1:=by rw[ju];simp[h2,h3,h4,h5,h6]
 rw[kP _ h1,e];rfl
theorem Sc(r:Tx):av (kV++r)=[47,92]::av r:=by
 show av (32::47::92::32::r)=_;have e:bS (47::92::32::r)=2:=by rw[ju];rfl
 rw[ku _ (by decide),kP _ (by decide),e];show _::av (32::r)=_;rw[ku _ (by decide)];rfl
theorem Sd(r:Tx):av (kW++r)=[92,47]::av r:=by
 show av (32::92::47::32::r)=_;have e:bS (92::47::32::r)=2:=by rw[ju];rfl
 rw[ku _ (by decide),kP _ (by decide),e];show _::av (32::r)=_;rw[ku _ (by decide)];rfl
theorem akF{c:UInt8}(h:nA c=false):bU c=false/\aR c=false:=by
 have k:=kZ (p:=fun c=>nA c||(!bU c&& !aR c)) (by decide+kernel) c;rw[h]at k;simpa using k
theorem Cut.of{A r:Tx}(hA: ∀b∈A,nA b=true)(hr:F0 r):Cut A r:=fun c hc=>by
 obtain⟨a,b⟩:=akF (hr c (by rw[hc];exact rfl));refine⟨a,b,.inr ⟨fun e=>?_,fun e=>?_⟩⟩
 ·have:=hA _ (amV e);exact absurd this (by decide)
 ·have:=hA _ (amV e);exact absurd this (by decide)
theorem Sg{A r:Tx}(hA: ∀b∈A,nA b=true)(hr:F0 r):av (A++r)=av A++av r:=vV _ A r (amS _) (.of hA hr)
def sE(af:Int)(t:Th):List Tx:=if t.thread= -1 then[t.loc]else[anj t.thread,[58],cz af t.au.toNat]
theorem aee{af:Int}{t:Th}(h:bE af t=true):av (l7 af t)=sE af t:=by
 unfold l7 sE;unfold bE at h
 by_cases e:t.thread= -1
 ·rw[if_pos e,if_pos e]
  rw[if_pos e]at h;simp only[am6]at h;exact yC h.2
 ·rw[if_neg e,if_neg e]
  rw[if_neg e]at h;simp only[am6,decide_eq_true_eq]at h;rw[anF,anl,nX _ _ _ (amS _) (by decide),vQ,Fa (by omega)];rfl
theorem aec{af v:Int}{t:Th}(h:bE af t=true):av (oP af t v)=sE af t++[[61],anj v]:=by
 unfold oP;rw[anF,anl,nX _ _ _ (amS _) (by decide),vQ,aee h]
def cq(l:List Tx):List Tok:=l.map fun s=>(s,0)
theorem J4(s:Tx)(l:List Tx):cq (s::l)=(s,0)::cq l:=rfl
theorem AL(l:List Tx):aA (cq l)=l.head?.getD []:=by cases l<;>rfl
theorem Fs(s:Tx)(l:List Tx):(cq (s::l)).tail=cq l:=rfl
theorem Ft(s:Tx)(l:List Tx):bt s (cq (s::l))= .ok (cq l):=by rw[J4,uk,if_pos rfl]
theorem Rq{a b v:Int}(l:List Tx)(hv:aY v=true)(h:a<=v/\v<=b):jf a b (cq (anj v::l))= .ok (v,cq l):=by
 rw[J4,tU];show(match cD (anj v)with|some n=>_|none=>_)=_;rw[mC.2 ⟨rfl,hv⟩];exact if_pos h
theorem aes{s:Tx}(l:List Tx)(h:az s=true):jg (cq (s::l))= .ok (s,cq l):=by
 rw[J4,tY];exact if_pos h
theorem U3{af:Int}{k:Nat}(h:(k:Int)<cE af):dQ af (cz af k)=some k:=by
 cases e:dQ af (cz af k)with
 | none=>
   unfold dQ at e;have:=List.find?_eq_none.1 e k (List.mem_range.2 (by omega));simp at this
 | some m=>
   obtain⟨a,b⟩:=Bz e;rw[aiF h a b]
theorem SY{s:Tx}(h:az s=true):s≠[91]/\qu s=false/\s≠[126]/\s≠[40]:=by
 obtain⟨c,r,rfl,hc⟩:=Bn h;have k:=kZ (p:=fun c=> !cG c||(c != 91&&(!aR c&&(c != 45&&(c != 126&&c != 40))))) (by decide+kernel) c;rw[hc]at k;simp at k;refine⟨by simp[k.1],?_,by simp[k.2.2.2.1],by simp[k.2.2.2.2]⟩;show(aR c||c==45)=false;simp[k.2.1,k.2.2.1]
theorem JB(v:Int):anj v≠[91]/\qu (anj v)=true/\anj v≠[126]/\anj v≠[40]/\anj v≠wH:=by
 have h:=si v;cases e:anj v with
 |nil=>exact absurd e (RH v)
 | cons c r=>
   rw[e]at h;have hc:=h c (by simp);have no: ∀d:UInt8,qs d=false->c≠d:=fun d hd e=>by rw[e,hd]at hc;cases hc
   refine⟨fun e=>no 91 (by decide) (by simpa using(aoZ e).1),?_,fun e=>no 126 (by decide) (aoZ e).1,fun e=>no 40 (by decide) (aoZ e).1,fun e=>no 116 (by decide) (aoZ e).1⟩;show(aR c||c==45)=true;unfold qs at hc;rw[Bool.or_comm];exact hc
theorem akw{af:Int}{t:Th}(l:List Tx)(h:bE af t=true):gv af (cq (sE af t++l))= .ok (t,cq l):=by
 unfold sE;obtain⟨th,rg,lc⟩:=t;unfold bE at h
 by_cases e:th= -1
 ·simp only[e,if_pos]at h⊢
  simp only[am6,decide_eq_true_eq]at h;obtain⟨rfl,h⟩:=h;obtain⟨a,b, -⟩:=SY h;rw[anl];unfold gv;rw[if_neg (by rw[AL];exact a),if_neg (by rw[AL];show ¬qu lc=true;rw[b];decide),aes l h]
 ·simp only[e,if_neg,not_false_eq_true]at h⊢
  simp only[am6,decide_eq_true_eq]at h;obtain⟨⟨⟨⟨h1,h2⟩,h3⟩,h4⟩,rfl⟩:=h;obtain⟨a,b, -⟩:=JB th;have hn:aY th=true:=by unfold aY;simp;omega
  obtain⟨k,rfl⟩: ∃k:Nat,rg=k:=⟨rg.toNat,by omega⟩;simp only[Int.toNat_natCast,anr,anJ];unfold gv;rw[if_neg (by rw[AL];exact a),if_pos (by rw[AL];exact b),Rq _ hn (by omega)]
  dsimp only
  rw[Ft]
  dsimp only
  rw[show aA (cq (cz af k::l))=cz af k from rfl,U3 (by omega)];rfl
theorem aeR{v:Int}(h:aY v=true): -2147483648<=v/\v<=2147483647:=by unfold aY at h;simpa using h
theorem Yz{af v:Int}{t:Th}(l:List Tx)(h:bE af t=true)(hv:aY v=true):jN af (cq (sE af t++[61]::anj v::l))= .ok (.mk 2 t v none 0 [],cq l):=by
 unfold jN;rw[akw _ h]
 dsimp only
 rw[Ft]
 dsimp only
 rw[Rq _ hv (aeR hv)]
theorem akG{af:Int}{t:Th}(l:List Tx)(h:bE af t=true): ∃s m,sE af t++[61]::l=s::m/\s≠[126]/\s≠[40]/\(s=wH->m.head?=some [61]):=by
 unfold sE;unfold bE at h
 by_cases e:t.thread= -1
 ·rw[if_pos e]at h⊢
  simp only[am6]at h;obtain⟨a,b,c,d⟩:=SY h.2;exact⟨t.loc,[61]::l,rfl,c,d,fun _=>rfl⟩
 ·rw[if_neg e]at h⊢
  obtain⟨a,b,c,d,f⟩:=JB t.thread;exact⟨_,_,rfl,c,d,fun e=>absurd e f⟩
def nS(r:Tx):Option Tx:=(av r).head?
def G0(r:Tx):Prop:=F0 r/\nS r≠some [61]
def G2(r:Tx):Prop:=G0 r/\nS r≠some [47,92]
def G1(r:Tx):Prop:=G2 r/\nS r≠some [92,47]
theorem G1.sign{c:UInt8}(r:Tx)(h:Ke c=true)(ht:nA c=false):G1 (c::r):=by
 have e:nS (c::r)=some [c]:=by unfold nS;rw[sj r h];rfl
 refine⟨⟨⟨F0.cons ht,?_⟩,?_⟩,?_⟩<;>rw[e]<;>simp
 rintro rfl;revert ht;decide
def uY(af:Int)(x:Nd):Prop:= ∀(n:Nat) (r:Tx),(av (lY af x++r)).length<n->G0 r->bg af n (cq (av (lY af x++r)))= .ok (aL x,cq (av r))
def wP(af:Int)(x:Nd):Prop:= ∀(n:Nat) (r:Tx),(av (tf af x++r)).length<n->G2 r->fR 4 [47,92] (bg af n) (cq (av (tf af x++r)))= .ok (aL x,cq (av r))
def zj(af:Int)(x:Nd):Prop:= ∀(n:Nat) (r:Tx),(av (bD af x++r)).length<n->G1 r->gI (bg af n) (cq (av (bD af x++r)))= .ok (aL x,cq (av r))
theorem Qq(r:Tx):aA (cq (av r))=(nS r).getD []:=AL _
theorem PU{o:Option Tx}{s:Tx}(h:o≠some s)(hs:s≠[]):o.getD []≠s:=by
 cases o with
 |none=>exact fun e=>hs e.symm
 |some x=>exact fun e=>h (by rw[<-e];rfl)
theorem RZ{af:Int}{one:List Tok->PR Nd}(H: ∀l,pQ af l (one l)){a b:List Tx}{x:Nd}(h:one (cq a)= .ok (x,cq b)):b.length<a.length:=by
 have:=(H _ _ _ h).2;simpa[cq]using this
theorem Vl{af k:Int}{sign sep:Tx}{one:List Tok->PR Nd}{T:Nd->Tx}{R:List Nd->Tx}{G:Tx->Prop}{N:Nat}(H: ∀l,pQ af l (one l))(hs:sign≠[])(hsep: ∀r,av (sep++r)=sign::av r)
 (xV:R []=[]) (AB: ∀x K,R (x::K)=sep++(T x++R K)) (hG: ∀x K r,G (R (x::K)++r)):
 ∀ (K acc:List Nd) (n:Nat) (r:Tx),(∀x∈K,∀r,(av (T x++r)).length<N->G r->one (cq (av (T x++r)))= .ok (aL x,cq (av r)))->G r->nS r≠some sign->(av (R K++r)).length<N->(av (R K++r)).length<=n->
   gN k sign one n acc (cq (av (R K++r)))= .ok (pF k (acc++dx K),cq (av r))
 | [],acc,n,r,_,_,hr,_,_=>by
   rw[xV,anJ,oQ,anz];cases n with
   |zero=>rfl
   |succ n=>rw[gN,if_neg (by rw[Qq];exact PU hr hs)]
 | x::K,acc,0,r,_,_,_,_,hn=>by
   rw[AB,anF,anF,hsep]at hn;simp at hn
 | x::K,acc,n+1,r,h1,hg,hr,hN,hn=>by
   rw[AB,anF,anF,hsep]at hN hn⊢;simp only[ans]at hN hn
   have e:=h1 x (by simp) (R K++r) (by omega) (by
    cases K with
    |nil=>rw[xV];exact hg
    |cons y K=>exact hG y K r)
   have hl:=RZ H e;rw[gN,if_pos (show aA (cq (sign::av (T x++(R K++r))))=sign from rfl),Fs,e];show gN k sign one n (acc++[aL x]) (cq (av (R K++r)))=_;rw[Vl H hs hsep xV AB hG K _ n r (fun y hy=>h1 y (by simp[hy])) hg hr (by omega) (by omega),anF,tj];rfl
def zP(d:Nat->Nat)(L:List Tok):List Tok:=L.map fun t=>(t.1,d t.2)
def jA{α:Type}(d:Nat->Nat):PR α->PR α
 | .ok (x,r)=>.ok (x,zP d r)
 | .error e=>.error (zP d e)
theorem Cm(d:Nat->Nat)(t:Tok)(l:List Tok):zP d (t::l)=(t.1,d t.2)::zP d l:=rfl
theorem Co(d:Nat->Nat)(l:List Tok):(zP d l).tail=zP d l.tail:=by cases l<;>rfl
theorem Cn(d:Nat->Nat)(l:List Tok):aA (zP d l)=aA l:=by cases l<;>rfl
theorem WS(d:Nat->Nat)(l:List Tok):(zP d l).length=l.length:=by simp[zP]
theorem uo(d:Nat->Nat)(s:Tx)(l:List Tok):bt s (zP d l)=match bt s l with
 | .ok r=>.ok (zP d r)
 | .error e=>.error (zP d e):=by
 cases l with
 |nil=>rfl
 |cons t l=>rw[Cm];rw[uk,uk];split<;>rfl
theorem Ru(d:Nat->Nat)(a b:Int)(l:List Tok):jf a b (zP d l)=jA d (jf a b l):=by
 cases l with
 |nil=>rfl
 | cons t l=>
   rw[Cm,tU,tU];simp only;cases cD t.1 with
   |none=>rfl
   |some n=>simp only;split<;>rfl
theorem Ss(d:Nat->Nat)(l:List Tok):jg (zP d l)=jA d (jg l):=by
 cases l with
 |nil=>rfl
 |cons t l=>rw[Cm];rw[tY,tY];split<;>rfl
theorem akz(af:Int)(d:Nat->Nat)(l:List Tok):gv af (zP d l)=jA d (gv af l):=by
 unfold gv;rw[Cn,Co];split
 ·rw[Ss]
  cases jg l.tail with
  |error e=>rfl
  | ok p=>
    obtain⟨x,r⟩:=p;simp only[jA];rw[uo];cases bt [93] r<;>rfl
 ·split
  ·rw[Ru]
   cases jf 0 15 l with
   |error e=>rfl
   | ok p=>
     obtain⟨x,r⟩:=p;simp only[jA];rw[uo];cases bt [58] r with
     |error e=>rfl
     | ok r=>
       simp only;rw[Cn];cases dQ af (aA r)with
       |none=>rfl
       |some k=>simp only[Co]
  ·rw[Ss]
   cases jg l with
   |error e=>rfl
   |ok p=>rfl
theorem YC(af:Int)(d:Nat->Nat)(l:List Tok):jN af (zP d l)=jA d (jN af l):=by
 unfold jN;rw[akz];cases gv af l with
 |error e=>rfl
 | ok p=>
   obtain⟨x,r⟩:=p;simp only[jA];rw[uo];cases bt [61] r with
   |error e=>rfl
   | ok r=>
     simp only;rw[Ru];cases jf (-2147483648) 2147483647 r<;>rfl
theorem Vh{k:Int}{sign:Tx}{one:List Tok->PR Nd}(d:Nat->Nat)(H: ∀l,one (zP d l)=jA d (one l)): ∀(n:Nat) (acc:List Nd) (l:List Tok),gN k sign one n acc (zP d l)=jA d (gN k sign one n acc l)
 |0,_,_=>rfl
 | n+1,acc,l=>by
   unfold gN;rw[Cn,Co];split
   ·rw[H]
    cases one l.tail with
    |error e=>rfl
    |ok p=>exact Vh d H n _ _
   ·rfl
theorem Vj{k:Int}{sign:Tx}{one:List Tok->PR Nd}(d:Nat->Nat)(H: ∀l,one (zP d l)=jA d (one l))(l:List Tok):fR k sign one (zP d l)=jA d (fR k sign one l):=by
 unfold fR;rw[H];cases one l with
 |error e=>rfl
 | ok p=>
   obtain⟨x,r⟩:=p;simp only[jA];rw[WS];exact Vh d H _ _ _
theorem Tw{one:List Tok->PR Nd}(d:Nat->Nat)(H: ∀l,one (zP d l)=jA d (one l))(l:List Tok):gI one (zP d l)=jA d (gI one l):=Vj d (Vj d H) l
theorem J9(af:Int)(d:Nat->Nat): ∀(n:Nat) (l:List Tok),bg af n (zP d l)=jA d (bg af n l)
 |0,_=>rfl
 | n+1,l=>by
   unfold bg;simp only[Cn,Co];split
   ·rw[J9 af d n]
    cases bg af n l.tail<;>rfl
   ·split
    ·rw[Tw d (J9 af d n)]
     cases gI (bg af n) l.tail with
     |error e=>rfl
     | ok p=>
       obtain⟨x,r⟩:=p;simp only[jA];rw[uo];cases bt [41] r<;>rfl
    ·split
     ·rfl
     ·exact YC af d l
theorem ZP(d:Nat->Nat)(l:List Tok):kf (zP d l)=jA d (kf l):=by
 unfold kf;rw[Cn,Co,uo,uo];split
 ·rfl
 ·split
  ·cases bt [101,120,105,115,116,115] l.tail<;>rfl
  ·cases bt [101,120,105,115,116,115] l<;>rfl
theorem OH(af:Int)(d:Nat->Nat)(l:List Tok):ep af (zP d l)=match ep af l with
 | .ok p=>.ok p
 | .error e=>.error (zP d e):=by
 unfold ep;rw[ZP];cases kf l with
 |error e=>rfl
 | ok p=>
   obtain⟨q,l⟩:=p;simp only[jA];rw[uo];cases bt [40] l with
   |error e=>rfl
   | ok l=>
     simp only;rw[WS,Tw d (J9 af d _)];cases gI (bg af (l.length+1)) l with
     |error e=>rfl
     | ok p=>
       obtain⟨x,l⟩:=p;simp only[jA];rw[uo];cases bt [41] l with
       |error e=>rfl
       | ok l=>
         cases l with
         |nil=>rfl
         |cons t l=>rfl
theorem alK(p:Nat)(s:Tx):zP (fun _=>0) (lex p s)=cq (av s):=by
 rw[<-JO p s];unfold zP cq;rw[List.map_map];rfl
theorem OG(af:Int)(s:Tx):ep af (cq (av s))=match ep af (lex 0 s)with
 | .ok p=>.ok p
 | .error e=>.error (zP (fun _=>0) e):=by
 rw[<-alK 0 s,OH]
theorem OE{af:Int}{s:Tx}{p:Int × Nd}(h:ep af (cq (av s))= .ok p):ep af (lex 0 s)= .ok p:=by
 rw[OG]at h;cases e:ep af (lex 0 s)with
 |ok q=>rw[e]at h;exact h
 |error q=>rw[e]at h;cases h
theorem Hp{af:Int}{s r:Tx}{p:Int × Nd}(h:ep af (lex 0 s)= .ok p)(hr:av s=av r):ep af (lex 0 r)= .ok p:=by
 refine OE ?_;rw[<-hr,OG,h]
theorem Ua{af:Int}{s r:Tx}{p:Int × Nd}(h:cM af s= .ok p)(hr:av s=av r)(hl:r.length<=262144):cM af r= .ok p:=by
 unfold cM at h⊢
 split at h
 ·cases h
 ·rename_i h1
  split at h
  ·cases h
  ·rw[if_neg h1,if_neg (by omega)]
   split at h
   ·cases h
   ·rename_i q x e
    rw[Hp e hr];exact h
end Go.Proofs.YtkbbgjloifmmbaaGreatDoor
