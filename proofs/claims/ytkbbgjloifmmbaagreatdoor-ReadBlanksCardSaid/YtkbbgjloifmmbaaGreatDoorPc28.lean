/- What ReadBlanksP leans on, part 28. -/
import Derived.Test.YtkbbgjloifmmbaaGreatDoorPc23
set_option linter.unusedVariables false
set_option maxRecDepth 100000
set_option maxHeartbeats 6400000
open _root_.Go.Proofs.Tryz
open _root_.List renaming getElem?_eq_some_iff->anx,length_append->aoW,getElem?_eq_getElem->am9,takeWhile_append_dropWhile->aoj,length_map->anL,mem_of_getElem?->anw,length_drop->aoN,append_assoc->anZ,take_of_length_le->ap8,dropWhile_suffix->apr,getElem?_map->anA,length->anO,drop_eq_nil_of_le->anj,take_left->ap9,drop_drop->apD,dropWhile_append_of_pos->apu,replicate->aop,takeWhile_cons_of_pos->aps,drop_eq_getElem_cons->aoI,mem_replicate->aqa,drop_zero->ap0,suffix_iff_eq_drop->aqb,take_succ_eq_append_getElem->anH,getElem?_of_mem->aqc,getLast?_eq_some_getLast->aol,drop_take->aqd,getElem?_drop->ao5,length_eq_zero_iff->aqe,map_append->ao3,takeWhile_prefix->apv,mem_iff_getElem?->anJ,take_succ_cons->aoM,map_replicate->aqf,getElem?_set->aqg,length_cons->ans,cons_append->aod,all_eq_true->anF,any_eq_true->an1,append_nil->aoQ,length_set->apg
open _root_.Nat renaming le_refl->anb,zero_le->apL,le_trans->ap1,add_zero->ano
open _root_.Option renaming some->an7
open _root_.Option.some renaming inj->an4,injEq->anP
open _root_.Go.Lib renaming itoa->aoe
open _root_.Go.RowKit.Below renaming refl->anM
open _root_.Go.Instr renaming sliceAt->anh
open _root_.Go.World renaming ownsRow_lit->aqh,drew->an5
namespace Go.Proofs.YtkbbgjloifmmbaaGreatDoor
open Go.RowKit Go.Sort
variable{x y:Cd}{af er:Int}{e:Int × Nat}{C:List Cd}{i:List aL}{L l:List Tx}{xs:List Value}{B B' E N bad c k kk m n q rb size:Nat}{a:Option Addr}{t:aG}{M b p r r1 r2 r3 s u:Tx}{w w' w1 w5 w6 w7 w8:World}
theorem Vq:gQ prog 41 3 (.int .i64 0) 1 8:=⟨underlying41,by kernel_rfl,rfl,by decide⟩
theorem Oy:gQ prog 42 9 (.string ByteArray.empty) 1 16:=⟨underlying42,by kernel_rfl,rfl,by decide⟩
def nM(N:Nat):List Tx->Tx->List Int
 |[],_=>[]
 |c::L,x=>((N:Int)-(x.length:Nat)+((c.length-(ax c).length:Nat):Int))::nM N L (x.drop (c.length+1))
theorem Xx(N:Nat): ∀(L:List Tx) (x:Tx),(nM N L x).length=L.length
 |[],_=>rfl
 |c::L,x=>by rw[nM,ans,Xx N L];rfl
def lC(l:List Tx):List Value:=l.map fun x=>Value.string (tx x)
def jP(W:Tx):List Tx->Tx
 |[]=>W
 |[p]=>p++W
 |p::L=>p++124::jP W L
theorem M4(W:Tx): ∀A:Tx,jP W (aH 124 A)=A++W
 |[]=>rfl
 | c::A=>by
   have ih:=M4 W A;cases h:c==124 with
   | true=>
     obtain rfl:c=124:=by simpa using h
     rw[aH,if_pos h];cases e:aH 124 A with
     |nil=>exact absurd e (mW 124 A)
     |cons x t=>rw[e]at ih;show[]++124::jP W (x::t)=_;rw[ih];rfl
   | false=>
     rw[aH,if_neg (by rw[h];decide)];cases e:aH 124 A with
     |nil=>exact absurd e (mW 124 A)
     | cons x t=>
       rw[e]at ih;cases t with
       |nil=>show(c::x)++W=_;rw[show c::A++W=c::(A++W)from rfl,<-ih];rfl
       |cons y t=>show(c::x)++124::jP W (y::t)=_;rw[show c::A++W=c::(A++W)from rfl,<-ih];rfl
theorem Xr(W p:Tx)(L:List Tx)(hW:W≠[]): ∃d r,jP W (p::L)=p++d::r/\(L≠[]->r=jP W L):=by
 cases L with
 | nil=>
   cases W with
   |nil=>exact absurd rfl hW
   |cons d r=>exact⟨d,r,rfl,fun h=>absurd rfl h⟩
 |cons x L=>exact⟨124,jP W (x::L),rfl,fun _=>rfl⟩
theorem Su(f:Tx->Tx): ∀(L:List Tx) (m:Nat) (c:Tx),L[m]? =some c->((L.take m).map f++L.drop m).set m (f c)=(L.take (m+1)).map f++L.drop (m+1)
 |[],m,c,h=>by cases h
 | d::L,0,c,h=>by
   obtain rfl:d=c:=by simpa using h
   rfl
 | d::L,m+1,c,h=>by
   have ih:=Su f L m c (by simpa using h);show f d::((L.take m).map f++L.drop m).set m (f c)=f d::((L.take (m+1)).map f++L.drop (m+1));rw[ih]
theorem Ss(f:Tx->Tx): ∀(L:List Tx) (m:Nat) (c:Tx),L[m]? =some c->((L.take m).map f++L.drop m)[m]? =some c
 |[],m,c,h=>by cases h
 |d::L,0,c,h=>h
 | d::L,m+1,c,h=>by
   have ih:=Ss f L m c (by simpa using h);show((L.take m).map f++L.drop m)[m]? =some c;exact ih
theorem aje(A X:Tx)(d:UInt8)(hd:aq d=false):cr (A++d::X)=A++d::cr X:=by
 unfold cr;rw[List.reverse_append,List.reverse_cons,anZ,List.dropWhile_append]
 by_cases h:(X.reverse.dropWhile aq).isEmpty
 ·rw[if_pos h]
  have h2:X.reverse.dropWhile aq=[]:=by simpa using h
  rw[h2];simp[hd]
 rw[if_neg h];simp
theorem afi{c:UInt8}(hu:u.head?=some c)(hc:aq c=false):cr (b++u.takeWhile (· != 10))=b++aK u/\aK u≠[]/\ ∃z,u=aK u++z:=by
 cases u with
 |nil=>cases hu
 | cons d r=>
   obtain rfl:d=c:=by simpa using hu
   have h10:(d != 10)=true:=by
    rw[bne_iff_ne];rintro rfl;revert hc;decide
   obtain⟨y,hy,eL⟩:=mQ (r.takeWhile (· != 10));have e2: ∀A:Tx,cr (A++d::r.takeWhile (· != 10))=A++d::cr (r.takeWhile (· != 10)):=fun A=>aje A _ d hc
   have e1:aK (d::r)=d::cr (r.takeWhile (· != 10)):=by
    unfold aK;rw[aps (p:=fun x=>x != 10) h10];exact e2 []
   refine⟨?_,by rw[e1];simp,y++r.dropWhile (· != 10),?_⟩
   ·rw[aps (p:=fun x=>x != 10) h10,e2,e1]
   rw[e1,aod,<-anZ,<-hy,aoj]
theorem Rk(L:List Tx)(m:Nat):(lC ((L.take m).map ak++L.drop m)).length=L.length:=by
 unfold lC;simp;omega
theorem Rl(h:Own w B 9 1 a n c (lC ((L.take m).map ak++L.drop m)))(hp:L[m]? =some p):w.cell? ⟨bk a,fo a+m,none⟩=some (.string (tx p)):=by
 have:=(Own.row h).cell m (by rw[Rk];exact(anx.1 hp).1);rw[this];unfold lC;rw[anA,Ss ak L m p hp];rfl
theorem LJ{l:List Value}(h:Own w B 9 1 a n c l)(hm:m<l.length)(hn:n<=1000000000): ∀c w',(Instr.indexAt 42 (.slice a n c) (.int .i64 m)).run prog w'= .ok (.pointer (some ⟨bk a,fo a+m,none⟩)) w':=by
 intro c;have hl:l.length=n:=by have:=h.1;omega
 have:=yZ (c:=c) (n:=n) (m:=1) (Own.row h) Oy.nc Oy.cells Oy.isSome (by omega) (by omega) m (by omega) .i64;simpa using this
def Jb(u:Tx)(w1 w:World)(s:Tx)(t:aG)(e:Ending)(w':World):Prop:=
 (eE u=false/\e= .returned (.tuple #[.slice none 0 0,.slice none 0 0,.int .i64 (bJ s.length u),.bool false])/\Below w.heap.size w w')\/
 ∃b n ca pa pc k',eE u=true/\(∀c∈b,aq c=true)/\b.length+u.length<=s.length/\n=(aH 124 (b++(aK u).dropLast)).length/\e= .returned (.tuple #[.slice ca n n,.slice pa n pc,.int .i64 (bJ s.length u),.bool true])/\s.drop k'=bE u/\St w w' w1.heap.size/\cM w1 w' s k' t/\Own w' w.heap.size 9 1 ca n n (lC ((aH 124 (b++(aK u).dropLast)).map ak))/\iR w' w.heap.size pa n pc (nM s.length (aH 124 (b++(aK u).dropLast)) (b++u))
theorem Yn(R:cM w1 w s k t):Calls prog 81 #[.pointer (some ⟨w1.heap.size,0,none⟩)] w (Jb (ax (s.drop k)) w1 w s t):=by
 obtain⟨c0,c1⟩:=R.bx.mB;have hl:=R.sl;have PK:=hid (De s w1.heap.size k R.le R.sl w c0 c1);have HR:=hid R;have HG:=hid R.g;obtain⟨u,hu⟩:=aj (ax (s.drop k));rw[hu];obtain⟨N,hN⟩:=aj s.length;have Kr:N<=262144:=by omega
 have qT:=hid hN;clear c0 c1 hl;go_in;go_wp2_with fail;refine PK.out.mono ?_;rintro e w2 ⟨hv,E2⟩;unfold sJ at hv;rw[hu,hN]at hv;rcases hv with⟨h0,rfl⟩|⟨b,h0,hb,h10,kA,rfl⟩
 ·have TR:=hid (fun w=>ZG [] (by simp) w)
  have TR:=hid (fun w=>(show aJ w (.string (tx (cr [])))=aJ w (.string ⟨#[]⟩)from rfl)▸TR.out w);have HZ:=hid (show eE u=false/\bJ s.length u=N from by rw[h0,hN];exact⟨rfl,rfl⟩);have E2:=hid E2;clear hu h0 hN;go_wp2_with fail;refine(TR.out _).mono ?_;rintro e w3 ⟨rfl,E3⟩;have E:=hid (aB E2.out E3);clear E3;go_wp2_with fail;refine bodyPost_ret (v:=.tuple #[.slice none 0 0,.slice none 0 0,.int .i64 (N:Nat),.bool false]) (by simp[results,results81,go_sem]) rfl ?_;refine .inl ⟨HZ.out.1,by rw[HZ.out.2],E.out⟩
 obtain⟨c,hc⟩: ∃c,u.head?=some c:=by
  cases u with
  |nil=>exact absurd rfl h0
  |cons c r=>exact⟨c,rfl⟩
 have hcb:aq c=false:=je (l:=s.drop k) (p:=aq) (by rw[show(s.drop k).dropWhile aq=u from hu];exact hc);obtain⟨q1,q2,z,q3⟩:=afi (b:=b) hc hcb;have dN:u.length<=N:=by rw[<-hu];have:=(kX (s.drop k)).length_le;have:=aoN (i:=k) (l:=s);omega
 have hin:b.length+u.length<=N:=by unfold bJ at kA;omega
 have hlen:(b++u.takeWhile (· != 10)).length<=262144:=by have:=pM (· != 10) u;rw[aoW];omega
 have TR:=hid (fun w=>ZG (b++u.takeWhile (· != 10)) (by omega) w);rw[q1]at TR;have hzl:u.length=(aK u).length+z.length:=by rw[congrArg anO q3];simp
 have SF:=hid (fun w=>Dp (b++aK u) 59 (by rw[aoW];omega) w)
 have mh:((b++u.takeWhile (· != 10)).length-(ax (b++u.takeWhile (· != 10))).length:Nat)=b.length:=by
  have:ax (b++u.takeWhile (· != 10))=u.takeWhile (· != 10):=by
   unfold ax;rw[apu hb];cases u with
   |nil=>rfl
   | cons d r=>
     obtain rfl:d=c:=by simpa using hc
     rw[aps (p:=fun x=>x != 10) (by rw[bne_iff_ne];rintro rfl;revert hcb;decide),List.dropWhile_cons_of_neg (by rw[hcb];decide)]
  rw[this,aoW];omega
 have En:=hid (fun w=>Dd (b++u.takeWhile (· != 10)) (by omega) w);rw[mh]at En
 have KU:(b++aK u).getLast?=(aK u).getLast?:=by
  rw[List.getLast?_append];cases h:(aK u).getLast? with
  |none=>exact absurd (List.getLast?_eq_none_iff.1 h) q2
  |some z=>rfl
 rw[KU]at SF;have HB:=hid hb;have tX:=hid hin;generalize b++u.takeWhile (· != 10)=ln at*;have E2:=hid E2
 by_cases qi:(aK u).getLast?=some 59
 ·have hrow:eE u=true:=by unfold eE;rw[qi];rfl
  rw[qi,show(some (59:UInt8)==some 59)=true from rfl]at SF;obtain⟨M,hM⟩:=qv.1 qi;have qq:s.drop (N-(bE u).length)=bE u:=by rw[<-hN];exact Bi (k:=k) ((yX u).trans (by rw[<-hu];exact kX _))
  have hle:N-(bE u).length<=s.length:=by omega
  rw[hM]at TR hzl SF;have hap:b++M++[59]=b++(M++[59]):=anZ ..;have hdl:(aK u).dropLast=M:=by rw[hM];simp
  have Ue:b++u=(b++M)++59::z:=by rw[show b++u=b++(aK u++z)from by rw[<-q3],hM];simp[anZ]
  have hJ:=M4 (59::z) (b++M);rw[<-Ue]at hJ;have hbM:(b++M).length+1+z.length=b.length+u.length:=by rw[hzl,aoW,aoW];simp;omega
  obtain⟨cn,oh⟩:=aj ((tx (b++(M++[59]))).size);have adt:cn=(b++M).length+1:=by rw[<-oh,aM,<-hap];simp;try omega
  have amB:cn<=262145:=by omega
  have sl:=qE (b++M++[59]) (b++M).length (by simp);rw[ap9,hap,show(((b++M).length:Nat):Int)=(cn:Int)-1 by omega]at sl;have SP:=hid (fun w g=>Zo (b++M) 124 (by omega) w g);have hne:=mW 124 (b++M);have qp: ∀p∈aH 124 (b++M),p.length<=262144:=fun p hp=>by have:=wQ 124 (b++M) p hp;omega
  have hLn:=qG 124 (b++M);have HL:=hid (show aH 124 (b++(aK u).dropLast)=aH 124 (b++M) by rw[hdl]);have Af:=hid (show bJ s.length u=bJ N u by rw[hN]);have hx0:(b++u).length=b.length+u.length:=aoW;generalize aH 124 (b++M)=L at*;obtain⟨x0,hx1⟩:=aj (b++u);have ua:=hid hx1;rw[hx1]at hJ hx0;clear hx1;obtain⟨n,hn⟩:=aj L.length;rw[hn]at SP hLn;have fk:n<=262145:=by omega
  obtain⟨pp,eC⟩:=aj (nM N L x0);have hn0:n≠0:=fun h=>hne (aqe.1 (hn.trans h))
  obtain⟨p0,di⟩:=aj (bJ N u);have Ki:(p0:Int)-(b.length:Nat)=((N-x0.length:Nat):Int):=by rw[<-di];unfold bJ;omega
  have adX:x0.length<=N:=by omega
  rw[di]at Af;rw[di];obtain⟨bl,Ud⟩:=aj b.length;rw[Ud]at En Ki;have eT:=hid hn;have ID:=hid qp;have HJ:=hid hJ;have iA:=hid eC;have tW:=hid Ki;have Eg:=hid hrow;have xu:=hid qq;have Pt:=hid hN;clear hu hc hcb q1 q2 q3 dN hin hlen hzl KU qi hrow hM qq hdl Ue hJ hbM adt hne qp hLn hn eC Ki di hx0 hb mh hN kA Ud hap;go_wp2_with fail;refine(TR.out _).mono ?_;rintro e w3 ⟨rfl,E3⟩;have E:=hid (aB E2.out E3);clear E3
  go_wp2_with (first|(go_at_call 99;refine av (SF.out _) ?_)|fail)
  refine(En.out _).mono ?_;rintro e w4 ⟨rfl,E4⟩;have E:=hid (aB E.out E4);have g4:=HG.out.below E.out;clear E4;go_wp2_with fail;refine(SP.out _ g4).mono ?_;rintro e w5 ⟨a,rfl,oA,-, E5⟩;have KB:a≠none:=Own.some oA (by omega);have adl:w.heap.size<=bk a:=ap1 E.out.size (Own.lt oA KB).1;have UJ:=E.out.size;have E:=hid (aB E.out E5);have oA:=hid (show Own w5 w.heap.size 9 1 a n n (lC ((L.take 0).map ak++L.drop 0))from Own.mono oA UJ);clear E5 g4;go_wp2_with fail;have P0:=hid (show pp=[]++nM N (L.drop 0) x0 by rw[List.nil_append,ap0,iA.out]);have HOA:=hid (Own.nil w5 w.heap.size 3 1)
  go_loopw [11,12,45] (fun f q i wi=> ∃(m:Nat) (pa:Option Addr) (pc:Nat) (x:Tx) (acc:List Int),i= .int .i64 m/\m<=n/\f= .int .i64 (N-x.length:Nat)/\x.length<=N/\q= .slice pa m pc/\acc.length=m/\Hid (m<n->x=jP (59::z) (L.drop m))/\Hid (pp=acc++nM N (L.drop m) x)/\Hid (iR wi w.heap.size pa m pc acc)/\Hid (Own wi w.heap.size 9 1 a n n (lC ((L.take m).map ak++L.drop m)))/\Hid (pP a pa)/\Hid (Below w.heap.size w wi)) (fun _ _ i _=>n-(intOf i).toNat)
  case atStart=>
   refine⟨0,none,0,x0,[],rfl,apL _,?_,adX,rfl,rfl,hid fun _=>by rw[ap0];exact HJ.out.symm,P0,hid (Own.nil _ _ _ _),oA,hid (.inr (.inl rfl)),E⟩;rw[tW.out];congr 1;unfold wrap64;omega
  obtain⟨m,pa,pc,x,acc,rfl,hmn,rfl,Ga,rfl,Kz,HX,HP,OP,OC,AP,EE⟩:=hrel
  by_cases hlt:m<n
  ·obtain⟨p,jL⟩: ∃p,L[m]? =some p:=⟨_,am9 (by rw[eT.out];exact hlt)⟩
   have hdr:L.drop m=p::L.drop (m+1):=by
    obtain⟨h1,h2⟩:=anx.1 jL;rw[aoI h1,h2]
   have hcs:=Su ak L m p jL;have ix:=LJ OC.out (m:=m) (by rw[Rk,eT.out];exact hlt) (by omega);have cl:=Rl OC.out jL;have Ir:=hid (fun(w2:World) (h:Own w2 w.heap.size 9 1 a n n (lC ((L.take m).map ak++L.drop m)))=>Rl h jL);obtain⟨d,r,ex,er⟩:=Xr (59::z) p (L.drop (m+1)) (by simp);have hx:=HX.out hlt;rw[hdr,ex]at hx;have hxl:x.length=p.length+1+r.length:=by rw[hx];simp;omega
   have kR:x.drop (p.length+1)=r:=by rw[hx,<-apD];simp
   have iB:=hid (show m+1<n->r=jP (59::z) (L.drop (m+1))from fun h=>er (fun e=>by
    have:=congrArg anO e;rw[aoN,eT.out]at this;simp at this;omega))
   obtain⟨ld,mh⟩:=aj (p.length-(ax p).length);have adF:ld<=p.length:=by omega
   have dm:=hid (show pp=(acc++[((N-x.length:Nat):Int)+(ld:Int)])++nM N (L.drop (m+1)) r by
    rw[HP.out,hdr,nM,kR,mh,anZ,show((N-x.length:Nat):Int)=(N:Int)-(x.length:Nat) by omega];rfl)
   have hpb:p.length<=262144:=by omega
   have LD:=hid (fun w=>Dd p (by omega) w);rw[mh]at LD;have TP:=hid (fun w=>pI p (by omega) w);obtain⟨pl,hpl⟩:=aj ((tx p).size);have qp:pl=p.length:=by rw[<-hpl,aM]
   have adM:pl<=262144:=by omega
   have hfr:((N-x.length:Nat):Int)+((pl:Int)+1)=((N-r.length:Nat):Int):=by omega
   have Eb:=hid hfr;have tS:decide ((m:Int)<(n:Int))=true:=ah;have vY:r.length<=N:=by omega
   have mc:N-x.length<=262144:=by omega
   have adE:ld<=262144:=by omega
   have hsz:=EE.out.size;obtain⟨tp,wj⟩:=aj (ak p);rw[wj]at TP hcs;have HCS:=hid hcs;clear jL hdr hcs ex er hx hxl kR mh adF qp hfr wj HX HP hpb;go_wp2_with fail;refine(LD.out _).mono ?_;rintro e w6 ⟨rfl,E6⟩;have Ik:=hid (aB EE.out E6);have Qj:=hid (Own.below OC.out E6);have Qk:=Own.below OP.out E6;clear cl E6 hsz
   go_wp2_with (at_builtin;go_loud(refine nU Vq (.tmp 50) (.tmp 55) rfl rfl rfl rfl Qk rfl rfl jf Ik.out Ik.out.size (by omega) cz ?_))
   intro a7 c7 w7 o7 g7 B7;have o7:=hid (show iR w7 w.heap.size a7 (m+1) c7 (acc++[((N-x.length:Nat):Int)+(ld:Int)]) by unfold iR;rw[show ints (acc++[((N-x.length:Nat):Int)+(ld:Int)])=ints acc++ints [((N-x.length:Nat):Int)+(ld:Int)]from ao3];exact o7);obtain⟨nX,Ig⟩:=Own.step Qj.out g7.step AP.out;have nX:=hid nX;have Ig:=hid Ig;have B7:=hid B7;clear Qk Ik Qj g7;go_wp2_with fail;refine(TP.out _).mono ?_;rintro e w8 ⟨rfl,E8⟩;have Ax:=Own.below nX.out E8;have Ql:=Own.below o7.out E8;have Il:=aB B7.out E8;obtain⟨s1,s2⟩:=Own.set Ax KB m (.string (tx tp));have cl:w8.cell? ⟨bk a,fo a+m,none⟩=some (.string (tx p)):=Ir.out _ Ax;have fz:=Own.frozen Ax KB m;have EE9:=hid (s2.below Ax Il Il.size);obtain⟨IU,Ih⟩:=Own.step Ql s2 Ig.out.symm;have IU:=hid IU;have Ih:=hid Ih.symm
   have sH:=hid (show Own (w8.setCell ⟨bk a,fo a+m,none⟩ (.string (tx tp))) w.heap.size 9 1 a n n (lC ((L.take (m+1)).map ak++L.drop (m+1))) by
    rw[<-HCS.out];unfold lC at s1 ⊢; rw[List.map_set];exact s1)
   clear Ax Ql Il s1 s2 E8;go_wp2
   go_roundw;exact⟨m+1,a7,c7,r,acc++[((N-x.length:Nat):Int)+(ld:Int)],by go_num,by omega,by rw[Eb.out],vY,rfl,by rw[aoW,Kz];rfl,iB,dm,IU,sH,Ih,EE9⟩;simp[intOf];omega
  obtain rfl:m=n:=by omega
  have dm:=hid (show pp=acc by rw[HP.out,anj (by rw[eT.out];exact anb _)];exact aoQ _);have tV:=hid (show(L.take m).map ak++L.drop m=L.map ak by rw[anj (by rw[eT.out];exact anb _),ap8 (by rw[eT.out];exact anb _),aoQ]);have zn:decide ((m:Int)<(m:Int))=false:=by simp
  have R5:=HR.out.below EE.out;have q1:=R5.bx.get 1 _ rfl;have uA:=R5.dG 1;have we:=R5.lt;have R6:=R5.put 1 (.int .i64 (N-(bE u).length:Nat)) (k':=N-(bE u).length) (t':=t) rfl hle;have ST:=hid ((aX (bw:=w1.heap.size) EE.out).trans R6.2);have TC:=hid (Own.kept OC.out R6.2.grown (by right;have:=HR.out.lt;simp;omega))
  have TI:=hid (Own.kept OP.out R6.2.grown (by
   have h:=(Own.lt OP.out (Own.some OP.out (Nat.pos_of_ne_zero hn0))).1
   right;have:=HR.out.lt;simp;omega))
  replace R6:=hid R6.1;clear R5;go_wp2_with fail;refine bodyPost_ret (v:=.tuple #[.slice a m m,.slice pa m pc,.int .i64 (p0:Nat),.bool true]) (by simp[results,results81,go_sem]) rfl (.inr ⟨b,m,a,pa,pc,N-(bE u).length,Eg.out,HB.out,by rw[Pt.out];exact tX.out,by rw[HL.out];exact eT.out.symm,by rw[Af.out],xu.out,ST.out,R6.out,?_,?_⟩)
  ·rw[HL.out]
   have:=TC.out;rw[tV.out]at this;exact this
  rw[HL.out,ua.out,Pt.out,iA.out,dm.out]
  exact TI.out
 have hrow:eE u=false:=by unfold eE;simpa using qi
 rw[show((aK u).getLast?==some 59)=false by simpa using qi]at SF;have Eg:=hid (show eE u=false/\bJ s.length u=bJ N u from⟨hrow,by rw[hN]⟩);generalize b++aK u=cut at*;generalize bJ N u=p0 at*;clear hu hc hcb q1 q2 q3 dN hin hlen hzl KU qi hrow En mh hb kA hN;go_wp2_with fail;refine(TR.out _).mono ?_;rintro e w3 ⟨rfl,E3⟩;have E:=hid (aB E2.out E3);clear E3
 go_wp2_with (first|(go_at_call 99;refine av (SF.out _) ?_)|fail)
 refine bodyPost_ret (v:=.tuple #[.slice none 0 0,.slice none 0 0,.int .i64 (p0:Nat),.bool false]) (by simp[results,results81,go_sem]) rfl ?_;refine .inl ⟨Eg.out.1,by rw[Eg.out.2],E.out⟩
theorem pg(C:List Cd):flat qa C=C.map fun x=>Value.slice x.a x.l.length x.c:=by
 induction C with
 |nil=>rfl
 |cons x C ih=>rw[xU,ih];rfl
structure cL(w:World)(B:Nat)(a:Option Addr)(n:Nat)(C:List Cd):Prop where
 row:Own w B 75 1 a n n (flat qa C)
 own: ∀x∈C,Own w B 50 8 x.a x.l.length x.c (fD x.l)
 far: ∀x∈C,pP a x.a
 nd: ∀(i j:Nat) (x y:Cd),C[i]? =an7 x->C[j]? =an7 y->i≠j->pP x.a y.a
section
variable {w w':World} {B n:Nat} {a:Option Addr} {C:List Cd}
theorem cL.len(h:cL w B a n C):C.length=n:=by
 have:=h.row.1;rw[pg,anL]at this;omega
theorem cL.below(h:cL w B a n C)(hb:Below w.heap.size w w'):cL w' B a n C:=
 ⟨Own.below h.row hb,fun x hx=>Own.below (h.own x hx) hb,h.far,h.nd⟩
theorem cL.kept{r:Option Nat}(h:cL w B a n C)(hg:w.grownBy w' r)(hr: ∀b,r=an7 b->b<B):cL w' B a n C:=by
 have key: ∀{E size m c:Nat} {p:Option Addr} {xs:List Value},Own w B E size p m c xs->Own w' B E size p m c xs:=fun {E size m c p xs} ho=>by
  refine Own.kept ho hg ?_
  by_cases hp:p=none
  ·exact .inl hp
  have:=(Own.lt ho hp).1
  right;intro e
  have:=hr _ e.symm;omega
 exact⟨key h.row,fun x hx=>key (h.own x hx),h.far,h.nd⟩
theorem cL.put(h:cL w B a n C){k:Nat}{x:Cd}(hk:C[k]? =an7 x){a':Option Addr}{c':Nat}{i:ay}(ho:Own w' B 50 8 a' (x.l.length+1) c' (fD (x.l++[i])))(hg:jF w w' x.a x.c a' c'):
 cL (w'.setCell ⟨bk a,fo a+k,none⟩ (.slice a' (x.l.length+1) c')) B a n (C.set k ⟨a',c',x.l++[i]⟩)/\Step w' (w'.setCell ⟨bk a,fo a+k,none⟩ (.slice a' (x.l.length+1) c')) a a:=by
 have hx:=anw hk;have hlt:=(anx.1 hk).1;have hl:=h.len;have ha:a≠none:=Own.some h.row (by omega);obtain⟨r1,ra⟩:=Own.step h.row hg.step (h.far x hx);obtain⟨r2,s2⟩:=Own.set r1 ha k (.slice a' (x.l.length+1) c')
 have MR: ∀j y,C[j]? =an7 y->j≠k->Own (w'.setCell ⟨bk a,fo a+k,none⟩ (.slice a' (x.l.length+1) c')) B 50 8 y.a y.l.length y.c (fD y.l)/\pP y.a a':=fun j y hj hne=>by
  have hy:=anw hj;obtain⟨o1,o2⟩:=Own.step (h.own y hy) hg.step (h.nd j k y x hj hk hne);exact⟨(Own.step o1 s2 (h.far y hy).symm).1,o2⟩
 have get: ∀j y,(C.set k ⟨a',c',x.l++[i]⟩)[j]? =an7 y->(j=k/\y=⟨a',c',x.l++[i]⟩)\/(j≠k/\C[j]? =an7 y):=fun j y hj=>by
  rw[aqg]at hj
  by_cases e:k=j
  ·rw[if_pos e,if_pos hlt]at hj
   exact .inl ⟨e.symm,(an4 hj).symm⟩
  rw[if_neg e]at hj
  exact .inr ⟨fun f=>e f.symm,hj⟩
 refine⟨⟨?_,fun y hy=>?_,fun y hy=>?_,fun p q y z hp hq hne=>?_⟩,s2⟩
 ·rw[pg,List.map_set,<-pg]
  simpa using r2
 ·obtain⟨j,hj⟩:=aqc hy
  rcases get j y hj with⟨-, rfl⟩|⟨hne,hj⟩
  ·have:=(Own.step ho s2 ra.symm).1
   simpa using this
  exact(MR j y hj hne).1
 ·obtain⟨j,hj⟩:=aqc hy
  rcases get j y hj with⟨-, rfl⟩|⟨hne,hj⟩
  ·exact ra
  exact h.far y (anw hj)
 rcases get p y hp with⟨e1,rfl⟩|⟨h1,hp⟩
 ·rcases get q z hq with⟨e2,rfl⟩|⟨h2,hq⟩
  ·exact absurd (e1.trans e2.symm) hne
  exact(MR q z hq h2).2.symm
 rcases get q z hq with⟨e2,rfl⟩|⟨h2,hq⟩
 ·exact(MR p y hp h1).2
 exact h.nd p q y z hp hq hne
end
theorem Zm(b M:Tx)(hb:(124:UInt8)∉b): ∃c0 R,aH 124 M=c0::R/\aH 124 (b++M)=(b++c0)::R:=by
 induction b with
 | nil=>
   cases e:aH 124 M with
   |nil=>exact absurd e (mW 124 M)
   |cons c0 R=>exact⟨c0,R,rfl,e⟩
 | cons d b ih=>
   obtain⟨c0,R,h1,h2⟩:=ih (fun h=>hb (List.mem_cons_of_mem _ h));refine⟨c0,R,h1,?_⟩
   have hd:(d==(124:UInt8))=false:=by
    cases h:d==(124:UInt8)with
    |false=>rfl
    |true=>exact absurd (by simpa using h) (fun e=>hb (by rw[e];exact List.mem_cons_self))
   rw[aod,aH,if_neg (by rw[hd];decide),h2];rfl
theorem Q5(hb: ∀c∈b,aq c=true):(124:UInt8)∉b:=fun h=>absurd (hb _ h) (by decide)
theorem ZK(hb: ∀c∈b,aq c=true)(x:Tx):ak (b++x)=ak x:=by
 cases e:ax x with
 | nil=>
   have h1:=ru e
   rw[(wT x).2 h1,(wT (b++x)).2 (fun c hc=>by
    rcases List.mem_append.1 hc with h|h
    ·exact hb c h
    exact h1 c h)]
 | cons c B=>
   have hc:aq c=false:=je (l:=x) (p:=aq) (by rw[show x.dropWhile aq=c::B from e];rfl);have hx:x=x.takeWhile aq++c::B:=by rw[<-e];exact(aoj ..).symm
   have ht: ∀d∈x.takeWhile aq,aq d=true:=fun d hd=>anF.1 (List.all_takeWhile) d hd
   have h1:=Du (x.takeWhile aq) B c hc;have h2:=Du (b++x.takeWhile aq) B c hc;rw[<-hx]at h1;rw[anZ,<-hx]at h2;rw[h1,h2,apu hb]
theorem akB(hb: ∀c∈b,aq c=true)(x:Tx):ax (b++x)=ax x:=apu hb
theorem Ro(hb: ∀c∈b,aq c=true):(aH 124 (b++M)).map ak=(aH 124 M).map ak:=by
 obtain⟨c0,R,h1,h2⟩:=Zm b M (Q5 hb);rw[h1,h2,List.map_cons,List.map_cons,ZK hb]
theorem Rn(hb: ∀c∈b,aq c=true):(aH 124 (b++M)).length=(aH 124 M).length:=by
 have:=congrArg anO (Ro (b:=b) (M:=M) hb);simpa using this
theorem abb(hb: ∀c∈b,aq c=true)(acc:List (List ay)):dn af N (aH 124 (b++M)) (b++u) acc=dn af N (aH 124 M) u acc:=by
 obtain⟨c0,R,h1,h2⟩:=Zm b M (Q5 hb);rw[h1,h2];cases acc with
 |nil=>rfl
 | cons x acc=>
   have hd:(b++u).drop ((b++c0).length+1)=u.drop (c0.length+1):=by
    rw[aoW,Nat.add_assoc,<-apD,List.drop_left]
   rw[dn,dn,ZK hb,akB hb,hd]
def KQ(D:List (List ay)):EP (List (List ay))->EP (List (List ay))
 | .error e=>.error e
 | .ok r=>.ok (D++r)
section
variable {af:Int} {N:Nat} {c v:Tx} {L:List Tx} {x:List ay} {acc D:List (List ay)}
theorem Qe(h:ak c=[]):KQ D (dn af N (c::L) v (x::acc))=KQ (D++[x]) (dn af N L (v.drop (c.length+1)) acc):=by
 rw[dn,if_pos h];cases dn af N L (v.drop (c.length+1)) acc with
 |error e=>rfl
 |ok r=>simp[KQ]
theorem Qa(h:ak c≠[])(h2:mM af (ak c)=none):KQ D (dn af N (c::L) v (x::acc))= .error (91,bJ N (ax v)):=by
 rw[dn,if_neg h,h2];rfl
theorem Qd{i:ay}(h:ak c≠[])(h2:mM af (ak c)=an7 i):KQ D (dn af N (c::L) v (x::acc))=KQ (D++[x++[i]]) (dn af N L (v.drop (c.length+1)) acc):=by
 rw[dn,if_neg h,h2]
 dsimp only
 cases dn af N L (v.drop (c.length+1)) acc with
 |error e=>rfl
 |ok r=>simp[KQ]
end
section
variable {af:Int} {N n:Nat} {r:Tx} {acc:List (List ay)}
theorem Y2(h:eE (ax r)=false):jC af N (n+1) r acc= .ok (acc,r):=by
 rw[jC];try dsimp only
 rw[if_pos h]
theorem Y1(h:eE (ax r)=true)(h2:(fh (ax r)).length≠acc.length):jC af N (n+1) r acc= .error (140,bJ N (ax r)):=by
 rw[jC];try dsimp only
 rw[if_neg (by rw[h];decide),if_pos h2]
def ZB(af:Int)(N n:Nat)(r:Tx):EP (List (List ay))->EP (List (List ay) × Tx)
 | .error e=>.error e
 | .ok l=>jC af N n r l
theorem Y5(h:eE (ax r)=true)(h2:(fh (ax r)).length=acc.length):jC af N (n+1) r acc=ZB af N n (bE (ax r)) (dn af N (fh (ax r)) (ax r) acc):=by
 rw[jC];try dsimp only
 rw[if_neg (by rw[h];decide),if_neg (by rw[h2];exact fun f=>f rfl)];cases dn af N (fh (ax r)) (ax r) acc<;>rfl
end
theorem KJ:rD l=true<-> ∀(i:Nat) c,l[i]? =an7 c->ak c=80::aoe (i:Int):=by
 unfold rD;rw[anF]
 constructor
 ·intro h i c hc
  have h2:(decide (ak c=80::aoe (i:Int)))∈l.mapIdx (fun i c=>decide (ak c=80::aoe (i:Int))):=by
   refine anw (i:=i) ?_;rw[List.getElem?_mapIdx,hc];rfl
  have:=h _ h2;simpa using this
 intro h x hx
 obtain⟨i,hi⟩:=aqc hx;rw[List.getElem?_mapIdx]at hi;cases e:l[i]? with
 |none=>rw[e]at hi;cases hi
 | some c=>
   rw[e]at hi;obtain rfl:decide (ak c=80::aoe (i:Int))=x:=an4 hi;simpa using h i c e
theorem Zv(h:eE (ax r)=false):eR af N r= .error (140,bJ N (ax r)):=by
 unfold eR;dsimp only;rw[if_pos (.inl h)]
theorem Zt(h:rD (fh (ax r))=false):eR af N r= .error (140,bJ N (ax r)):=by
 unfold eR;dsimp only;rw[if_pos (.inr h)]
theorem Zw(h:eE (ax r)=true)(h2:rD (fh (ax r))=true):eR af N r=jC af N (r.length+1) (bE (ax r)) (aop (fh (ax r)).length []):=by
 unfold eR;dsimp only;rw[if_neg (by rw[h,h2];rintro(f|f)<;>cases f)]
theorem GB(h:Own w B E size a n c xs): ∀g,a.map (·.block)=some g-> ∃cs fz,w.heap[g]? =some (.cells cs E fz):=by
 intro g hg;rcases h.2 with⟨h2,h0⟩|⟨g',cap,cur,hv,Uc,hh,r⟩
 ·simp only[Value.slice.injEq]at h2
  rw[h2.1]at hg;cases hg
 cases hv
 simp only[Option.map_some,anP]at hg;subst hg;exact⟨cur,_,hh⟩
theorem tE{E' m' n' c':Nat}{r:Option Addr}{ys:List Value}(h:Own w B E m a n c xs)(h':Own w B' E' m' r n' c' ys)(hne:E≠E'):pP a r:=by
 cases r with
 |none=>exact .inr (.inl rfl)
 | some p=>
   cases a with
   |none=>exact .inl rfl
   | some q=>
     refine .inr (.inr fun e=>?_);obtain⟨cs,fz,h1⟩:=GB h' p.block rfl;obtain⟨cs',Tg,h2⟩:=GB h q.block rfl;rw[show q.block=p.block from e,h1]at h2;simp only[anP,Obj.cells.injEq]at h2;exact hne h2.2.1.symm
theorem WY(h:Own w B 9 1 a n c (lC l))(hp:l[m]? =an7 p):w.cell? ⟨bk a,fo a+m,none⟩=an7 (.string (tx p)):=by
 have:=(Own.row h).cell m (by unfold lC;rw[anL];exact(anx.1 hp).1);rw[this];unfold lC;rw[anA,hp];rfl
theorem NQ(h:eE u=true): ∃z,u=(aK u).dropLast++59::z:=by
 have h1:(aK u).getLast?=an7 59:=by unfold eE at h;simpa using h
 obtain⟨M,hM⟩:=qv.1 h1;obtain⟨b,hb, -⟩:=mQ (u.takeWhile (· != 10))
 have hu:u=aK u++(b++u.dropWhile (· != 10)):=by
  rw[<-anZ];unfold aK;rw[<-hb,aoj]
 refine⟨b++u.dropWhile (· != 10),?_⟩
 have h2:aK u=(aK u).dropLast++[59]:=by
  rw[hM];simp
 have h3:aK u++(b++u.dropWhile (· != 10))=(aK u).dropLast++59::(b++u.dropWhile (· != 10)):=by
  conv=>lhs;rw[h2]
  simp
 exact hu.trans h3
theorem YH(h:eE u=true):(bE u).length<u.length:=by
 obtain⟨z,hz⟩:=NQ h;have h1:=(yX u).length_le;rcases Nat.lt_or_ge (bE u).length u.length with h2|h2
 ·exact h2
 exfalso
 unfold bE at h2;have h3:=(apr (l:=u) (· != 10)).length_le;rw[aoN]at h2;have h4:0<u.length:=by rw[hz,aoW,ans];omega
 omega
theorem YV(h:eE u=true)(b:Tx): ∃z,b++u=jP (59::z) (aH 124 (b++(aK u).dropLast)):=by
 obtain⟨z,hz⟩:=NQ h;refine⟨z,?_⟩;rw[M4,anZ,<-hz]
theorem Rm{z x:Tx}(hp:L[m]? =an7 p)(hx:x=jP (59::z) (L.drop m)): ∃d r,L.drop m=p::L.drop (m+1)/\x=p++d::r/\x.drop (p.length+1)=r/\(m+1<L.length->r=jP (59::z) (L.drop (m+1))):=by
 obtain⟨h1,h2⟩:=anx.1 hp;have hdr:L.drop m=p::L.drop (m+1):=by rw[aoI h1,h2]
 obtain⟨d,r,ex,er⟩:=Xr (59::z) p (L.drop (m+1)) (by simp);rw[hdr,ex]at hx;refine⟨d,r,hdr,hx,by rw[hx,<-apD];simp,fun h=>er (fun e=>?_)⟩;have:=congrArg anO e;rw[aoN]at this;simp at this;omega
theorem Qc{p:EP (List (List ay))}:KQ [] p=p:=by cases p<;>rfl
theorem Qb{v:Tx}{D acc:List (List ay)}:KQ D (dn af N [] v acc)= .ok (D++acc):=by
 rw[dn];rfl
theorem Rz(h:C[m]? =an7 x):(C.drop m).map (·.l)=x.l::(C.drop (m+1)).map (·.l)/\(C.take (m+1)).map (·.l)=(C.take m).map (·.l)++[x.l]:=by
 obtain⟨h1,h2⟩:=anx.1 h
 constructor
 ·rw[aoI h1,h2];rfl
 rw[anH h1,h2,ao3];rfl
theorem Fe(h:C[m]? =an7 x):((C.set m y).drop (m+1)).map (·.l)=(C.drop (m+1)).map (·.l)/\((C.set m y).take (m+1)).map (·.l)=(C.take m).map (·.l)++[y.l]:=by
 obtain⟨h1,h2⟩:=anx.1 h
 constructor
 ·rw[List.drop_set_of_lt (by omega)]
 rw[anH (by rw[apg];exact h1),List.getElem_set_self,ao3,List.take_set_of_le (by omega)];rfl
theorem cL.new(h:Own w B 75 1 a n n (madeCells #[Value.slice none 0 0] n).toList):cL w B a n (aop n ⟨none,0,[]⟩):=by
 refine⟨?_,fun x hx=>?_,fun x hx=>?_,fun i j x y hx hy _=>?_⟩
 ·rw[pg,aqf]
  rw[toList_madeCells_one]at h;exact h
 ·rw[(aqa.1 hx).2];exact Own.nil _ _ _ _
 ·rw[(aqa.1 hx).2];exact .inr (.inl rfl)
 rw[(aqa.1 (anw hx)).2];exact .inl rfl
theorem cL.cell(h:cL w B a n C)(hk:C[k]? =an7 x):w.cell? ⟨bk a,fo a+k,none⟩=an7 (.slice x.a x.l.length x.c)/\w.frozen? ⟨bk a,fo a+k,none⟩=false/\ ∀c w',(Instr.indexAt 23 (.slice a n c) (.int .i64 k)).run prog w'= .ok (.pointer (an7 ⟨bk a,fo a+k,none⟩)) w':=by
 have hlt:=(anx.1 hk).1;have hl:=h.len;refine⟨?_,Own.frozen h.row (Own.some h.row (by omega)) k,fun c=>?_⟩
 ·have:=(Own.row h.row).cell k (by rw[pg,anL];exact hlt)
  rw[this,pg,anA,hk];rfl
 have:=yZ (c:=c) (n:=n) (m:=1) (Own.row h.row) xI.nc xI.cells xI.isSome (by rw[pg,anL];omega) (by have:=h.row.2;have:=(Own.cap h.row).2.1;unfold maxLen at this;omega) k (by omega) .i64
 simpa using this
theorem cL.mono(h:cL w B a n C)(hB:B'<=B):cL w B' a n C:=
 ⟨Own.mono h.row hB,fun x hx=>Own.mono (h.own x hx) hB,h.far,h.nd⟩
theorem cL.step(h:cL w B a n C)(s:St w w' rb)(hr:rb<B):cL w' B a n C:=
 h.kept s.grown (fun b hb=>by simp at hb;omega)
theorem Fc(h:Own w B 75 1 a n n (flat qa C))(hk:C[k]? =an7 x):w.cell? ⟨bk a,fo a+k,none⟩=an7 (.slice x.a x.l.length x.c)/\w.frozen? ⟨bk a,fo a+k,none⟩=false:=by
 have hlt:=(anx.1 hk).1;have hl:C.length=n:=by have:=h.1;rw[pg,anL]at this;omega
 refine⟨?_,Own.frozen h (Own.some h (by omega)) k⟩;have:=(Own.row h).cell k (by rw[pg,anL];exact hlt);rw[this,pg,anA,hk];rfl
theorem Vc(i:ay): ∀u∈iC i,u.oneCell'=true:=by
 intro u hu;simp[iC]at hu;rcases hu with rfl|rfl|rfl|rfl|rfl|rfl|rfl|rfl<;>rfl
theorem cM.code{C':List Cd}(h:cM w1 w s k { t with ca:=a,cc:=n,code:=C })(hl:C'.length=C.length):cM w1 w s k { t with ca:=a,cc:=n,code:=C' }:=by
 refine⟨?_,h.bu,h.gl,h.sl,h.le⟩;have:=h.own;simp only[wK,cT]at this⊢;rw[hl];exact this
theorem St.more{wi:World}{r:Option Nat}(h:St w wi rb)(g:wi.grownBy w' r)(hr: ∀b,r=an7 b->w.heap.size<=b):St w w' rb:=by
 refine⟨?_,.inl rfl⟩;refine⟨g.os.trans h.grown.os,g.tape.trans h.grown.tape,g.output.trans h.grown.output,ap1 h.grown.size g.size,fun k hk hne=>?_⟩;rw[g.block k (Nat.lt_of_lt_of_le hk h.grown.size) ?_]
 ·exact h.grown.block k hk hne
 intro e
 have:=hr k e.symm;omega
def kq(C:List Cd)(q kk:Nat):Prop:= ∀(j:Nat) (x:Cd),C[j]? =an7 x->x.l.length<=if j<q then kk+1 else kk
theorem kq.skip(h:kq C q kk):kq C (q+1) kk:=fun j x hx=>by
 have:=h j x hx
 split at this<;>split<;>omega
theorem kq.put(h:kq C q kk)(hy:C[q]? =an7 y)(a':Option Addr)(c':Nat)(i:ay):kq (C.set q ⟨a',c',y.l++[i]⟩) (q+1) kk:=fun j x hx=>by
 rw[aqg]at hx
 by_cases e:q=j
 ·rw[if_pos e,if_pos (anx.1 hy).1]at hx
  obtain rfl:=an4 hx;have:=h q y hy;rw[if_neg (Nat.lt_irrefl _)]at this;rw[if_pos (by omega)];simp;omega
 rw[if_neg e]at hx
 have:=h j x hx
 split at this<;>split<;>omega
theorem kq.all{k3:Nat}(h:kq C q kk)(hk:kk<k3):kq C 0 k3:=fun j x hx=>by
 have:=h j x hx;rw[if_neg (Nat.not_lt_zero _)]
 split at this<;>omega
theorem kq.at(h:kq C q kk)(hy:C[q]? =an7 y):y.l.length<=kk:=by
 have:=h q y hy
 rwa[if_neg (Nat.lt_irrefl _)]at this
theorem kq.new(n kk:Nat):kq (aop n ⟨none,0,[]⟩) 0 kk:=fun j x hx=>by
 rw[(aqa.1 (anw hx)).2];exact apL _
theorem akg(w:World)(i:ay)(T:TypeId):Row (w.alloc (.cells #[.int .i64 i.op,.int .i64 i.d,.int .i64 i.a,.int .i64 i.b,.int .i64 i.ag,.string (tx i.loc),.string (tx i.label),.int .i64 i.ai] T)) (an7 ⟨w.heap.size,0,none⟩) (iC i):=by
 have b:=aA.new w #[.int .i64 i.op,.int .i64 i.d,.int .i64 i.a,.int .i64 i.b,.int .i64 i.ag,.string (tx i.loc),.string (tx i.label),.int .i64 i.ai] T;refine⟨fun _=>rfl,fun i hi=>?_⟩;simp
def Ey(p:EP (List (List ay) × Tx))(w1 w:World)(s:Tx)(t:aG)(e:Ending)(w':World):Prop:=
 (Below w1.heap.size w1 w'/\ ∃er k,p= .error (er,k)/\e=pW er k)\/
 ∃C r1 k' a n,p= .ok (C.map (·.l),r1)/\s.drop k'=r1/\e= .returned (.tuple #[])/\St w w' w1.heap.size/\cM w1 w' s k' { t with ca:=a,cc:=n,code:=C }/\cL w' w.heap.size a n C
theorem VK(u:Tx):(aK u).length<=u.length:=by
 obtain⟨b,h, -⟩:=mQ (u.takeWhile (· != 10));have h1:=congrArg anO h;have h2:=pM (· != 10) u;rw[aoW]at h1;unfold aK;omega
theorem Ru{a:Tx}(h:a≠b):((tx a).toList==(tx b).toList)=false:=by rw[bh,bh];simpa using h
theorem cmp_eq(a:Tx):((tx a).toList==(tx a).toList)=true:=by simp
theorem akd(hb: ∀c∈b,aq c=true):(aH 124 (b++(aK u).dropLast)).map ak=(fh u).map ak:=Ro hb
theorem adx(h:l.map ak=L)(h2: ∀j,j<L.length-> ∀c,L[j]? =some c->c=80::aoe (j:Int)):rD l=true:=KJ.2 fun i c hc=>by
 subst h;have h3:i<(l.map ak).length:=by rw[anL];exact(anx.1 hc).1
 exact h2 i h3 (ak c) (by rw[anA,hc];rfl)
theorem Ul(h:l.map ak=L){j:Nat}{c:Tx}(hj:L[j]? =some c)(h2:c≠80::aoe (j:Int)):rD l=false:=by
 cases e:rD l with
 |false=>rfl
 | true=>
   subst h;rw[anA]at hj;cases e2:l[j]? with
   |none=>rw[e2]at hj;cases hj
   | some d=>
     rw[e2]at hj;obtain rfl:ak d=c:=an4 hj;exact absurd (KJ.1 e j d e2) h2
theorem ajm(R:cM w1 w s k t)(ha:bF t.af=true)(h0:t.ca=none/\t.cc=0/\t.code=[]):Calls prog 30 #[.pointer (some ⟨w1.heap.size,0,none⟩)] w (Ey (eR t.af s.length (s.drop k)) w1 w s t):=by
 have hl:=R.sl;have RW:=hid (Yn R);have FL:=hid (fun p er k w=>Dc p er k w);have HR:=hid R;obtain⟨u,hu⟩:=aj (ax (s.drop k));obtain⟨N,hN⟩:=aj s.length;have Kr:N<=262144:=by omega
 have P1:=hid (fun h=>Zv (af:=t.af) (N:=N) (r:=s.drop k) h);have P2:=hid (fun h=>Zt (af:=t.af) (N:=N) (r:=s.drop k) h);have P3:=hid (fun h h2=>Zw (af:=t.af) (N:=N) (r:=s.drop k) h h2);rw[hu]at RW P1 P2 P3;rw[hN];have qT:=hid hN;have HU:=hid hu;have hkl:(s.drop k).length<=N:=by rw[aoN];omega
 generalize eR t.af N (s.drop k)=hp at*;clear hl hu hN;go_in;go_wp2_with fail;refine RW.out.mono ?_;rintro e w2 h;unfold Jb at h;rcases h with⟨hr,rfl,E⟩|⟨b,n,ca,pa,pc,k2,hr,hb,hin,hn,rfl,hk2,ST,R2,TX, -⟩
 ·have P1:=hid (P1.out hr)
  have E:=hid E;rw[qT.out];clear hr;go_wp2_with fail;refine(FL.out _ _ _ _).mono ?_;rintro e w3 ⟨rfl,E3⟩;have E:=hid (aB E.out E3);clear E3;go_wp2_with fail;exact⟨rfl,.inl ⟨(HR.out.below E.out).bu,_,_,P1.out,rfl⟩⟩
 rw[akd hb]at TX
 have hn2:n=(fh u).length:=hn.trans (Rn hb)
 have hnb:n<=262145:=by
  have:=qG 124 (aK u).dropLast;have h2:(aK u).length<=u.length:=VK u;have h3:u.length<=N:=by have:=qT.out;omega
  rw[hn2];unfold fh;rw[List.length_dropLast]at this;omega
 have P2:=hid (fun L j c h h1 h2=>P2.out (Ul (L:=L) (j:=j) (c:=c) h h1 h2));have P3:=hid (fun L h h2=>P3.out hr (adx (L:=L) h h2));obtain⟨Lt,By⟩:=aj ((fh u).map ak);have rI:n=Lt.length:=by rw[<-By,anL];exact hn2
 have P2:=hid (fun j c h1 h2=>P2.out Lt j c By h1 h2);have P3:=hid (fun h2=>P3.out Lt By h2);rw[By]at TX;rw[<-hn2]at P3;rw[qT.out];have eT:=hid rI;have TX:=hid TX;have R2:=hid R2;have ST:=hid ST;have cE:=hid hk2;obtain⟨p0,di⟩:=aj (bJ N u);rw[di];have P2:=hid (fun j c h1 h2=>(P2.out j c h1 h2).trans (by rw[di]));clear hb hin hn hn2 hr By rI hk2 di P1;go_wp2_with fail
 go_loopw [30] (fun i wi=> ∃m:Nat,i= .int .i64 m/\m<=n/\Below w2.heap.size w2 wi/\Hid (∀j,j<m-> ∀c,Lt[j]? =some c->c=80::aoe (j:Int))) (fun i _=>n-(intOf i).toNat)
 ·exact⟨0,rfl,apL _,anM _ _,hid fun j hj=>absurd hj (Nat.not_lt_zero _)⟩
 obtain⟨m,rfl,hmn,E2,HH⟩:=hrel
 by_cases hlt:m<n
 ·obtain⟨c,hc⟩: ∃c,Lt[m]? =some c:=⟨_,am9 (by rw[<-eT.out];exact hlt)⟩
  have TT:=Own.below TX.out E2;have ix:=LJ TT (m:=m) (by unfold lC;rw[anL,<-eT.out];exact hlt) (by omega);have cl:=WY TT hc;have IT:=hid (fun w g=>yq (m:Int) (by omega) (by omega) w g);have tS:decide ((m:Int)<(n:Int))=true:=ah;have g2:=R2.out.g.below E2;have HC:=hid hc;obtain⟨q,hq⟩:=aj (aoe (m:Int));rw[hq]at IT;have HQ:=hid hq;have BT:q.length<=21:=by rw[<-hq];exact Lib.itoa_length_le _ (by omega) (by omega)
  have cc: ∀w,(Op.stringOp .add ⟨#[80]⟩ (tx q)).run prog w= .ok (.string (tx (80::q))) w:=wM [80] q ah;have E2:=hid E2;clear hc hq TT
  by_cases FK:c=80::q
  ·have y:=cmp_eq c
   have HE:=hid (show ∀j,j<m+1-> ∀c,Lt[j]? =some c->c=80::aoe (j:Int)from fun j hj d hd=>by
    by_cases e:j=m
    ·subst e
     rw[HC.out]at hd;rw[HQ.out,<-an4 hd];exact FK
    exact HH.out j (by omega) d hd)
   subst FK;go_wp2_with fail;refine(IT.out _ g2).mono ?_;rintro e w3 ⟨rfl,E3⟩;have E3:=aB E2.out E3;go_wp2_with fail
   go_roundw;exact⟨m+1,by go_num,by omega,E3,HE⟩;simp[intOf];omega
  have y:=Ru FK
  have P2:=hid (P2.out m c HC.out (by rw[HQ.out];exact FK));go_wp2_with fail;refine(IT.out _ g2).mono ?_;rintro e w3 ⟨rfl,E3⟩;have E3:=aB E2.out E3;go_wp2_with fail;refine(FL.out _ _ _ _).mono ?_;rintro e w4 ⟨rfl,E4⟩;have E:=hid (aB E3 E4);clear E3 E4;go_wp2_with fail;exact⟨rfl,.inl ⟨(R2.out.below E.out).bu,_,_,P2.out,rfl⟩⟩
 obtain rfl:m=n:=by omega
 have P3:=hid (P3.out (fun j hj=>HH.out j (by rw[eT.out];exact hj)));have tS:decide ((m:Int)<(m:Int))=false:=by simp
 have E2:=hid E2;have R3:=R2.out.below E2.out;have q6:=R3.bx.get 6 _ rfl;have Uo:=R3.dG 6;have UE:=R3.lt;rw[h0.1,h0.2.1,h0.2.2]at q6;have R3:=hid R3
 go_wp2_with (at_make;go_loud(refine OZ xI _ _ rfl rfl m rfl rfl rfl rfl (by omega) cz (anM wr.heap.size wr) (anb _) ?_))
 intro ac w5 o5 s5 B5;have R5:=R3.out.below B5;have q65:=R5.bx.get 6 _ rfl;have amE:=R5.dG 6;have we:=R5.lt;rw[h0.1,h0.2.1,h0.2.2]at q65;have R6:=R5.put 6 (.slice ac m m) (k':=k2) (t':={ t with ca:=ac,cc:=m,code:=aop m ⟨none,0,[]⟩ }) (by simp[wK,cT]) R5.le;have hsz:=ap1 R2.out.bu.size (anb _);have UL:w.heap.size<=w2.heap.size:=ST.out.grown.size;have C6:=hid (cL.kept (cL.mono (cL.new o5) (ap1 UL E2.out.size)) R6.2.grown (fun b hb=>by have:=HR.out.lt;simp at hb;omega));have S6:=hid ((ST.out.trans (aX (bw:=w1.heap.size) (aB E2.out B5))).trans R6.2);have B6:w2.heap.size<=(w5.setCell ⟨w1.heap.size,6,none⟩ (.slice ac m m)).heap.size:=ap1 E2.out.size (ap1 B5.size R6.2.grown.size);replace R6:=hid R6.1;have P6:=hid (show hp=jC t.af N ((s.drop k).length+1) (s.drop k2) ((aop m (⟨none,0,[]⟩:Cd)).map (·.l)) by rw[P3.out,cE.out,aqf])
 have hlk:(s.drop k2).length<=(s.drop k).length:=by
  have h1:=(yX u).length_le;have h2:=(kX (s.drop k)).length_le;rw[cE.out];rw[HU.out]at h2;omega
 have L6:=kq.new m k2;generalize aop m (⟨none,0,[]⟩:Cd)=C0 at*;generalize (s.drop k).length=fu at*;clear o5 s5 B5 R5 q6 Uo UE hsz;go_wp2_with fail;have RWA:=hid (fun(w:World) (k:Nat) (t:aG) (R:cM w1 w s k t)=>Yn R)
 go_loopw [8] (fun _ wi=> ∃(kk nn:Nat) (C:List Cd),Hid (hp=jC t.af N (nn+1) (s.drop kk) (C.map (·.l)))/\(s.drop kk).length<=nn/\Hid (cM w1 wi s kk { t with ca:=ac,cc:=m,code:=C })/\Hid (cL wi w.heap.size ac m C)/\Hid (St w wi w1.heap.size)/\w2.heap.size<=wi.heap.size/\kq C 0 kk) (fun _ wi=>N-(intOf ((wi.cell? ⟨w1.heap.size,1,none⟩).getD undef)).toNat)
 ·exact⟨k2,fu,C0,P6,hlk,R6,C6,S6,B6,L6⟩
 obtain⟨kk,nn,C,HP,hnn,RR,OC,SS,Kg,aak⟩:=hrel;have QC:=hid (RWA.out wr kk _ RR.out);obtain⟨v,hv⟩:=aj (ax (s.drop kk));have X1:=hid (fun h=>Y2 (af:=t.af) (N:=N) (n:=nn) (r:=s.drop kk) (acc:=C.map (·.l)) h);have X2:=hid (fun h h2=>Y1 (af:=t.af) (N:=N) (n:=nn) (r:=s.drop kk) (acc:=C.map (·.l)) h h2);have X3:=hid (fun h h2=>Y5 (af:=t.af) (N:=N) (n:=nn) (r:=s.drop kk) (acc:=C.map (·.l)) h h2);rw[hv]at QC X1 X2 X3;have jI:=OC.out.len;rw[anL,jI]at X2 X3;have HV:=hid hv;have Ir:=hid jI;have hkN:kk<=N:=by have:=RR.out.le;have:=qT.out;omega
 have fQ:=RR.out.bx.get 1 _ rfl;have Ed:=hid (show(wr.cell? ⟨w1.heap.size,1,none⟩).getD undef= .int .i64 kk by rw[fQ];rfl);clear hv jI;go_wp2_with fail;refine QC.out.mono ?_;rintro e w6 h;unfold Jb at h;rcases h with⟨hr,rfl,E⟩|⟨b,n2,A0,Xd,Na,k3,hr,hb,hin,hn,rfl,qn,AF,R7,xC,vu⟩
 ·have X1:=hid (X1.out hr)
  have E:=hid E;rw[qT.out];clear hr;go_wp2_with fail
  go_end0
  exact .inr ⟨C,s.drop kk,kk,ac,m,by rw[HP.out,X1.out],rfl,rfl,SS.out.trans (aX E.out),RR.out.below E.out,OC.out.below E.out⟩
 have FW:n2=(fh v).length:=hn.trans (Rn hb)
 have nX:=hid (cL.step OC.out AF HR.out.lt);have SS7:=hid (SS.out.trans AF);have adV:wr.heap.size<=w6.heap.size:=AF.grown.size;rw[qT.out]at hin⊢;obtain⟨p3,F5⟩:=aj (bJ N v);rw[F5]
 by_cases hne:n2=m
 ·obtain rfl:n2=m:=hne
  replace X3:=hid (X3.out hr FW.symm)
  have hrl:(bE v).length<(s.drop kk).length:=by
   obtain⟨z,hz⟩:=NQ hr;have h1:=YH hr;have h2:=(kX (s.drop kk)).length_le;rw[HV.out]at h2;omega
  have amK:k3<=N:=by have:=R7.le;have:=qT.out;omega
  have am0:N-k3<N-kk/\(s.drop k3).length<(s.drop kk).length:=by
   rw[<-qn]at hrl;refine⟨?_,hrl⟩;rw[aoN,aoN,qT.out]at hrl;omega
  obtain⟨z,hz⟩:=YV hr b;have hcb:=abb (af:=t.af) (N:=N) (M:=(aK v).dropLast) (u:=v) hb (C.map (·.l));obtain⟨Ls,TA⟩:=aj (aH 124 (b++(aK v).dropLast));rw[TA]at hz hcb xC vu hn;have UN:(b++v).length<=N:=by rw[aoW];exact hin
  obtain⟨x0,hx0⟩:=aj (b++v);rw[hx0]at hz hcb vu UN;obtain⟨pq,hpq⟩:=aj (dn t.af N (fh v) v (C.map (·.l)))
  have IE:=hid (show pq=KQ ((C.take 0).map (·.l)) (dn t.af N (Ls.drop 0) x0 ((C.drop 0).map (·.l))) by
   rw[<-hpq];show _=KQ [] _;rw[Qc];exact hcb.symm)
  rw[hpq]at X3;replace X3:=hid (X3.out.trans (show _=ZB t.af N nn (s.drop k3) pq by rw[qn]));have hLn:Ls.length=n2:=hn.symm;obtain⟨PP,FE⟩:=aj (nM N Ls x0);have xY:=Xx N Ls x0;rw[FE,hLn]at xY;rw[qT.out,FE]at vu;have iA:=hid (show PP.drop 0=nM N (Ls.drop 0) x0 from FE.symm);have Pb:((n2:Int) != (n2:Int))=false:=by simp
  replace xC:=hid (show Own w6 wr.heap.size 9 1 A0 n2 n2 (lC (Ls.map ak))from xC);replace vu:=hid vu;replace R7:=hid R7;have Ee:=hid hLn;have PM:=hid xY;have ua:=hid (show 0<n2->x0=jP (59::z) (Ls.drop 0)from fun _=>hz);generalize wr.heap.size=Bc at*;have hB6:w2.heap.size<=w6.heap.size:=ap1 Kg adV;clear hr hb hin hn FW qn AF F5 fQ hrl hcb TA hx0 hpq FE xY hLn hz X1 X2 RR OC SS Ir;go_wp2_with fail
  go_loopw [70] (fun i wi=> ∃(q:Nat) (C2:List Cd) (x:Tx),i= .int .i64 q/\q<=n2/\x.length<=N/\Hid (q<n2->x=jP (59::z) (Ls.drop q))/\Hid (pq=KQ ((C2.take q).map (·.l)) (dn t.af N (Ls.drop q) x ((C2.drop q).map (·.l))))/\Hid (PP.drop q=nM N (Ls.drop q) x)/\Hid (cM w1 wi s k3 { t with ca:=ac,cc:=n2,code:=C2 })/\Hid (cL wi w.heap.size ac n2 C2)/\Hid (Own wi Bc 9 1 A0 n2 n2 (lC (Ls.map ak)))/\Hid (iR wi Bc Xd n2 Na PP)/\Hid (St w wi w1.heap.size)/\w6.heap.size<=wi.heap.size/\kq C2 q kk) (fun i _=>n2-(intOf i).toNat)
  ·exact⟨0,C,x0,rfl,apL _,UN,ua,IE,iA,R7,nX,xC,vu,SS7,anb _,aak⟩
  obtain⟨q,C2,x,rfl,rK,Ga,HX,HQ,HD,RQ,OQ,TX,TP,SQ,xX,su⟩:=hrel;have jI:=OQ.out.len
  by_cases hlt:q<n2
  ·obtain⟨p,jL⟩: ∃p,Ls[q]? =some p:=⟨_,am9 (by rw[Ee.out];exact hlt)⟩
   obtain⟨d,r,hdr,yp,kR,Gb⟩:=Rm jL (HX.out hlt);obtain⟨y,oq⟩: ∃y,C2[q]? =some y:=⟨_,am9 (by rw[jI];exact hlt)⟩;obtain⟨cs1,vH⟩:=Rz oq;have hxl:x.length=p.length+1+r.length:=by rw[yp];simp;omega
   have vY:r.length<=N:=by omega
   have hpb:p.length<=262144:=by omega
   have hq:=HQ.out;rw[hdr,cs1]at hq;have hd:=HD.out;rw[hdr,nM,kR]at hd
   have qP:=hid (show PP.drop (q+1)=nM N (Ls.drop (q+1)) r by
    rw[<-apD,hd];rfl)
   have iB:=hid (show q+1<n2->r=jP (59::z) (Ls.drop (q+1))from fun h=>Gb (by rw[Ee.out];exact h));have ix:=LJ TX.out (m:=q) (by unfold lC;rw[anL,anL,Ee.out];exact hlt) (by omega);have hmp:(Ls.map ak)[q]? =some (ak p):=by rw[anA,jL];rfl
   have cl:=WY TX.out hmp;have tS:decide ((q:Int)<(n2:Int))=true:=ah;have F7:=jS p
   by_cases hb0:ak p=[]
   ·rw[hb0]at cl
    replace cl:wr.cell? ⟨bk A0,fo A0+q,none⟩=some (.string ⟨#[]⟩):=cl
    have pT:=hid (show pq=KQ ((C2.take (q+1)).map (·.l)) (dn t.af N (Ls.drop (q+1)) r ((C2.drop (q+1)).map (·.l))) by
     rw[hq,Qe hb0,kR,vH])
    clear jL hdr yp kR Gb oq cs1 vH hxl hq hd hmp hpb F7 hb0 HX HQ HD;go_wp2_with fail
    go_roundw;exact⟨q+1,C2,r,by go_num,by omega,vY,iB,pT,qP,RQ,OQ,TX,TP,SQ,xX,su.skip⟩;simp[intOf];omega
   obtain⟨ct,hct⟩:=aj (ak p)
   have zt:(tx ct).toList.isEmpty=false:=by
    rw[bh,<-hct];cases e:ak p with
    |nil=>exact absurd e hb0
    |cons a b=>rfl
   have adu:ct.length<=262144:=by rw[<-hct];omega
   have RI:=hid (fun w g=>ajj t.af ha ct w g);have q2:=RQ.out.bx.get 2 _ rfl;have gq:=RQ.out.g;have adO:=RQ.out.lt;rw[hct]at cl;cases hI:mM t.af (ak p)with
   | none=>
     have HE:=hid (show pq= .error (91,bJ N (ax x)) by rw[hq,Qa hb0 hI]);have hpl:=Xq (N:=N) (p:=p) (r:=r) (d:=d) hb0 (by rw[<-yp];exact Ga);rw[<-yp]at hpl
     have TN:PP[q]? =some ((bJ N (ax x):Nat):Int):=by
      have h1:(PP.drop q)[0]? =some ((bJ N (ax x):Nat):Int):=by
       rw[hd,List.getElem?_cons_zero,<-hpl]
       congr 1;omega
      rwa[ao5,ano]at h1
     have PN:=hid TN;rw[hct]at hI;rw[hI]at RI;obtain⟨pp,eC⟩:=aj (bJ N (ax x));rw[eC]at HE PN;clear jL hdr yp kR Gb oq cs1 vH hxl hq hd hmp hpb F7 hb0 hct hI hpl TN eC HX HQ HD iB qP;go_wp2_with fail;refine(RI.out _ gq).mono ?_;rintro e w7 h;obtain⟨rfl,E7⟩:e= .returned (.tuple #[vI ⟨0,0,0,0,0,[],[],0⟩,.int .i64 91])/\Below wr.heap.size wr w7:=h
     go_upto_region 19 with(fail)
     have EW:Below wr.heap.size wr (w7.alloc (.cells #[.int .i64 0,.int .i64 0,.int .i64 0,.int .i64 0,.int .i64 0,.string (tx []),.string (tx []),.int .i64 0] 50)):=aB E7 (al w7 _);generalize w7.alloc (.cells #[.int .i64 0,.int .i64 0,.int .i64 0,.int .i64 0,.int .i64 0,.string (tx []),.string (tx []),.int .i64 0] 50)=W at*;have TI:=(Own.ints (Own.below TP.out EW)).1;have TJ:q<PP.length:=by rw[PM.out];exact hlt
     have ip:=gU.idx TI Vq q TJ Na;rw[PM.out]at ip;have cp:=TI.cell q TJ;rw[(anx.1 PN.out).2]at cp;have EW:=hid EW;clear TI q2 gq;go_wp2_with fail;refine(FL.out _ _ _ _).mono ?_;rintro e w8 ⟨rfl,E8⟩;have E:=hid (aB EW.out E8);clear E8;go_wp2_with fail;exact⟨rfl,.inl ⟨(RQ.out.below E.out).bu,_,_,by rw[HP.out,X3.out,HE.out];rfl,rfl⟩⟩
   | some i=>
     have pT:=hid (show ∀a' c',pq=KQ (((C2.set q ⟨a',c',y.l++[i]⟩).take (q+1)).map (·.l)) (dn t.af N (Ls.drop (q+1)) r (((C2.set q ⟨a',c',y.l++[i]⟩).drop (q+1)).map (·.l)))from fun a' c'=>by
      rw[hq,Qd hb0 hI,kR,(Fe oq).1,(Fe oq).2])
     rw[hct]at hI;rw[hI]at RI;have mw:=hid oq;clear jL hdr yp kR Gb oq cs1 vH hxl hq hd hmp hpb F7 hb0 hct hI HX HQ HD;obtain⟨op,dd,aa,bb,ag,lo,la,fe⟩:=i;go_wp2_with fail;refine(RI.out _ gq).mono ?_;rintro e w7 h;obtain⟨rfl,E7⟩:e= .returned (.tuple #[vI ⟨op,dd,aa,bb,ag,lo,la,fe⟩,.int .i64 0])/\Below wr.heap.size wr w7:=h
     go_upto_region 21 with(fail)
     have XB:=aA.new w7 #[.int .i64 op,.int .i64 dd,.int .i64 aa,.int .i64 bb,.int .i64 ag,.string (tx lo),.string (tx la),.int .i64 fe] 50;have EW:Below wr.heap.size wr (w7.alloc (.cells #[.int .i64 op,.int .i64 dd,.int .i64 aa,.int .i64 bb,.int .i64 ag,.string (tx lo),.string (tx la),.int .i64 fe] 50)):=aB E7 (al w7 _);have BC:w7.heap.size≠w1.heap.size:=by have:=E7.size;omega
     have adq:=BC.symm;have adr:wr.heap.size<=w7.heap.size:=E7.size;generalize w7.alloc (.cells #[.int .i64 op,.int .i64 dd,.int .i64 aa,.int .i64 bb,.int .i64 ag,.string (tx lo),.string (tx la),.int .i64 fe] 50)=W at*;generalize w7.heap.size=b9 at*;have RW:=RQ.out.below EW;have OW:=hid (OQ.out.below EW);have QE:=hid (Own.below TX.out EW);have QD:=hid (Own.below TP.out EW);have SW:=hid (SQ.out.trans (aX (bw:=w1.heap.size) EW));obtain⟨x0',x1,x2,x3,x4,x5,x6,x7⟩:=XB.gJ;have q6:=RW.bx.get 6 _ rfl;simp only at q6;rw[jI]at q6;have Ll:=RW.lt;have hbW:=XB.1;have sC:=hid RW;obtain⟨y1,y2,iy⟩:=OW.out.cell mw.out;have eL:=sP y1;simp only at eL;have yo:w.heap.size<=W.heap.size:=SW.out.grown.size;have wo:y.l.length<=262144:=by have:=su.at mw.out;omega
     have H7:=hid (jt (eZ (anM W.heap.size W) (.cells #[.int .i64 op,.int .i64 dd,.int .i64 aa,.int .i64 bb,.int .i64 ag,.string (tx lo),.string (tx la),.int .i64 fe] 50)));have HY:=anw mw.out;have sy:=hid (Own.below (OW.out.own y HY) H7.out);have hac:w.heap.size<=bk ac:=(Own.lt OW.out.row (Own.some OW.out.row (by omega))).1;have adn:bk ac≠w1.heap.size:=by have:=HR.out.lt;omega
     have amv:=adn.symm
     have rE: ∀b,y.a.map (·.block)=some b->w1.heap.size<b:=fun b hb=>by
      cases e:y.a with
      |none=>rw[e]at hb;cases hb
      | some z=>
        have h1:=(Own.lt sy.out (by rw[e];simp)).1;rw[e]at hb h1;simp[bk]at hb h1;have:=HR.out.lt;omega
     have Im:=hid (show ∀a' c' w',Own w' w.heap.size 50 8 a' (y.l.length+1) c' (fD y.l++iC ⟨op,dd,aa,bb,ag,lo,la,fe⟩)->jF (W.alloc (.cells #[.int .i64 op,.int .i64 dd,.int .i64 aa,.int .i64 bb,.int .i64 ag,.string (tx lo),.string (tx la),.int .i64 fe] 50)).drew w' y.a y.c a' c'->
      (cM w1 (w'.setCell ⟨bk ac,fo ac+q,none⟩ (.slice a' (y.l.length+1) c')) s k3 { t with ca:=ac,cc:=n2,code:=C2.set q ⟨a',c',y.l++[⟨op,dd,aa,bb,ag,lo,la,fe⟩]⟩ }/\cL (w'.setCell ⟨bk ac,fo ac+q,none⟩ (.slice a' (y.l.length+1) c')) w.heap.size ac n2 (C2.set q ⟨a',c',y.l++[⟨op,dd,aa,bb,ag,lo,la,fe⟩]⟩)/\Own (w'.setCell ⟨bk ac,fo ac+q,none⟩ (.slice a' (y.l.length+1) c')) Bc 9 1 A0 n2 n2 (lC (Ls.map ak))/\iR (w'.setCell ⟨bk ac,fo ac+q,none⟩ (.slice a' (y.l.length+1) c')) Bc Xd n2 Na PP/\St w (w'.setCell ⟨bk ac,fo ac+q,none⟩ (.slice a' (y.l.length+1) c')) w1.heap.size/\W.heap.size<=(w'.setCell ⟨bk ac,fo ac+q,none⟩ (.slice a' (y.l.length+1) c')).heap.size)from fun a' c' w' ho hg=>by
      obtain⟨O9,s9⟩:=cL.put (OW.out.below H7.out) mw.out (i:=⟨op,dd,aa,bb,ag,lo,la,fe⟩) (by rw[Gf];exact ho) hg;have AG:=(Own.step (Own.below QE.out H7.out) hg.step (tE (Own.below QE.out H7.out) sy.out (by decide))).1;have QA:=(Own.step (Own.below QD.out H7.out) hg.step (tE (Own.below QD.out H7.out) sy.out (by decide))).1;have EK:=(Own.step (OW.out.below H7.out).row hg.step ((OW.out.below H7.out).far y HY)).1
      refine⟨cM.code (C:=C2) (((sC.out.below H7.out).kept hg.step.grown rE).kept s9.grown (fun b hb=>by
       cases ac with
       |none=>cases hb
       |some z=>simp[bk]at hb hac;have:=HR.out.lt;omega)) (by rw[apg]),O9,(Own.step AG s9 (tE AG EK (by decide))).1,(Own.step QA s9 (tE QA EK (by decide))).1,?_,?_⟩
      ·refine St.more (St.more (SW.out.trans (aX H7.out)) hg.step.grown (fun b hb=>?_)) s9.grown (fun b hb=>?_)
       ·cases e:y.a with
        |none=>rw[e]at hb;cases hb
        | some z=>
          have h1:=(Own.lt sy.out (by rw[e];simp)).1;rw[e]at hb h1;simp[bk]at hb h1;omega
       cases ac with
       |none=>cases hb
       |some z=>simp[bk]at hb hac;omega
      exact ap1 H7.out.size (ap1 hg.step.grown.size s9.grown.size))
     have FU: ∀b,y.a.map (·.block)=some b->b≠b9:=fun b hb=>by
      cases e:y.a with
      |none=>rw[e]at hb;cases hb
      | some z=>
        have h1:=(Own.lt (OQ.out.own y HY) (by rw[e];simp)).2;rw[e]at hb h1;simp[bk]at hb h1;omega
     have EH:=hid XB
     have adk:bk ac≠b9:=by
      have h1:=(Own.lt OQ.out.row (Own.some OQ.out.row (by omega))).2;omega
     have amr:=adk.symm;clear XB E7 EW RW q2 gq adO ix cl
     go_region_law
      ((refine Oi inl (.tmp 108) (.tmp 110) (by rfl) (by rfl) (B:=w.heap.size) (n:=y.l.length) (c:=y.c) (sa:=y.a) (xs:=fD y.l) (by rfl) sy.out (xa:=some ⟨W.heap.size,0,none⟩) (xc:=1) (m:=1) (ys:=iC ⟨op,dd,aa,bb,ag,lo,la,fe⟩) (by rfl) ((akg W ⟨op,dd,aa,bb,ag,lo,la,fe⟩ _).below (below_drewN _ 1)) (by rfl) (Vc _) (ap1 yo H7.out.size) (by omega) cz ?_
        intro a' c' w' ho hg;have qm:=hid hg;have vW:=hid ho;have R7:=(sC.out.below H7.out).kept hg.step.grown rE;have nX:=Own.step (OW.out.below H7.out).row hg.step (OW.out.far y HY);have XX:=R7.bx.get 6 _ rfl;simp only at XX;rw[jI]at XX;have y17:=(Fc nX.1 mw.out).1;have y27:=(Fc nX.1 mw.out).2;clear ho hg R7 nX))
     all_goals
      obtain⟨R9,sH,Jf,Je,S9,hs9⟩:=Im.out _ _ _ vW.out qm.out;have R9:=hid R9;have sH:=hid sH;have Jf:=hid Jf;have Je:=hid Je;have S9:=hid S9;have lJ:=hid (pT.out a' c');go_wp2_with fail
      go_roundw;exact⟨q+1,_,r,by go_num,by omega,vY,iB,lJ,qP,R9,sH,Jf,Je,S9,by omega,su.put mw.out _ _ _⟩;simp[intOf];omega
  obtain rfl:q=n2:=by omega
  have pT:=hid (show pq= .ok (C2.map (·.l)) by
   rw[HQ.out,anj (by rw[Ee.out];exact anb _),Qb,ap8 (by rw[jI];exact anb _),anj (by rw[jI];exact anb _)];simp)
  have HPF:=hid (show hp=jC t.af N ((nn-1)+1) (s.drop k3) (C2.map (·.l)) by
   rw[HP.out,X3.out,pT.out,show nn-1+1=nn by omega];rfl)
  have tS:decide ((q:Int)<(q:Int))=false:=by simp
  have adC:=RQ.out.bx.get 1 _ rfl;go_wp2_with fail
  go_roundw
  case rel=>exact⟨k3,nn-1,C2,HPF,by omega,RQ,OQ,SQ,by omega,su.all (by omega)⟩
  case measure=>
   have h1:(wr.cell? ⟨w1.heap.size,1,none⟩).getD undef= .int .i64 k3:=by rw[adC];rfl
   rw[h1];have h2:=Ed.out;rw[h2];simp[intOf];omega
 have Pb:((n2:Int) != (m:Int))=true:=by simpa using fun h=>hne (by omega)
 have X2:=hid (X2.out hr (by rw[<-FW];exact hne));rw[F5]at X2;have R7:=hid R7
 have adI:n2<=9223372036854775807:=by
  have:=(Own.cap xC).2.1;unfold maxLen at this;omega
 clear hr hb hn FW qn AF xC vu F5 fQ;go_wp2_with fail;refine(FL.out _ _ _ _).mono ?_;rintro e w8 ⟨rfl,E8⟩;have E:=hid E8;clear E8;go_wp2_with fail;exact⟨rfl,.inl ⟨(R7.out.below E.out).bu,_,_,by rw[HP.out,X2.out],rfl⟩⟩
theorem Own.st(h:Own w B E size a n c xs)(s:St w w' rb)(hr:rb<B):Own w' B E size a n c xs:=by
 refine Own.kept h s.grown ?_
 by_cases ha:a=none
 ·exact .inl ha
 have:=(Own.lt h ha).1
 right
 simp;omega
structure fX(w:World)(B:Nat)(t:aG):Prop where
 name:t.name.length<=262144
 bD:t.bD.length<=262144
 sm: ∀x∈t.init,ue x
 few:t.init.length<=1000000
 init:nY w B t.ia t.init.length t.ic t.init
 y8: ∀x∈t.code,∀i∈x.l,sM i
 qg:t.code.length<=1000000/\ ∀x∈t.code,x.l.length<=1000000
 code:cL w B t.ca t.cc t.code
 node:aZ w B t.node
 nd:(dL t.node).Nodup
section
variable {w w':World} {B:Nat} {t:aG}
theorem fX.lK(h:fX w B t):iT w t where
 name:=by have:=h.name;omega
 bD:=by have:=h.bD;omega
 init:=⟨Own.row h.init,by have:=h.few;omega⟩
 UX:=(Own.cap h.init).1
 rO:=fun x hx=>by obtain⟨-, -, a,b⟩:=h.sm x hx;exact⟨by omega,by omega⟩
 wide:=fun x hx=>by obtain⟨a,b,-, -⟩:=h.sm x hx;unfold mz;omega
 code:=⟨Own.row h.code.row,by have:=h.qg.1;omega⟩
 Rj:=by have:=h.code.len;omega
 rows:=fun x hx=>⟨⟨Own.row (h.code.own x hx),by have:=h.qg.2 x hx;omega⟩,(Own.cap (h.code.own x hx)).1,fun i hi=>by obtain⟨a,b⟩:=h.y8 x hx i hi;exact⟨by omega,by omega⟩⟩
 node:=h.node.lK
theorem fX.kept{r:Option Nat}(h:fX w B t)(hg:w.grownBy w' r)(hr: ∀b,r=an7 b->b<B):fX w' B t:=by
 refine⟨h.name,h.bD,h.sm,h.few,Own.kept h.init hg ?_,h.y8,h.qg,h.code.kept hg hr,h.node.kept hg fun b hb e=>?_,h.nd⟩
 ·by_cases ha:t.ia=none
  ·exact .inl ha
  have:=(Own.lt h.init ha).1
  right;intro e
  have:=hr _ e.symm;omega
 have:=(h.node.lt b hb).1
 have:=hr _ e.symm;omega
theorem fX.below(h:fX w B t)(hb:Below w.heap.size w w'):fX w' B t:=
 ⟨h.name,h.bD,h.sm,h.few,Own.below h.init hb,h.y8,h.qg,h.code.below hb,h.node.keep hb,h.nd⟩
theorem fX.mono{B':Nat}(h:fX w B t)(hB:B'<=B):fX w B' t:=
 ⟨h.name,h.bD,h.sm,h.few,Own.mono h.init hB,h.y8,h.qg,h.code.mono hB,h.node.mono hB,h.nd⟩
end
abbrev Pa:List Value:=[.int .i64 0,.string ⟨#[]⟩,.string ⟨#[]⟩,.slice none 0 0,.slice none 0 0,.int .i64 0,.int .i64 0,.int .i64 0,.int .i64 0,.string ⟨#[]⟩,.int .i64 0,.slice none 0 0]
abbrev kZ:Obj:=.cells #[.int .i64 0,.string ⟨#[]⟩,.string ⟨#[]⟩,.slice none 0 0,.slice none 0 0,.int .i64 0,.int .i64 0,.int .i64 0,.int .i64 0,.string ⟨#[]⟩,.int .i64 0,.slice none 0 0] 32
abbrev Ie:Value:=.agg #[.int .i64 0,.string ⟨#[]⟩,.string ⟨#[]⟩,.slice none 0 0,.slice none 0 0,.int .i64 0,.int .i64 0,.int .i64 0,.int .i64 0,.string ⟨#[]⟩,.int .i64 0,.slice none 0 0]
def t0:aG:=⟨0,[],[],none,0,[],none,0,[],0,.mk 0 ⟨0,0,[]⟩ 0 none 0 []⟩
abbrev DN:Obj:=.cells #[.int .i64 0] 33
abbrev aaf:Obj:=.cells #[.int .i64 0] 3
abbrev zL(w:World):World:=((w.alloc kZ).alloc DN).alloc aaf
theorem Ju(w:World):Below w.heap.size w (zL w):=bC
abbrev ai3(s:Tx):Obj:=.cells #[.string (tx s),.int .i64 0,.int .i64 0,.string ⟨#[]⟩,.string ⟨#[]⟩,.slice none 0 0,.slice none 0 0,.int .i64 0,.int .i64 0,.int .i64 0,.int .i64 0,.string ⟨#[]⟩,.int .i64 0,.slice none 0 0] 68
theorem cM.new(hs:s.length<=262144)(g:Gl w):cM w (w.alloc (ai3 s)) s 0 t0:=
 ⟨aqh w (e:=68) #[.string (tx s),.int .i64 0,.int .i64 0,.string ⟨#[]⟩,.string ⟨#[]⟩,.slice none 0 0,.slice none 0 0,.int .i64 0,.int .i64 0,.int .i64 0,.int .i64 0,.string ⟨#[]⟩,.int .i64 0,.slice none 0 0] 1 (anb w.heap.size) (size:=14) cz (by simp),al w _,g,hs,apL _⟩
theorem Z1{w4:World}(S:Below (zL w).heap.size (zL w) w4):aA w4 w.heap.size Pa/\w4.cell? ⟨w.heap.size+1,0,none⟩=some (.int .i64 0)/\w4.cell? ⟨w.heap.size+1+1,0,none⟩=some (.int .i64 0)/\(∀j,w4.frozen? ⟨w.heap.size,j,none⟩=false)/\(∀j,w4.frozen? ⟨w.heap.size+1,j,none⟩=false)/\(∀j,w4.frozen? ⟨w.heap.size+1+1,j,none⟩=false):=by
 have a1:=al w kZ;have a2:=al (w.alloc kZ) DN;have a3:=al ((w.alloc kZ).alloc DN) aaf;have b1:=(((aA.new w #[.int .i64 0,.string ⟨#[]⟩,.string ⟨#[]⟩,.slice none 0 0,.slice none 0 0,.int .i64 0,.int .i64 0,.int .i64 0,.int .i64 0,.string ⟨#[]⟩,.int .i64 0,.slice none 0 0] 32).below a2).below a3).below S;have b2:=((aA.new (w.alloc kZ) #[.int .i64 0] 33).below a3).below S;have b3:=(aA.new ((w.alloc kZ).alloc DN) #[.int .i64 0] 3).below S;have c2:=b2.get 0 _ rfl;have c3:=b3.get 0 _ rfl;simp only[cR]at c2 c3;refine⟨b1,c2,c3,fun j=>?_,fun j=>?_,fun j=>?_⟩
 ·rw[S.frozen (p:=⟨w.heap.size,j,none⟩) qw,a3.frozen (p:=⟨w.heap.size,j,none⟩) qw,a2.frozen (p:=⟨w.heap.size,j,none⟩) (by simp)]
  exact aV w _ _ j
 ·rw[S.frozen (p:=⟨w.heap.size+1,j,none⟩) qw,a3.frozen (p:=⟨w.heap.size+1,j,none⟩) (by simp)]
  have:=aV (w.alloc kZ) #[.int .i64 0] 33 j;rw[cR]at this;exact this
 rw[S.frozen (p:=⟨w.heap.size+1+1,j,none⟩) (by simp)]
 have:=aV ((w.alloc kZ).alloc DN) #[.int .i64 0] 3 j;rw[cR,cR]at this;exact this
def sL(p:EP aG)(w:World)(e:Ending)(w':World):Prop:=Below w.heap.size w w'/\match p with
 | .error (n,k)=>e= .returned (.tuple #[Ie,.int .i64 n,.int .i64 k])
 | .ok t=> ∃y,mA y=t/\e= .returned (.tuple #[vT y,.int .i64 0,.int .i64 0])/\fX w' w.heap.size y
theorem XS(h0:Below B w w5)(h3:aP w7 w8 (B+1+1))(h2:aP w6 w7 (B+1))(h1:aP w5 w6 B)(hB:B<=w5.heap.size):Below B w w8:=by
 have a1:=h0.grown h1.grown hB (fun r hr=>by simp at hr;omega);have a2:=a1.grown h2.grown (by rw[h1.size];exact hB) (fun r hr=>by simp at hr;omega);exact a2.grown h3.grown (by rw[h2.size,h1.size];exact hB) (fun r hr=>by simp at hr;omega)
theorem fX.yN{y:aG}(h0:fX w5 (B+3) y)(h3:aP w7 w8 (B+1+1))(h2:aP w6 w7 (B+1))(h1:aP w5 w6 B):fX w8 B y:=by
 have a1:=h0.kept h1.grown (fun r hr=>by simp at hr;omega);have a2:=a1.kept h2.grown (fun r hr=>by simp at hr;omega);exact(a2.kept h3.grown (fun r hr=>by simp at hr;omega)).mono (by omega)
theorem acX{y:aG}{e:Ending}(h0:Below w.heap.size w w5)(hO:fX w5 (w.heap.size+3) y)(hy:mA y=t)(he:e= .returned (.tuple #[vT y,.int .i64 0,.int .i64 0]))(h3:aP w7 w8 (w.heap.size+1+1))(h2:aP w6 w7 (w.heap.size+1))(h1:aP w5 w6 w.heap.size):sL (.ok t) w e w8:=
 ⟨XS h0 h3 h2 h1 h0.size,y,hy,he,hO.yN h3 h2 h1⟩
theorem acW{e:Ending}(h0:Below w.heap.size w w5)(he:e= .returned (.tuple #[Ie,.int .i64 er,.int .i64 k]))(h3:aP w7 w8 (w.heap.size+1+1))(h2:aP w6 w7 (w.heap.size+1))(h1:aP w5 w6 w.heap.size):sL (.error (er,k)) w e w8:=
 ⟨XS h0 h3 h2 h1 h0.size,he⟩
theorem Ra(h:fP s.length s= .error e):lz s.length s= .error e:=by
 unfold lz;rw[h];rfl
theorem Rb{n:Tx}{a:Int}(h:fP s.length s= .ok (a,n,r1))(h2:eH s.length r1= .error e):lz s.length s= .error e:=by
 unfold lz;rw[h];change (eH s.length r1 >>= _)=_;rw[h2];rfl
theorem Rc{n c:Tx}{a:Int}(h:fP s.length s= .ok (a,n,r1))(h2:eH s.length r1= .ok (c,r2))(h3:eM a s.length r2= .error e):lz s.length s= .error e:=by
 unfold lz;rw[h];change (eH s.length r1 >>= _)=_;rw[h2];change (eM a s.length r2 >>= _)=_;rw[h3];rfl
theorem Re{n c:Tx}{a:Int}(h:fP s.length s= .ok (a,n,r1))(h2:eH s.length r1= .ok (c,r2))(h3:eM a s.length r2= .ok (i,r3))(h4:eR a s.length r3= .error e):lz s.length s= .error e:=by
 unfold lz;rw[h];change (eH s.length r1 >>= _)=_;rw[h2];change (eM a s.length r2 >>= _)=_;rw[h3];change (eR a s.length r3 >>= _)=_;rw[h4];rfl
theorem Rf{n c r4:Tx}{a:Int}{l:List (List ay)}(h:fP s.length s= .ok (a,n,r1))(h2:eH s.length r1= .ok (c,r2))(h3:eM a s.length r2= .ok (i,r3))(h4:eR a s.length r3= .ok (l,r4))(h5:gL a s.length r4= .error e):lz s.length s= .error e:=by
 unfold lz;rw[h];change (eH s.length r1 >>= _)=_;rw[h2];change (eM a s.length r2 >>= _)=_;rw[h3];change (eR a s.length r3 >>= _)=_;rw[h4];change (gL a s.length r4 >>= _)=_;rw[h5];rfl
theorem rR(hl:s.length<=262144)(h:lz s.length s= .error e):fq s= .error e:=by
 unfold fq;rw[if_neg (by omega),h]
theorem Xp(hl:s.length<=262144)(h:lz s.length s= .ok t):fq s=if cQ t=0 then .ok t else .error (cQ t,0):=by
 unfold fq;rw[if_neg (by omega),h]
abbrev wL(s:Tx)(k:Nat)(er:Int)(bad:Nat)(t:aG):List Value:=.string (tx s):: .int .i64 k:: .int .i64 er:: .int .i64 bad::cT t
structure bW(w1 w:World)(s:Tx)(k:Nat)(er:Int)(bad:Nat)(t:aG):Prop where
 own:Own w w1.heap.size 71 16 (an7 ⟨w1.heap.size,0,none⟩) 1 1 (wL s k er bad t)
 bu:Below w1.heap.size w1 w
 gl:Gl w1
 sl:s.length<=262144
 le:k<=s.length+1
section
variable {w1 w:World} {s:Tx} {k:Nat} {er:Int} {bad:Nat} {t:aG}
theorem bW.bx(h:bW w1 w s k er bad t):aA w w1.heap.size (wL s k er bad t):=by
 refine⟨(Own.lt h.own (by simp)).2,fun j hj=>?_⟩;have:=(Own.row h.own).cell j hj;simpa using this
theorem bW.dG(h:bW w1 w s k er bad t)(j:Nat):w.frozen? ⟨w1.heap.size,j,none⟩=false:=by
 have:=Own.frozen h.own (by simp) j;simpa using this
theorem bW.below{w':World}(h:bW w1 w s k er bad t)(hb:Below w.heap.size w w'):bW w1 w' s k er bad t:=
 ⟨Own.below h.own hb,h.bu.trans (hb.mono h.bu.size),h.gl,h.sl,h.le⟩
theorem bW.kept{w':World}{r:Option Nat}(h:bW w1 w s k er bad t)(hg:w.grownBy w' r)(hr: ∀b,r=an7 b->w1.heap.size<b):bW w1 w' s k er bad t:=by
 refine⟨Own.kept h.own hg (.inr ?_),h.bu.grown hg h.bu.size (fun b hb=>Nat.le_of_lt (hr b hb)),h.gl,h.sl,h.le⟩;cases r with
 |none=>simp
 |some b=>have:=hr b rfl;simp;omega
theorem bW.g(h:bW w1 w s k er bad t):Gl w:=h.gl.below h.bu
theorem bW.lt(h:bW w1 w s k er bad t):w1.heap.size<w.heap.size:=(Own.lt h.own (by simp)).2
theorem bW.put(h:bW w1 w s k er bad t)(j:Nat)(v:Value){k':Nat}{fI:Int}{fH:Nat}{t':aG}(e:(wL s k er bad t).set j v=wL s k' fI fH t')(hk:k'<=s.length+1):bW w1 (w.setCell ⟨w1.heap.size,j,none⟩ v) s k' fI fH t'/\St w (w.setCell ⟨w1.heap.size,j,none⟩ v) w1.heap.size:=by
 obtain⟨o,st⟩:=Own.set h.own (by simp) j v;simp only[gv,gX,Nat.zero_add]at o st;rw[e]at o;exact⟨⟨o,h.bu.setCell (anb _) _,h.gl,h.sl,hk⟩,st⟩
theorem bW.cells(h:bW w1 w s k er bad t){rb:Nat}(hr:w1.heap.size=rb):w.cell? ⟨rb,4,none⟩=some (.int .i64 t.af)/\w.cell? ⟨rb,5,none⟩=some (.string (tx t.name))/\w.cell? ⟨rb,6,none⟩=some (.string (tx t.bD))/\w.cell? ⟨rb,7,none⟩=some (.slice t.ia t.init.length t.ic)/\w.cell? ⟨rb,8,none⟩=some (.slice t.ca t.code.length t.cc)/\w.cell? ⟨rb,9,none⟩=some (.int .i64 t.q)/\w.cell? ⟨rb,10,none⟩=some (.int .i64 t.node.kind)/\w.cell? ⟨rb,11,none⟩=some (.int .i64 t.node.th.thread)/\w.cell? ⟨rb,12,none⟩=some (.int .i64 t.node.th.az)/\w.cell? ⟨rb,13,none⟩=some (.string (tx t.node.th.loc))/\w.cell? ⟨rb,14,none⟩=some (.int .i64 t.node.val)/\w.cell? ⟨rb,15,none⟩=some (.slice t.node.a t.node.kids.length t.node.c):=by
 subst hr;exact⟨h.bx.get 4 _ rfl,h.bx.get 5 _ rfl,h.bx.get 6 _ rfl,h.bx.get 7 _ rfl,h.bx.get 8 _ rfl,h.bx.get 9 _ rfl,h.bx.get 10 _ rfl,h.bx.get 11 _ rfl,h.bx.get 12 _ rfl,h.bx.get 13 _ rfl,h.bx.get 14 _ rfl,h.bx.get 15 _ rfl⟩
end
abbrev ai4(s:Tx):Obj:=.cells #[.string (tx s),.int .i64 0,.int .i64 0,.int .i64 0,.int .i64 0,.string ⟨#[]⟩,.string ⟨#[]⟩,.slice none 0 0,.slice none 0 0,.int .i64 0,.int .i64 0,.int .i64 0,.int .i64 0,.string ⟨#[]⟩,.int .i64 0,.slice none 0 0] 71
theorem bW.new(hs:s.length<=262144)(g:Gl w):bW w (w.alloc (ai4 s)) s 0 0 0 t0:=
 ⟨aqh w (e:=71) #[.string (tx s),.int .i64 0,.int .i64 0,.int .i64 0,.int .i64 0,.string ⟨#[]⟩,.string ⟨#[]⟩,.slice none 0 0,.slice none 0 0,.int .i64 0,.int .i64 0,.int .i64 0,.int .i64 0,.string ⟨#[]⟩,.int .i64 0,.slice none 0 0] 1 (anb w.heap.size) (size:=16) cz (by simp),al w _,g,hs,apL _⟩
theorem Zd{a b:Nat}(h:s.drop a=u)(hab:a<=b):aW s a b=u.take (b-a):=by
 unfold aW;rw[aqd,h]
theorem qF{L:Tx}{p d:Nat}(h:(s.drop p).take n=L)(hd:d<=n):aW s (p+c) (p+d)=(L.take d).drop c:=by
 subst h;unfold aW;rw[List.take_take,Nat.min_eq_left hd,aqd,aqd,apD,show p+d-(p+c)=d-c by omega]
def uc(N:Nat)(s r:Tx)(e:Ending):Prop:=
 (ax r=[]/\e= .returned (.tuple #[.int .i64 N,.int .i64 N,.int .i64 N,.bool false]))\/
 ∃nx:Nat,ax r≠[]/\s.drop nx=bE (ax r)/\nx<=N+1/\e= .returned (.tuple #[.int .i64 (bJ N (ax r):Nat),.int .i64 (bJ N (ax r)+(aK (ax r)).length:Nat),.int .i64 nx,.bool true])
theorem Gq(u:Tx):u.take (aK u).length=aK u/\(aK u).length<=(u.takeWhile (· != 10)).length:=by
 obtain⟨b,h, -⟩:=mQ (u.takeWhile (· != 10));have h1:=(aoj (p:=(· != 10)) (l:=u)).symm;have h2:=congrArg anO h;rw[aoW]at h2;refine⟨?_,by unfold aK;omega⟩
 conv=>lhs;arg 2;rw[h1,h]
 unfold aK;rw[anZ,ap9]
theorem Bh(s:Tx)(k:Nat):s.drop (bJ s.length (ax (s.drop k)))=ax (s.drop k):=Bi (k:=k) (kX _)
theorem ZQ{tw:Tx}{c:UInt8}(h:r.takeWhile (· != c)=tw):r.take tw.length=tw:=by
 have h1:=aoj (p:=(· != c)) (l:=r);rw[h]at h1
 conv=>lhs;arg 2;rw[<-h1]
 rw[ap9]
theorem Da(R:bW w1 w s k er bad t):Calls prog 83 #[.pointer (some ⟨w1.heap.size,0,none⟩)] w (fun e w'=>uc s.length s (s.drop k) e/\Below w.heap.size w w'):=by
 obtain⟨c0,c1⟩:=R.bx.mB;have hl:=R.sl;have fQ:=R.le;have hrb:=R.lt;obtain⟨u,hu⟩:=aj (ax (s.drop k));have HU:=hid hu;obtain⟨n,hn⟩:=aj ((tx s).size);have HN:=hid (show n=s.length by rw[<-hn,aM]);have hnb:n<=262144:=by rw[HN.out];exact hl
 have hkn:k<=n+1:=by rw[HN.out];exact fQ
 have HL:=hid hl;generalize w1.heap.size=rb at*;clear hu hl fQ R;go_in;go_wp2_with fail
 go_loopw [6] (fun i wr=> ∃q:Nat,q<=n+1/\i= .int .i64 q/\Below w.heap.size w wr/\Hid (ax (s.drop q)=u)) (fun i _=>n+1-(intOf i).toNat)
 ·exact⟨k,hkn,rfl,anM _ _,HU⟩
 obtain⟨q,hq,rfl,E,HQ⟩:=hrel;have d0:=(E.cell hrb).trans c0
 by_cases hlt:q<n
 ·have zq:decide ((q:Int)<(n:Int))=true:=ah
  obtain⟨tw,yh⟩:=aj ((s.drop q).takeWhile (· != 10));obtain⟨j,h1,h2,h3,h4,h5⟩:=pK (· != 10) s _ q (anb _) (aI HN.out);rw[yh]at h5;obtain⟨x1,x2⟩:=VL (s.drop q);have hne:bE (s.drop q)=s.drop (j+1):=by rw[YG,yh,h5,apD];congr 1;omega
  rw[yh]at x1 x2
  have eK:aW s q j=tw:=by
   have:=qF (s:=s) (p:=q) (n:=tw.length) (c:=0) (d:=tw.length) (ZQ yh) (anb _);rw[ano,h5,ap8 (by omega),show q+(j-q)=j by omega]at this;exact this
  have SG:=hid (fun w=>Db s q j h1 h2 HL.out w);rw[eK]at SG;obtain⟨f,hf⟩:=aj (ax tw);rw[hf]at SG x1 x2;have hfl:f.length<=tw.length:=by rw[<-hf];exact mV tw
  have LA:=hid (show f≠[]-> ∀w,Calls prog 87 #[.string (tx s),.int .i64 (j-f.length:Nat),.int .i64 j] w fun e w'=>e= .returned (.int .i64 (j-f.length+(aK u).length:Nat))/\w=w' from fun h0 w=>by
   have h6:=Nk s (j-f.length) j (by omega) h2 HL.out w
   have h7:aW s (j-f.length) j=f:=by
    have:=qF (s:=s) (p:=q) (n:=tw.length) (c:=tw.length-f.length) (d:=tw.length) (ZQ yh) (anb _);rw[show q+(tw.length-f.length)=j-f.length by omega,show q+tw.length=j by omega,ap8 (anb _)]at this;rw[this,<-hf];exact(aqb.1 (apr _)).symm
   rw[h7]at h6;have h8:aK u=cr f:=by unfold aK;rw[<-HQ.out,(x2 h0).2.1]
   rw[h8];exact h6)
  have k8:=hid (show f≠[]->uc s.length s (s.drop k) (.returned (.tuple #[.int .i64 (j-f.length:Nat),.int .i64 (j-f.length+(aK u).length:Nat),.int .i64 ((j:Int)+1),.bool true]))from fun h0=>by
   obtain⟨y1,y2,y3,y4⟩:=x2 h0
   have hp:bJ s.length u=j-f.length:=by
    rw[HQ.out]at y4;rw[aoN]at y4;have:=HN.out;unfold bJ;omega
   refine .inr ⟨j+1,by rw[HU.out,<-HQ.out];exact y1,?_,by omega,?_⟩
   ·rw[HU.out,<-hne,<-HQ.out];exact y3.symm
   rw[HU.out,hp];rfl)
  have xw:=hid (show f=[]->ax (s.drop (j+1))=u from fun h0=>by rw[<-hne,x1 h0];exact HQ.out);have HS:=hid h3;have HE:=hid h4;have hjn:j<=n:=by rw[HN.out];exact h2
  have hfj:f.length<=j-q:=by omega
  clear h3 h4 h5 x1 x2 hne eK yh hf h2 HQ;obtain⟨fl,KR⟩:=aj f.length;have gC:f=[]<->fl=0:=by rw[<-KR];exact List.length_eq_zero_iff.symm
  rw[KR]at SG LA k8 hfj;have tW:=hid gC;clear gC hfl KR;go_wp2_with fail
  go_loopw [7] (fun i wi=> ∃p:Nat,q<=p/\p<=j/\i= .int .i64 p/\wi=wr) (fun i _=>j-(intOf i).toNat)
  ·exact⟨q,anb _,h1,rfl,gf⟩
  obtain⟨p,Lj,hpj,rfl,rfl⟩:=hrel
  by_cases hpl:p<j
  ·obtain⟨x,hx,gD⟩:=HS.out p Lj hpl
   have ix:=bB s p x hx;have zp:decide ((p:Int)<(n:Int))=true:=ah
   have zx:((x.toNat:Int) != 10)=true:=by
    have:=Fb (x:=x) (n:=10) (by decide) (by simpa using gD);simpa using this
   clear hx gD;go_wp2_with fail
   go_roundw;exact⟨p+1,by omega,by omega,by go_num,gf⟩;simp[intOf];omega
  obtain rfl:p=j:=by omega
  by_cases tj:p<n
  ·obtain⟨x,hx⟩: ∃x,s[p]? =some x:=⟨_,am9 (aI HN.out)⟩
   have ix:=bB s p x hx;have zp:decide ((p:Int)<(n:Int))=true:=ah
   have zx:((x.toNat:Int) != 10)=false:=by
    have:=HE.out x hx;have h10:x=10:=by simpa using this
    subst h10;rfl
   clear hx
   by_cases gC:fl=0
   ·have xw:=hid (xw.out (tW.out.2 gC))
    subst gC;have zl:decide (((p-0:Nat):Int)<(p:Int))=false:=by simp
    go_wp2_with (go_at_call 86;refine av (SG.out _) ?_)
    go_roundw;exact⟨p+1,by omega,by go_num,E,xw⟩;simp[intOf];omega
   have k8:=hid (k8.out (fun h=>gC (tW.out.1 h)))
   have LA:=hid (LA.out (fun h=>gC (tW.out.1 h)));have zl:decide (((p-fl:Nat):Int)<(p:Int))=true:=ah
   go_wp2_with (first|(go_at_call 86;refine av (SG.out _) ?_)|(go_at_call 87;refine av (LA.out _) ?_))
   exact bodyPost_ret (by simp[results,results83,go_sem]<;>rfl) rfl ⟨k8.out,E⟩
  have zp:decide ((p:Int)<(n:Int))=false:=ah
  by_cases gC:fl=0
  ·have xw:=hid (xw.out (tW.out.2 gC))
   subst gC;have zl:decide (((p-0:Nat):Int)<(p:Int))=false:=by simp
   go_wp2_with (go_at_call 86;refine av (SG.out _) ?_)
   go_roundw;exact⟨p+1,by omega,by go_num,E,xw⟩;simp[intOf];omega
  have k8:=hid (k8.out (fun h=>gC (tW.out.1 h)))
  have LA:=hid (LA.out (fun h=>gC (tW.out.1 h)));have zl:decide (((p-fl:Nat):Int)<(p:Int))=true:=ah
  go_wp2_with (first|(go_at_call 86;refine av (SG.out _) ?_)|(go_at_call 87;refine av (LA.out _) ?_))
  exact bodyPost_ret (by simp[results,results83,go_sem]<;>rfl) rfl ⟨k8.out,E⟩
 have zq:decide ((q:Int)<(n:Int))=false:=ah
 have k8:=hid (show uc s.length s (s.drop k) (.returned (.tuple #[.int .i64 n,.int .i64 n,.int .i64 n,.bool false]))from .inl ⟨by rw[HU.out,<-HQ.out,anj (aI HN.out)];rfl,by rw[HN.out]⟩);have d0:=(show(an5 wr).cell? ⟨rb,0,none⟩=some (.string (tx s))from d0);go_wp2_with fail
 go_big_region
 all_goals go_wp2_with fail
 all_goals exact bodyPost_ret (by simp[results,results83,go_sem]<;>rfl) rfl ⟨k8.out,jt E⟩
theorem yQ(R:bW w1 w s k er bad t)(n:Int)(at':Nat):Calls prog 84 #[.pointer (some ⟨w1.heap.size,0,none⟩),.int .i64 n,.int .i64 at'] w (fun e w'=>e= .returned (.bool false)/\bW w1 w' s k n at' t):=by
 have hrb:=R.lt;obtain⟨-, -, q2,q3⟩:=R.bx.AV;have f2:=R.dG 2;have f3:=R.dG 3;have R2:=R.put 2 (.int .i64 n) (k':=k) (fI:=n) (fH:=bad) (t':=t) rfl R.le;have R3:=hid (R2.1.put 3 (.int .i64 at') (k':=k) (fI:=n) (fH:=at') (t':=t) rfl R.le).1;clear R2 R;go_in;go_wp2;go_ret;exact⟨rfl,R3.out⟩
def va(p:Int × Nat)(w1 w':World)(s:Tx)(e:Ending):Prop:=e= .returned (.bool false)/\ ∃k t,bW w1 w' s k p.1 p.2 t
def Qu(p:EP (Int × Tx × Tx))(w1 w:World)(s:Tx)(t:aG)(e:Ending)(w':World):Prop:=
 (∃x,p= .error x/\va x w1 w' s e)\/
 ∃a n r1 k',p= .ok (a,n,r1)/\s.drop k'=r1/\e= .returned (.bool true)/\St w w' w1.heap.size/\bW w1 w' s k' 0 0 { t with af:=a,name:=n }
theorem MF{c:UInt8}:nb c=true<->aq c=false:=by unfold nb;cases aq c<;>simp
theorem alM{L:Tx}{p:Nat}(h:(s.drop p).take L.length=L)(hl:p+L.length<=s.length):
 aW s (p+(L.takeWhile nb).length) (p+L.length)=L.dropWhile nb/\aW s p (p+(L.takeWhile nb).length)=L.takeWhile nb/\(L.takeWhile nb).length<=L.length/\
  ∀j,j<=L.length->aW s (p+L.length-j) (p+L.length)=L.drop (L.length-j):=by
 have h1:=(aoj (p:=nb) (l:=L)).symm;have h2:=congrArg anO h1;rw[aoW]at h2;refine⟨?_,?_,by omega,fun j hj=>?_⟩
 ·rw[qF h (anb _),ap8 (anb _)]
  conv=>lhs;arg 2;rw[h1]
  rw[List.drop_left]
 ·have:=qF h (c:=0) (d:=(L.takeWhile nb).length) (by omega)
  rw[ano,ap0]at this;rw[this]
  conv=>lhs;arg 2;rw[h1]
  rw[ap9]
 have:=qF h (c:=L.length-j) (d:=L.length) (anb _)
 rw[ap8 (anb _)]at this;rw[<-this];congr 1;omega
theorem xD{L:Tx}{p i:Nat}{x:UInt8}(h:(s.drop p).take L.length=L)(hx:L[i]? =some x):s[p+i]? =some x:=by
 have hi:=(anx.1 hx).1;rw[<-h,List.getElem?_take_of_lt hi,ao5]at hx;exact hx
theorem aix(R:bW w1 w s k 0 0 t):Calls prog 32 #[.pointer (some ⟨w1.heap.size,0,none⟩)] w (Qu (fP s.length (s.drop k)) w1 w s t):=by
 have hl:=R.sl;have LN:=hid (Da R);have WR:=hid (fun(wx:World) (R:bW w1 wx s k 0 0 t) n a=>yQ R n a);have HR:=hid R;have BL:=hid (fun x w=>C9 x w);have hds:=Bh s k;have hsu:ax (s.drop k) <:+ s.drop k:=kX _;obtain⟨u,hu⟩:=aj (ax (s.drop k));have P1:=hid (fun h=>Ui (N:=s.length) (r:=s.drop k) h);have P2:=hid (fun x y h h2=>Ug (N:=s.length) (r:=s.drop k) (x:=x) (y:=y) h h2);have P3:=hid (fun x y a h h2=>Uj (N:=s.length) (r:=s.drop k) (x:=x) (y:=y) (a:=a) h h2);rw[hu]at P1 P2 P3 hds hsu;generalize fP s.length (s.drop k)=hp at*;go_in;go_wp2_with fail;refine LN.out.mono ?_;rintro e w2 ⟨hv,E2⟩;unfold uc at hv;rw[hu]at hv;rcases hv with⟨h0,rfl⟩|⟨nx,h0,iJ,vV,rfl⟩
 ·have P1:=hid (P1.out (by rw[h0];rfl))
  rw[h0]at P1;have P1:Hid (hp= .error (140,s.length)):=P1;have R2:=HR.out.below E2;clear hu h0 hds hsu;go_wp2_with fail;refine(WR.out _ R2 _ _).mono ?_;rintro e w9 ⟨rfl,RB⟩;go_wp2;go_ret;exact .inl ⟨_,P1.out,rfl,_,_,RB⟩
 obtain⟨L,hL⟩:=aj (aK u)
 obtain⟨p0,di⟩:=aj (bJ s.length u);have dN:u.length<=s.length:=by have:=hsu.length_le;rw[aoN]at this;omega
 have hpl:=Gq u;have htl:=(apv (l:=u) (· != 10)).length_le;rw[hL]at hpl P1 P2 P3;rw[di]at hds P1 P2;have tj:p0+u.length=s.length:=by rw[<-di];unfold bJ;omega
 have hat:(s.drop p0).take L.length=L:=by rw[hds];exact hpl.1
 have hto:p0+L.length<=s.length:=by omega
 obtain⟨s1,s2,s3,s4⟩:=alM hat hto;have hb0:s.length<=262144:=hl;rw[hL,di];obtain⟨j,r1,r2,r3,r4,r5⟩:=pK nb L _ 0 (anb _) (apL _);rw[ap0,Nat.sub_zero]at r5;rw[r5]at s1 s2 s3;obtain⟨M,hM⟩:=aj ((L.dropWhile nb).dropWhile aq);have HT:=hid (show qJ L=if M=[]\/M.any aq=true then none else some (L.takeWhile nb,M) by unfold qJ;dsimp only;rw[hM]);have SG:=hid (fun w=>Db s (p0+j) (p0+L.length) (by omega) hto hl w);rw[s1,show ax (L.dropWhile nb)=M from hM]at SG;have hMs:M <:+ L:=by rw[<-hM];exact(apr _).trans (apr _)
 have FD:=hMs.length_le;have Kq:L.drop (L.length-M.length)=M:=(aqb.1 hMs).symm;have BV:aW s (p0+L.length-M.length) (p0+L.length)=M:=by rw[s4 M.length FD,Kq]
 have HA:=hid (fun i x (hx:L[i]? =some x)=>xD hat hx);have sn:=hid (fun i x (hx:M[i]? =some x)=>xD (L:=L) (p:=p0) (i:=L.length-M.length+i) hat (by rw[<-ao5,Kq];exact hx));obtain⟨ll,dK⟩:=aj L.length;obtain⟨ml,hml⟩:=aj M.length;have qR:=hid dK;have Ef:=hid hml;rw[dK]at SG hto FD s3 sn;rw[dK];rw[hml]at SG FD sn;have c0:=(HR.out.below E2).bx.get 0 _ rfl;have R2:=hid (HR.out.below E2);have hj:j<=ll:=s3
 have hmj:ml<=ll-j:=by
  have a1:=(apr (l:=L.dropWhile nb) aq).length_le;have a2:=congrArg anO (aoj (p:=nb) (l:=L));rw[aoW]at a2;rw[hM]at a1;omega
 have hwd: ∀w,(anh 9 (.string (tx s)) (some (.int .i64 p0)) (some (.int .i64 (p0+j:Nat))) none).run prog w= .ok (.string (tx (L.takeWhile nb))) w:=by
  have:=jD s p0 (p0+j) (by omega) (by omega);rw[show(s.take (p0+j)).drop p0=L.takeWhile nb from s2]at this;exact this
 have hnm: ∀w,(anh 9 (.string (tx s)) (some (.int .i64 (p0+ll-ml:Nat))) (some (.int .i64 (p0+ll:Nat))) none).run prog w= .ok (.string (tx M)) w:=by
  have:=jD s (p0+ll-ml) (p0+ll) (by omega) (by omega);rw[show(s.take (p0+ll)).drop (p0+ll-ml)=M from by rw[<-dK,<-hml];exact BV]at this;exact this
 obtain⟨W,hW⟩:=aj (L.takeWhile nb);rw[hW]at hwd HT;have mc:=hid iJ;obtain⟨tt,qs⟩:=aj (p0+ll);obtain⟨J,hJ⟩:=aj (p0+j);obtain⟨m,hm⟩:=aj (tt-ml)
 have HS:=hid (show ∀q,p0<=q->q<J-> ∃x,s[q]? =some x/\aq x=false from fun q h6 h7=>by
  obtain⟨x,hx,hb⟩:=r3 (q-p0) (apL _) (by omega);have:=HA.out _ x hx;rw[show p0+(q-p0)=q by omega]at this;exact⟨x,this,MF.1 hb⟩)
 have HE:=hid (show J<tt-> ∃x,s[J]? =some x/\aq x=true from fun h6=>by
  obtain⟨x,hx⟩: ∃x,L[j]? =some x:=⟨_,am9 (by rw[dK];omega)⟩;have h7:=r4 x hx;have:=HA.out _ x hx;rw[hJ]at this;exact⟨x,this,by unfold nb at h7;simpa using h7⟩)
 obtain⟨jb,t1,t2,t3,t4,t5⟩:=pK nb M _ 0 (anb _) (apL _);rw[hml]at t2;obtain⟨JB,FB⟩:=aj (m+jb)
 have MS:=hid (show ∀q,m<=q->q<JB-> ∃x,s[q]? =some x/\aq x=false from fun q h6 h7=>by
  obtain⟨x,hx,hb⟩:=t3 (q-m) (apL _) (by omega);have:=sn.out _ x hx;rw[show p0+(ll-ml+(q-m))=q by omega]at this;exact⟨x,this,MF.1 hb⟩)
 have ME:=hid (show JB<tt-> ∃x,s[JB]? =some x/\aq x=true from fun h6=>by
  obtain⟨x,hx⟩: ∃x,M[jb]? =some x:=⟨_,am9 (by rw[hml];omega)⟩;have h7:=t4 x hx;have:=sn.out _ x hx;rw[show p0+(ll-ml+jb)=JB by omega]at this;exact⟨x,this,by unfold nb at h7;simpa using h7⟩)
 have MA:=hid (show M.any aq=true<->JB<tt from by
  constructor
  ·intro h
   obtain⟨y,hy,eL⟩:=an1.1 h;obtain⟨i,hi⟩:=anJ.1 hy
   by_cases hlt:jb<ml
   ·omega
   have hil:=(anx.1 hi).1
   rw[hml]at hil;obtain⟨z,hz,hzb⟩:=t3 i (apL _) (by omega);rw[hi]at hz;cases hz;rw[MF.1 hzb]at eL;cases eL
  intro h
  obtain⟨x,hx⟩: ∃x,M[jb]? =some x:=⟨_,am9 (by rw[hml];omega)⟩;refine an1.2 ⟨x,anw hx,?_⟩;have:=t4 x hx;unfold nb at this;simpa using this)
 rw[qs]at SG hnm;rw[qs];rw[hm]at SG hnm;rw[hJ]at SG hwd;have MZ:=hid (show M=[]<->m=tt from by rw[<-aqe,hml];omega);have Kj:p0<=J:=by omega
 have hJ2:J<=tt:=by omega
 have Tw:m<=JB:=by omega
 have amt:JB<=tt:=by omega
 have htn:tt<=262144:=by omega
 have hmt:m<=tt:=by omega
 clear hu h0 hds hsu hpl htl tj hat s1 s2 s3 s4 r1 r2 r3 r4 r5 hM hMs Kq BV hL di dN hW iJ dK hml t1 t2 t3 t4 t5 qs hJ hm FB HA sn qR Ef hj hmj FD hto;go_wp2
 go_loopw [7] (fun x wi=> ∃q:Nat,p0<=q/\q<=J/\x= .int .i64 q/\wi=w2) (fun x _=>J-(intOf x).toNat)
 ·exact⟨p0,anb _,Kj,rfl,gf⟩
 obtain⟨q,Lj,hq,rfl,rfl⟩:=hrel
 by_cases hlt:q<J
 ·obtain⟨x,hx,gD⟩:=HS.out q Lj hlt
  have ix:=bB s q x hx;have zk:decide ((q:Int)<(tt:Int))=true:=ah;have HB:=hid gD;clear hx gD
  go_wp2_with (go_at_call 85;refine av (BL.out x _) ?_;rw[HB.out])
  go_roundw;exact⟨q+1,by omega,by omega,by go_num,gf⟩;simp[intOf];omega
 obtain rfl:q=J:=by omega
 by_cases BT:q<tt
 ·obtain⟨x,hx,gD⟩:=HE.out BT
  have ix:=bB s q x hx;have zk:decide ((q:Int)<(tt:Int))=true:=ah;have HB:=hid gD;clear hx gD
  go_wp2_with (first|(go_at_call 86;refine av (SG.out _) ?_)|(go_at_call 85;refine av (BL.out x _) ?_;rw[HB.out]))
  go_loopw [9] (fun x wi=> ∃i:Nat,m<=i/\i<=JB/\x= .int .i64 i/\wi=wr) (fun x _=>JB-(intOf x).toNat)
  ·exact⟨m,anb _,Tw,rfl,gf⟩
  obtain⟨i,BI,hi,rfl,rfl⟩:=hrel
  by_cases bU:i<JB
  ·obtain⟨y,hy,eL⟩:=MS.out i BI bU
   have iy:=bB s i y hy;have zi:decide ((i:Int)<(tt:Int))=true:=ah;have HB:=hid eL;clear hy eL
   go_wp2_with (go_at_call 85;refine av (BL.out y _) ?_;rw[HB.out])
   go_roundw;exact⟨i+1,by omega,by omega,by go_num,gf⟩;simp[intOf];omega
  obtain rfl:i=JB:=by omega
  by_cases hil:i<tt
  ·obtain⟨y,hy,eL⟩:=ME.out hil
   have iy:=bB s i y hy;have zi:decide ((i:Int)<(tt:Int))=true:=ah;have HB:=hid eL;have P1:=hid (P1.out (by rw[HT.out,if_pos (.inr (MA.out.2 hil))]));clear hy eL
   go_wp2_with (first|(go_at_call 85;refine av (BL.out y _) ?_;rw[HB.out])|fail)
   refine(WR.out _ R2.out _ _).mono ?_;rintro e w9 ⟨rfl,RB⟩;go_wp2;go_ret;exact .inl ⟨_,P1.out,rfl,_,_,RB⟩
  have zi:decide ((i:Int)<(tt:Int))=false:=ah
  by_cases hm0:m=tt
  ·have P1:=hid (P1.out (by rw[HT.out,if_pos (.inl (MZ.out.2 hm0))]))
   have zm:((m:Int)==(tt:Int))=true:=ah;go_wp2_with fail;refine(WR.out _ R2.out _ _).mono ?_;rintro e w9 ⟨rfl,RB⟩;go_wp2;go_ret;exact .inl ⟨_,P1.out,rfl,_,_,RB⟩
  have gm:=hid (show qJ L=some (W,M) by
   rw[HT.out,if_neg];rintro(h|h)
   ·exact hm0 (MZ.out.1 h)
   exact absurd (MA.out.1 h) hil)
  have zm:((m:Int)==(tt:Int))=false:=ah;have R3:=R2.out;have hrb:=R3.lt;have uA:=R3.dG 1;have Um:=R3.dG 4;have Un:=R3.dG 5;obtain⟨-, q1,-, -, q4,q5⟩:=R3.bx.gw;have BN:nx<=s.length+1:=vV;have oQ:=hid (aX (bw:=w1.heap.size) E2)
  by_cases hx1:W=[88,56,54]
  ·subst hx1
   have zx:((tx [88,56,54]).toList==[88,56,54])=true:=by rw[bh];rfl
   have wZ:((tx [88,56,54]).toList==[82,73,83,67,86])=false:=by rw[bh];rfl
   have P3:=hid (P3.out _ _ 1 gm.out rfl);generalize tx [88,56,54]=ux at*;have R4:=(R3.put 4 (.int .i64 1) (k':=k) (fI:=0) (fH:=0) (t':={ t with af:=1 }) rfl R3.le);have R5:=(R4.1.put 5 (.string (tx M)) (k':=k) (fI:=0) (fH:=0) (t':={ t with af:=1,name:=M }) rfl R3.le);have R6:=(R5.1.put 1 (.int .i64 nx) (k':=nx) (fI:=0) (fH:=0) (t':={ t with af:=1,name:=M }) rfl BN);have ST:=hid (oQ.out.trans (R4.2.trans (R5.2.trans R6.2)));replace R6:=hid R6.1;clear R3 R4 R5 P1 P2;go_wp2;go_ret;exact .inr ⟨_,_,_,_,P3.out,mc.out,rfl,ST.out,R6.out⟩
  have zx:=cY _ _ hx1
  by_cases hx2:W=[82,73,83,67,86]
  ·subst hx2
   have wZ:((tx [82,73,83,67,86]).toList==[82,73,83,67,86])=true:=by rw[bh];rfl
   have P3:=hid (P3.out _ _ 2 gm.out rfl);generalize tx [82,73,83,67,86]=ux at*;have R4:=(R3.put 4 (.int .i64 1) (k':=k) (fI:=0) (fH:=0) (t':={ t with af:=1 }) rfl R3.le);have vp:=(R4.1.put 4 (.int .i64 2) (k':=k) (fI:=0) (fH:=0) (t':={ t with af:=2 }) rfl R3.le);have R5:=(vp.1.put 5 (.string (tx M)) (k':=k) (fI:=0) (fH:=0) (t':={ t with af:=2,name:=M }) rfl R3.le);have R6:=(R5.1.put 1 (.int .i64 nx) (k':=nx) (fI:=0) (fH:=0) (t':={ t with af:=2,name:=M }) rfl BN);have ST:=hid (oQ.out.trans (R4.2.trans (vp.2.trans (R5.2.trans R6.2))));replace R6:=hid R6.1;clear R3 R4 vp R5 P1 P2 hx1;go_wp2;go_ret;exact .inr ⟨_,_,_,_,P3.out,mc.out,rfl,ST.out,R6.out⟩
  have wZ:=cY _ _ hx2
  have P2:=hid (P2.out _ _ gm.out (by unfold vz;rw[if_neg hx1,if_neg hx2]));clear R3 hx1 hx2 P1 P3 q1 q4 q5;go_wp2_with fail;refine(WR.out _ R2.out _ _).mono ?_;rintro e w9 ⟨rfl,RB⟩;go_wp2;go_ret;exact .inl ⟨_,P2.out,rfl,_,_,RB⟩
 have zk:decide ((q:Int)<(tt:Int))=false:=ah
 have HB:Hid True:=trivial;have x:UInt8:=0
 go_wp2_with (first|(go_at_call 86;refine av (SG.out _) ?_)|(go_at_call 85;refine av (BL.out x _) ?_;rw[HB.out]))
 go_loopw [9] (fun x wi=> ∃i:Nat,m<=i/\i<=JB/\x= .int .i64 i/\wi=wr) (fun x _=>JB-(intOf x).toNat)
 ·exact⟨m,anb _,Tw,rfl,gf⟩
 obtain⟨i,BI,hi,rfl,rfl⟩:=hrel
 by_cases bU:i<JB
 ·obtain⟨y,hy,eL⟩:=MS.out i BI bU
  have iy:=bB s i y hy;have zi:decide ((i:Int)<(tt:Int))=true:=ah;have HB:=hid eL;clear hy eL
  go_wp2_with (go_at_call 85;refine av (BL.out y _) ?_;rw[HB.out])
  go_roundw;exact⟨i+1,by omega,by omega,by go_num,gf⟩;simp[intOf];omega
 obtain rfl:i=JB:=by omega
 by_cases hil:i<tt
 ·obtain⟨y,hy,eL⟩:=ME.out hil
  have iy:=bB s i y hy;have zi:decide ((i:Int)<(tt:Int))=true:=ah;have HB:=hid eL;have P1:=hid (P1.out (by rw[HT.out,if_pos (.inr (MA.out.2 hil))]));clear hy eL
  go_wp2_with (first|(go_at_call 85;refine av (BL.out y _) ?_;rw[HB.out])|fail)
  refine(WR.out _ R2.out _ _).mono ?_;rintro e w9 ⟨rfl,RB⟩;go_wp2;go_ret;exact .inl ⟨_,P1.out,rfl,_,_,RB⟩
 have zi:decide ((i:Int)<(tt:Int))=false:=ah
 by_cases hm0:m=tt
 ·have P1:=hid (P1.out (by rw[HT.out,if_pos (.inl (MZ.out.2 hm0))]))
  have zm:((m:Int)==(tt:Int))=true:=ah;go_wp2_with fail;refine(WR.out _ R2.out _ _).mono ?_;rintro e w9 ⟨rfl,RB⟩;go_wp2;go_ret;exact .inl ⟨_,P1.out,rfl,_,_,RB⟩
 have gm:=hid (show qJ L=some (W,M) by
  rw[HT.out,if_neg];rintro(h|h)
  ·exact hm0 (MZ.out.1 h)
  exact absurd (MA.out.1 h) hil)
 have zm:((m:Int)==(tt:Int))=false:=ah;have R3:=R2.out;have hrb:=R3.lt;have uA:=R3.dG 1;have Um:=R3.dG 4;have Un:=R3.dG 5;obtain⟨-, q1,-, -, q4,q5⟩:=R3.bx.gw;have BN:nx<=s.length+1:=vV;have oQ:=hid (aX (bw:=w1.heap.size) E2)
 by_cases hx1:W=[88,56,54]
 ·subst hx1
  have zx:((tx [88,56,54]).toList==[88,56,54])=true:=by rw[bh];rfl
  have wZ:((tx [88,56,54]).toList==[82,73,83,67,86])=false:=by rw[bh];rfl
  have P3:=hid (P3.out _ _ 1 gm.out rfl);generalize tx [88,56,54]=ux at*;have R4:=(R3.put 4 (.int .i64 1) (k':=k) (fI:=0) (fH:=0) (t':={ t with af:=1 }) rfl R3.le);have R5:=(R4.1.put 5 (.string (tx M)) (k':=k) (fI:=0) (fH:=0) (t':={ t with af:=1,name:=M }) rfl R3.le);have R6:=(R5.1.put 1 (.int .i64 nx) (k':=nx) (fI:=0) (fH:=0) (t':={ t with af:=1,name:=M }) rfl BN);have ST:=hid (oQ.out.trans (R4.2.trans (R5.2.trans R6.2)));replace R6:=hid R6.1;clear R3 R4 R5 P1 P2;go_wp2;go_ret;exact .inr ⟨_,_,_,_,P3.out,mc.out,rfl,ST.out,R6.out⟩
 have zx:=cY _ _ hx1
 by_cases hx2:W=[82,73,83,67,86]
 ·subst hx2
  have wZ:((tx [82,73,83,67,86]).toList==[82,73,83,67,86])=true:=by rw[bh];rfl
  have P3:=hid (P3.out _ _ 2 gm.out rfl);generalize tx [82,73,83,67,86]=ux at*;have R4:=(R3.put 4 (.int .i64 1) (k':=k) (fI:=0) (fH:=0) (t':={ t with af:=1 }) rfl R3.le);have vp:=(R4.1.put 4 (.int .i64 2) (k':=k) (fI:=0) (fH:=0) (t':={ t with af:=2 }) rfl R3.le);have R5:=(vp.1.put 5 (.string (tx M)) (k':=k) (fI:=0) (fH:=0) (t':={ t with af:=2,name:=M }) rfl R3.le);have R6:=(R5.1.put 1 (.int .i64 nx) (k':=nx) (fI:=0) (fH:=0) (t':={ t with af:=2,name:=M }) rfl BN);have ST:=hid (oQ.out.trans (R4.2.trans (vp.2.trans (R5.2.trans R6.2))));replace R6:=hid R6.1;clear R3 R4 vp R5 P1 P2 hx1;go_wp2;go_ret;exact .inr ⟨_,_,_,_,P3.out,mc.out,rfl,ST.out,R6.out⟩
 have wZ:=cY _ _ hx2
 have P2:=hid (P2.out _ _ gm.out (by unfold vz;rw[if_neg hx1,if_neg hx2]));clear R3 hx1 hx2 P1 P3 q1 q4 q5;go_wp2_with fail;refine(WR.out _ R2.out _ _).mono ?_;rintro e w9 ⟨rfl,RB⟩;go_wp2;go_ret;exact .inl ⟨_,P2.out,rfl,_,_,RB⟩
def Qq(p:EP (Tx × Tx))(w1 w:World)(s:Tx)(t:aG)(e:Ending)(w':World):Prop:=
 (∃x,p= .error x/\va x w1 w' s e)\/
 ∃c r1 k',p= .ok (c,r1)/\s.drop k'=r1/\e= .returned (.bool true)/\St w w' w1.heap.size/\bW w1 w' s k' 0 0 { t with bD:=c }
theorem afN{L:Tx}{c d:UInt8}(h:2<=L.length)(h1:L.head?=some c)(h2:L.getLast?=some d):L=c::((L.drop 1).dropLast++[d]):=by
 match L,h with
 | x::y::r,_=>
   have hx:x=c:=an4 h1;have e:(y::r)≠[]:=by simp
   rw[List.getLast?_cons_cons,aol e]at h2;have:=List.dropLast_concat_getLast e;have hd:=an4 h2;rw[<-hx,<-hd];show x::y::r=x::((y::r).dropLast++[(y::r).getLast e]);rw[this]
theorem Ov(M:Tx):ak M=cr (ax M):=by
 exact(Dv M).symm
theorem abj(M:Tx):(34::(M++[34]):Tx).count 34=2<->(34:UInt8)∉M:=by
 rw[List.count_cons,List.count_append];simp only[beq_self_eq_true,if_true];have h:List.count (34:UInt8) [34]=1:=by decide
 rw[h,<-List.count_eq_zero];omega
theorem aiv(R:bW w1 w s k 0 0 t)(uy:t.bD=[]):Calls prog 33 #[.pointer (some ⟨w1.heap.size,0,none⟩)] w (Qq (eH s.length (s.drop k)) w1 w s t):=by
 have hl:=R.sl;have LN:=hid (Da R);have WR:=hid (fun(wx:World) (R:bW w1 wx s k 0 0 t) n a=>yQ R n a);have HR:=hid R;have hds:=Bh s k;have hsu:ax (s.drop k) <:+ s.drop k:=kX _;obtain⟨u,hu⟩:=aj (ax (s.drop k));have Pz:=hid (Ws uy);have P1:=hid (fun h=>Sy (N:=s.length) (r:=s.drop k) h);have P2:=hid (fun h h2=>Sx (N:=s.length) (r:=s.drop k) h h2);have P3:=hid (fun h h2=>Sz (N:=s.length) (r:=s.drop k) h h2);rw[hu]at P1 P2 P3 hds hsu;generalize eH s.length (s.drop k)=hp at*;go_in;go_wp2_with fail;refine LN.out.mono ?_;rintro e w2 ⟨hv,E2⟩;unfold uc at hv;rw[hu]at hv;rcases hv with⟨h0,rfl⟩|⟨nx,h0,iJ,vV,rfl⟩
 ·have P1:=hid (P1.out (by rw[h0];simp[aK,cr]))
  have R2:=hid (show bW w1 w2 s k 0 0 { t with bD:=[] }from by rw[Pz.out];exact HR.out.below E2);have ST:=hid (aX (bw:=w1.heap.size) E2);clear hu h0 hds hsu;go_wp2_with fail;go_ret;exact .inr ⟨_,_,k,P1.out,rfl,rfl,ST.out,R2.out⟩
 obtain⟨L,hL⟩:=aj (aK u)
 obtain⟨p0,di⟩:=aj (bJ s.length u)
 obtain⟨c,hc⟩: ∃c,u.head?=some c:=by
  cases u with
  |nil=>exact absurd rfl h0
  |cons c r=>exact⟨c,rfl⟩
 have hcb:aq c=false:=je (l:=s.drop k) (p:=aq) (by rw[show(s.drop k).dropWhile aq=u from hu];exact hc);have nC:L.head?=some c:=by rw[<-hL];exact(Cn (b:=[]) hc hcb (by simp)).2.2
 have dN:u.length<=s.length:=by have:=hsu.length_le;rw[aoN]at this;omega
 have hpl:=Gq u;have htl:=(apv (l:=u) (· != 10)).length_le;rw[hL]at hpl P1 P2 P3;rw[di]at hds P2;have tj:p0+u.length=s.length:=by rw[<-di];unfold bJ;omega
 have hat:(s.drop p0).take L.length=L:=by rw[hds];exact hpl.1
 have hto:p0+L.length<=s.length:=by omega
 have hb0:s.length<=262144:=hl
 have Kl:1<=L.length:=by cases L with
  |nil=>cases nC
  |cons a b=>simp
 rw[hL,di];obtain⟨tt,qs⟩:=aj (p0+L.length);rw[qs];have htn:tt<=262144:=by omega
 have c0:=(HR.out.below E2).bx.get 0 _ rfl;have R2:=hid (HR.out.below E2);have Vu:=bB s p0 c (by have:=xD hat (i:=0) (x:=c) (by rw[<-List.head?_eq_getElem?];exact nC);simpa using this);have oQ:=hid (aX (bw:=w1.heap.size) E2)
 by_cases hq:c=34
 ·subst hq
  obtain⟨d,hd⟩: ∃d,L.getLast?=some d:=⟨_,aol (by intro h;rw[h]at Kl;simp at Kl)⟩;have ixl:=bB s (p0+(L.length-1)) d (xD hat (by rw[<-List.getLast?_eq_getElem?];exact hd));rw[show((p0+(L.length-1):Nat):Int)=(tt:Int)-1 by omega]at ixl;have z0:(((34:UInt8).toNat:Int) != 34)=false:=rfl;obtain⟨ll,dK⟩:=aj L.length
  by_cases h2:ll<2
  ·have P2:=hid (P2.out nC (.inl (by omega)))
   have z2:decide ((tt:Int)-(p0:Int)<2)=true:=ah;clear qs hu h0 hds hsu hpl htl tj hat hL di dN iJ dK hc hcb nC hd P1 P3;go_wp2_with fail;refine(WR.out _ R2.out _ _).mono ?_;rintro e w9 ⟨rfl,RB⟩;go_wp2_with fail;go_ret;exact .inl ⟨_,P2.out,rfl,_,_,RB⟩
  have z2:decide ((tt:Int)-(p0:Int)<2)=false:=ah
  by_cases KH:d=34
  ·subst KH
   have vS:=afN (by omega) nC hd;obtain⟨M,hM⟩:=aj ((L.drop 1).dropLast);rw[hM]at vS P3;have TB:M.length+2=ll:=by have:=congrArg anO vS;simp at this;omega
   have HC:=hid (show L.count 34=2<->(34:UInt8)∉M by rw[vS];exact abj M)
   have BV:aW s (p0+1) (p0+ll-1)=M:=by
    have:=qF hat (c:=1) (d:=ll-1) (by omega);rw[show p0+(ll-1)=p0+ll-1 by omega]at this;rw[this]
    conv=>lhs;arg 2;arg 2;rw[vS]
    rw[show ll-1=M.length+1 by omega,aoM,List.drop_one,List.tail_cons,ap9]
   have sn:=hid (show ∀i x,M[i]? =some x->s[p0+1+i]? =some x from fun i x hx=>by
    have h1:L[1+i]? =some x:=by
     rw[vS,Nat.add_comm,List.getElem?_cons_succ,List.getElem?_append_left (anx.1 hx).1];exact hx
    have:=xD hat h1;rw[<-Nat.add_assoc]at this;exact this)
   obtain⟨jb,t1,t2,t3,t4,t5⟩:=pK (· != 34) M _ 0 (anb _) (apL _);have MS:=hid t3;have ME:=hid t4
   have MA:=hid (show(34:UInt8)∈M<->jb<M.length from by
    constructor
    ·intro h
     obtain⟨i,hi⟩:=anJ.1 h
     by_cases hlt:jb<M.length
     ·exact hlt
     have hil:=(anx.1 hi).1
     obtain⟨z,hz,hzb⟩:=t3 i (apL _) (by omega);rw[hi]at hz;cases hz;exact absurd hzb (by decide)
    intro h
    obtain⟨x,hx⟩: ∃x,M[jb]? =some x:=⟨_,am9 h⟩;have:=t4 x hx;have h34:x=34:=by simpa using this
    rw[<-h34];exact anw hx)
   have SG:=hid (fun w=>Db s (p0+1) (p0+ll-1) (by omega) (by omega) hl w);rw[BV]at SG;have l5:=mV M;obtain⟨sl,Lp⟩:=aj ((ax M).length);rw[Lp]at SG l5
   have Lo:aW s (p0+ll-1-sl) (p0+ll-1)=ax M:=by
    have:=qF hat (c:=1+(M.length-sl)) (d:=ll-1) (by omega);rw[show p0+(ll-1)=p0+ll-1 by omega,show p0+(1+(M.length-sl))=p0+ll-1-sl by omega]at this;rw[this,<-apD]
    have h3:(L.take (ll-1)).drop 1=M:=by
     rw[vS,show ll-1=M.length+1 by omega,aoM,List.drop_one,List.tail_cons,ap9]
    rw[h3,<-Lp];exact(aqb.1 (apr _)).symm
   have LA:=hid (fun w=>Nk s (p0+ll-1-sl) (p0+ll-1) (by omega) (by omega) hl w);rw[Lo]at LA
   have hrl:(cr (ax M)).length<=sl:=by
    obtain⟨b,h, -⟩:=mQ (ax M);have:=congrArg anO h;rw[aoW]at this;omega
   have KG:aW s (p0+ll-1-sl) (p0+ll-1-sl+(cr (ax M)).length)=ak M:=by
    have h3:(s.drop (p0+ll-1-sl)).take sl=ax M:=by
     have:=Lo;unfold aW at this;rw[aqd,show p0+ll-1-(p0+ll-1-sl)=sl by omega]at this;exact this
    have:=qF h3 (c:=0) (d:=(cr (ax M)).length) hrl;rw[ano,ap0]at this;rw[this,Ov];obtain⟨b,h, -⟩:=mQ (ax M)
    conv=>lhs;arg 2;rw[h]
    rw[ap9]
   obtain⟨rl,UG⟩:=aj ((cr (ax M)).length);rw[UG]at LA hrl KG
   have slc: ∀w,(anh 9 (.string (tx s)) (some (.int .i64 (p0+ll-1-sl:Nat))) (some (.int .i64 (p0+ll-1-sl+rl:Nat))) none).run prog w= .ok (.string (tx (ak M))) w:=by
    have:=jD s (p0+ll-1-sl) (p0+ll-1-sl+rl) (by omega) (by omega);rw[show(s.take (p0+ll-1-sl+rl)).drop (p0+ll-1-sl)=ak M from KG]at this;exact this
   obtain⟨ml,hml⟩:=aj M.length;rw[hml]at TB t2 MA l5;have Ef:=hid hml;have zd:(((34:UInt8).toNat:Int) != 34)=false:=rfl;have Px:=hid nC;have qR:=hid dK;have Py:=hid (show ¬L.length<2 by omega);have xm:=hid hd;have mc:=hid iJ;have F7:p0+2<=tt:=by omega
   obtain⟨iq,KX⟩:=aj (p0+ll-1-sl);obtain⟨jq,rG⟩:=aj (iq+rl);rw[KX]at SG LA slc;rw[rG]at LA slc;rw[show((p0+1:Nat):Int)=(p0:Int)+1 by omega,show((p0+ll-1:Nat):Int)=(tt:Int)-1 by omega]at SG;rw[show((p0+ll-1:Nat):Int)=(tt:Int)-1 by omega]at LA;obtain⟨JB,FB⟩:=aj (p0+1+jb)
   have MS:=hid (show ∀q,p0+1<=q->q<JB-> ∃x,s[q]? =some x/\x≠34 from fun q h6 h7=>by
    obtain⟨x,hx,hb⟩:=t3 (q-(p0+1)) (apL _) (by omega);have:=sn.out _ x hx;rw[show p0+1+(q-(p0+1))=q by omega]at this;exact⟨x,this,by simpa using hb⟩)
   have ME:=hid (show JB+1<tt-> ∃x,s[JB]? =some x/\x=34 from fun h6=>by
    obtain⟨x,hx⟩: ∃x,M[jb]? =some x:=⟨_,am9 (by omega)⟩;have h7:=t4 x hx;have:=sn.out _ x hx;rw[FB]at this;exact⟨x,this,by simpa using h7⟩)
   have Qf:=hid (show(34:UInt8)∈M<->JB+1<tt from MA.out.trans (by omega));have Kj:p0+1<=JB:=by omega
   have hJ2:JB+1<=tt:=by omega
   clear qs hu h0 hds hsu hpl htl tj hat hL di dN iJ dK hc hcb nC hd P1 vS hM BV t1 t2 t3 t4 t5 Lp Lo KG UG hml MA sn KX rG FB Ef TB hto h2;go_wp2_with fail
   go_loopw [7] (fun x wi=> ∃i:Nat,p0+1<=i/\i<=JB/\x= .int .i64 i/\wi=w2) (fun x _=>JB-(intOf x).toNat)
   ·exact⟨p0+1,anb _,Kj,by go_num,gf⟩
   obtain⟨i,BI,hi,rfl,rfl⟩:=hrel
   by_cases bU:i<JB
   ·obtain⟨y,hy,eL⟩:=MS.out i BI bU
    have iy:=bB s i y hy;have zi:decide ((i:Int)<(tt:Int)-1)=true:=ah;have zy:((y.toNat:Int)==34)=false:=Fb (x:=y) (n:=34) (by decide) eL;clear hy eL;go_wp2_with fail
    go_roundw;exact⟨i+1,by omega,by omega,by go_num,gf⟩;simp[intOf];omega
   obtain rfl:i=JB:=by omega
   by_cases hil:i+1<tt
   ·obtain⟨y,hy,eL⟩:=ME.out hil
    have iy:=bB s i y hy;have zi:decide ((i:Int)<(tt:Int)-1)=true:=ah;have zy:((y.toNat:Int)==34)=true:=aa6 (x:=y) (n:=34) (by decide) eL;have P2:=hid (P2.out Px.out (.inr (.inr (fun h=>(HC.out.1 h) (Qf.out.2 hil)))));clear hy eL;go_wp2_with fail;refine(WR.out _ R2.out _ _).mono ?_;rintro e w9 ⟨rfl,RB⟩;go_wp2_with fail;go_ret;exact .inl ⟨_,P2.out,rfl,_,_,RB⟩
   have zi:decide ((i:Int)<(tt:Int)-1)=false:=ah
   have P3:=hid (P3.out Px.out (by
    rintro(h|h|h)
    ·have:=Py.out;omega
    ·exact h xm.out
    exact h (HC.out.2 (fun m=>hil (Qf.out.1 m)))))
   go_wp2_with (go_at_call 86;refine av (SG.out _) ?_)
   have R3:=(show bW w1 (an5 _) s k 0 0 t from R2.out.below (below_drewN _ 1));have RW:=R2.out;have hrb:=R3.lt;have uA:=R3.dG 1;have Uo:=R3.dG 6;obtain⟨c0,q1,-, -, -, -, q6⟩:=R3.bx.lA;have hg1:=RW.dG 1;have hg6:=RW.dG 6;obtain⟨-, r1,-, -, -, -, r6⟩:=RW.bx.lA;have R4:=(RW.put 6 (.string (tx (ak M))) (k':=k) (fI:=0) (fH:=0) (t':={ t with bD:=ak M }) rfl RW.le);have R5:=(show bW w1 (an5 _) s k 0 0 { t with bD:=ak M }from R4.1.below (below_drewN _ 1));have R6:=(R5.put 1 (.int .i64 nx) (k':=nx) (fI:=0) (fH:=0) (t':={ t with bD:=ak M }) rfl vV);have ST:=hid (oQ.out.trans (R4.2.trans ((aX (bw:=w1.heap.size) (below_drewN _ 1)).trans R6.2)));replace R6:=hid R6.1;clear R3 R4 RW R5;have hw:IntKind.i64.wrap ((tt:Int)-1)=(tt:Int)-1:=by unfold IntKind.wrap;simp[IntKind.bits,IntKind.signed];omega
   go_region_with (go_at_call 87;refine av (LA.out _) ?_)
   all_goals go_wp2_with fail
   all_goals go_ret
   all_goals exact .inr ⟨_,_,nx,P3.out,mc.out,rfl,ST.out,R6.out⟩
  have zd:((d.toNat:Int) != 34)=true:=by have:=Fb (x:=d) (n:=34) (by decide) KH;simpa using this
  have P2:=hid (P2.out nC (.inr (.inl (by rw[hd];intro h;cases h;exact KH rfl))));clear qs hu h0 hds hsu hpl htl tj hat hL di dN iJ dK hc hcb nC hd P1 P3;go_wp2_with fail;refine(WR.out _ R2.out _ _).mono ?_;rintro e w9 ⟨rfl,RB⟩;go_wp2_with fail;go_ret;exact .inl ⟨_,P2.out,rfl,_,_,RB⟩
 have P1:=hid (P1.out (by rw[nC];intro h;cases h;exact hq rfl))
 have z0:((c.toNat:Int) != 34)=true:=by have:=Fb (x:=c) (n:=34) (by decide) hq;simpa using this
 have R3:=hid (show bW w1 w2 s k 0 0 { t with bD:=[] }from by rw[Pz.out];exact R2.out);clear qs hu h0 hds hsu hpl htl tj hat hL di dN iJ hc hcb nC hto;go_wp2_with fail;go_ret;exact .inr ⟨_,_,k,P1.out,rfl,rfl,oQ.out,R3.out⟩
end Go.Proofs.YtkbbgjloifmmbaaGreatDoor
