/- What ReadPiecesP leans on, part 22. -/
import Derived.Test.YtkbbgjloifmmbaaGreatDoorRp21
set_option linter.unusedVariables false
set_option maxRecDepth 100000
set_option maxHeartbeats 6400000
namespace Go.Proofs.YtkbbgjloifmmbaaGreatDoor
open Go.RowKit Go.Sort
theorem isl9:ElT Tryz.prog 41 3 (.int .i64 0) 1 8:=⟨Tryz.underlying41,by kernel_rfl,rfl,by decide⟩
theorem txl9:ElT Tryz.prog 42 9 (.string ByteArray.empty) 1 16:=⟨Tryz.underlying42,by kernel_rfl,rfl,by decide⟩
def plX(N:Nat):List Tx->Tx->List Int
 |[],_=>[]
 |c::L,x=>((N:Int)-(x.length:Nat)+((c.length-(sgnL c).length:Nat):Int))::plX N L (x.drop (c.length+1))
theorem plX_length(N:Nat): ∀(L:List Tx) (x:Tx),(plX N L x).length=L.length
 |[],_=>rfl
 |c::L,x=>by rw[plX,List.length_cons,plX_length N L];rfl
def cellV(l:List Tx):List Value:=l.map fun x=>Value.string (tx x)
def partsB(W:Tx):List Tx->Tx
 |[]=>W
 |[p]=>p++W
 |p::L=>p++124::partsB W L
theorem partsB_split(W:Tx): ∀A:Tx,partsB W (splitC 124 A)=A++W
 |[]=>rfl
 | c::A=>by
   have ih:=partsB_split W A;cases h:c==124 with
   | true=>
     obtain rfl:c=124:=by simpa using h
     rw[splitC,if_pos h];cases e:splitC 124 A with
     |nil=>exact absurd e (splitC_ne 124 A)
     |cons x t=>rw[e]at ih;show[]++124::partsB W (x::t)=_;rw[ih];rfl
   | false=>
     rw[splitC,if_neg (by rw[h];decide)];cases e:splitC 124 A with
     |nil=>exact absurd e (splitC_ne 124 A)
     | cons x t=>
       rw[e]at ih;cases t with
       |nil=>show(c::x)++W=_;rw[show c::A++W=c::(A++W)from rfl,<-ih];rfl
       |cons y t=>show(c::x)++124::partsB W (y::t)=_;rw[show c::A++W=c::(A++W)from rfl,<-ih];rfl
theorem partsB_cons(W p:Tx)(L:List Tx)(hW:W≠[]): ∃d r,partsB W (p::L)=p++d::r/\(L≠[]->r=partsB W L):=by
 cases L with
 | nil=>
   cases W with
   |nil=>exact absurd rfl hW
   |cons d r=>exact⟨d,r,rfl,fun h=>absurd rfl h⟩
 |cons x L=>exact⟨124,partsB W (x::L),rfl,fun _=>rfl⟩
theorem cur_set(f:Tx->Tx): ∀(L:List Tx) (m:Nat) (c:Tx),L[m]? =some c->((L.take m).map f++L.drop m).set m (f c)=(L.take (m+1)).map f++L.drop (m+1)
 |[],m,c,h=>by cases h
 | d::L,0,c,h=>by
   obtain rfl:d=c:=by simpa using h
   rfl
 | d::L,m+1,c,h=>by
   have ih:=cur_set f L m c (by simpa using h);show f d::((L.take m).map f++L.drop m).set m (f c)=f d::((L.take (m+1)).map f++L.drop (m+1));rw[ih]
theorem cur_get(f:Tx->Tx): ∀(L:List Tx) (m:Nat) (c:Tx),L[m]? =some c->((L.take m).map f++L.drop m)[m]? =some c
 |[],m,c,h=>by cases h
 |d::L,0,c,h=>h
 | d::L,m+1,c,h=>by
   have ih:=cur_get f L m c (by simpa using h);show((L.take m).map f++L.drop m)[m]? =some c;exact ih
theorem rdr_mid(A X:Tx)(d:UInt8)(hd:blankC d=false):rdr (A++d::X)=A++d::rdr X:=by
 unfold rdr;rw[List.reverse_append,List.reverse_cons,List.append_assoc,List.dropWhile_append]
 by_cases h:(X.reverse.dropWhile blankC).isEmpty
 ·rw[if_pos h]
  have h2:X.reverse.dropWhile blankC=[]:=by simpa using h
  rw[h2];simp[hd]
 ·rw[if_neg h];simp
theorem line_cut{u b:Tx}{c:UInt8}(hu:u.head?=some c)(hc:blankC c=false):rdr (b++u.takeWhile (· != 10))=b++lineL u/\lineL u≠[]/\ ∃z,u=lineL u++z:=by
 cases u with
 |nil=>cases hu
 | cons d r=>
   obtain rfl:d=c:=by simpa using hu
   have h10:(d != 10)=true:=by
    rw[bne_iff_ne];rintro rfl;revert hc;decide
   obtain⟨y,hy,hyb⟩:=rdr_app (r.takeWhile (· != 10));have e2: ∀A:Tx,rdr (A++d::r.takeWhile (· != 10))=A++d::rdr (r.takeWhile (· != 10)):=fun A=>rdr_mid A _ d hc
   have e1:lineL (d::r)=d::rdr (r.takeWhile (· != 10)):=by
    unfold lineL;rw[List.takeWhile_cons_of_pos (p:=fun x=>x != 10) h10];exact e2 []
   refine⟨?_,by rw[e1];simp,y++r.dropWhile (· != 10),?_⟩
   ·rw[List.takeWhile_cons_of_pos (p:=fun x=>x != 10) h10,e2,e1]
   ·rw[e1,List.cons_append,<-List.append_assoc,<-hy,List.takeWhile_append_dropWhile]
theorem cellV_length(L:List Tx)(m:Nat):(cellV ((L.take m).map trimT++L.drop m)).length=L.length:=by
 unfold cellV;simp;omega
theorem cell_cur{w:World}{B n c m:Nat}{a:Option Addr}{L:List Tx}{p:Tx}(h:Own w B 9 1 a n c (cellV ((L.take m).map trimT++L.drop m)))(hp:L[m]? =some p):w.cell? ⟨bk a,fo a+m,none⟩=some (.string (tx p)):=by
 have:=(Own.row h).cell m (by rw[cellV_length];exact(List.getElem?_eq_some_iff.1 hp).1);rw[this];unfold cellV;rw[List.getElem?_map,cur_get trimT L m p hp];rfl
theorem idx9{w:World}{B n c m:Nat}{a:Option Addr}{l:List Value}(h:Own w B 9 1 a n c l)(hm:m<l.length)(hn:n<=1000000000): ∀c w',(Instr.indexAt 42 (.slice a n c) (.int .i64 m)).run Tryz.prog w'= .ok (.pointer (some ⟨bk a,fo a+m,none⟩)) w':=by
 intro c;have hl:l.length=n:=by have:=h.1;omega
 have:=run_idx (c:=c) (n:=n) (m:=1) (Own.row h) txl9.und txl9.cells txl9.isSome (by omega) (by omega) m (by omega) .i64;simpa using this
def RetRow(u:Tx)(w1 w:World)(s:Tx)(t:Tst)(e:Ending)(w':World):Prop:=
 (rowB u=false/\e= .returned (.tuple #[.slice none 0 0,.slice none 0 0,.int .i64 (plc s.length u),.bool false])/\Below w.heap.size w w')\/
 ∃b n ca pa pc k',rowB u=true/\(∀c∈b,blankC c=true)/\b.length+u.length<=s.length/\n=(splitC 124 (b++(lineL u).dropLast)).length/\e= .returned (.tuple #[.slice ca n n,.slice pa n pc,.int .i64 (plc s.length u),.bool true])/\s.drop k'=restL u/\St w w' w1.heap.size/\RdS w1 w' s k' t/\Own w' w.heap.size 9 1 ca n n (cellV ((splitC 124 (b++(lineL u).dropLast)).map trimT))/\OwnI w' w.heap.size pa n pc (plX s.length (splitC 124 (b++(lineL u).dropLast)) (b++u))
theorem readRow{w1 w:World}{s:Tx}{k:Nat}{t:Tst}(R:RdS w1 w s k t):Calls Tryz.prog 81 #[.pointer (some ⟨w1.heap.size,0,none⟩)] w (RetRow (sgnL (s.drop k)) w1 w s t):=by
 have c0:=R.bx.get 0 _ rfl;have c1:=R.bx.get 1 _ rfl;have hl:=R.sl;have PK:=hid (readPeek s w1.heap.size k R.le R.sl w c0 c1);have HR:=hid R;have HG:=hid R.g;obtain⟨u,hu⟩: ∃u,sgnL (s.drop k)=u:=⟨_,rfl⟩;rw[hu];obtain⟨N,hN⟩: ∃N,s.length=N:=⟨_,rfl⟩;have hN2:N<=262144:=by omega
 have HNs:=hid hN;clear c0 c1 hl;go_enter Tryz.func81,Tryz.ntmps81;go_wp2_with fail;refine PK.out.mono ?_;rintro e w2 ⟨hv,E2⟩;unfold PeekV at hv;rw[hu,hN]at hv;rcases hv with⟨h0,rfl⟩|⟨b,h0,hb,h10,hbl,rfl⟩
 ·have TR:=hid (fun w=>trimRight_any [] (by simp) w)
  have TR:=hid (fun w=>(show Ret w (.string (tx (rdr [])))=Ret w (.string ⟨#[]⟩)from rfl)▸TR.out w);have HZ:=hid (show rowB u=false/\plc s.length u=N from by rw[h0,hN];exact⟨rfl,rfl⟩);have E2:=hid E2;clear hu h0 hN;go_wp2_with fail;refine(TR.out _).mono ?_;rintro e w3 ⟨rfl,E3⟩;have E:=hid (ext_trans E2.out E3);clear E3;go_wp2_with fail;refine bodyPost_ret (v:=.tuple #[.slice none 0 0,.slice none 0 0,.int .i64 (N:Nat),.bool false]) (by simp[results,Tryz.results81,go_sem]) rfl ?_;refine .inl ⟨HZ.out.1,by rw[HZ.out.2],E.out⟩
 ·obtain⟨c,hc⟩: ∃c,u.head?=some c:=by
   cases u with
   |nil=>exact absurd rfl h0
   |cons c r=>exact⟨c,rfl⟩
  have hcb:blankC c=false:=head_dropWhile (l:=s.drop k) (p:=blankC) (by rw[show(s.drop k).dropWhile blankC=u from hu];exact hc);obtain⟨q1,q2,z,q3⟩:=line_cut (b:=b) hc hcb;have hul:u.length<=N:=by rw[<-hu];have:=(sgn_suf' (s.drop k)).length_le;have:=List.length_drop (i:=k) (l:=s);omega
  have hin:b.length+u.length<=N:=by unfold plc at hbl;omega
  have hlen:(b++u.takeWhile (· != 10)).length<=262144:=by have:=takeWhile_le (· != 10) u;rw[List.length_append];omega
  have TR:=hid (fun w=>trimRight_any (b++u.takeWhile (· != 10)) (by omega) w);rw[q1]at TR;have hzl:u.length=(lineL u).length+z.length:=by rw[congrArg List.length q3];simp
  have SF:=hid (fun w=>suffix_any (b++lineL u) 59 (by rw[List.length_append];omega) w)
  have hld:((b++u.takeWhile (· != 10)).length-(sgnL (b++u.takeWhile (· != 10))).length:Nat)=b.length:=by
   have:sgnL (b++u.takeWhile (· != 10))=u.takeWhile (· != 10):=by
    unfold sgnL;rw[List.dropWhile_append_of_pos hb];cases u with
    |nil=>rfl
    | cons d r=>
      obtain rfl:d=c:=by simpa using hc
      rw[List.takeWhile_cons_of_pos (p:=fun x=>x != 10) (by rw[bne_iff_ne];rintro rfl;revert hcb;decide),List.dropWhile_cons_of_neg (by rw[hcb];decide)]
   rw[this,List.length_append];omega
  have LD0:=hid (fun w=>readLead (b++u.takeWhile (· != 10)) (by omega) w);rw[hld]at LD0
  have hgl:(b++lineL u).getLast?=(lineL u).getLast?:=by
   rw[List.getLast?_append];cases h:(lineL u).getLast? with
   |none=>exact absurd (List.getLast?_eq_none_iff.1 h) q2
   |some z=>rfl
  rw[hgl]at SF;have HB:=hid hb;have HIN:=hid hin;generalize b++u.takeWhile (· != 10)=ln at*;have E2:=hid E2
  by_cases h59:(lineL u).getLast?=some 59
  ·have hrow:rowB u=true:=by unfold rowB;rw[h59];rfl
   rw[h59,show(some (59:UInt8)==some 59)=true from rfl]at SF;obtain⟨M,hM⟩:=last_iff.1 h59;have hrest:s.drop (N-(restL u).length)=restL u:=by rw[<-hN];exact drop_suf (k:=k) ((rest_suf u).trans (by rw[<-hu];exact sgn_suf' _))
   have hle:N-(restL u).length<=s.length:=by omega
   rw[hM]at TR hzl SF;have hap:b++M++[59]=b++(M++[59]):=List.append_assoc ..;have hdl:(lineL u).dropLast=M:=by rw[hM];simp
   have hbu:b++u=(b++M)++59::z:=by rw[show b++u=b++(lineL u++z)from by rw[<-q3],hM];simp[List.append_assoc]
   have hJ:=partsB_split (59::z) (b++M);rw[<-hbu]at hJ;have hbM:(b++M).length+1+z.length=b.length+u.length:=by rw[hzl,List.length_append,List.length_append];simp;omega
   obtain⟨cn,hcn⟩: ∃cn,(tx (b++(M++[59]))).size=cn:=⟨_,rfl⟩;have hcn2:cn=(b++M).length+1:=by rw[<-hcn,tx_size,<-hap];simp;try omega
   have hcnb:cn<=262145:=by omega
   have sl:=run_strto (b++M++[59]) (b++M).length (by simp);rw[List.take_left,hap,show(((b++M).length:Nat):Int)=(cn:Int)-1 by omega]at sl;have SP:=hid (fun w g=>split_own (b++M) 124 (by omega) w g);have hne:=splitC_ne 124 (b++M);have hpl2: ∀p∈splitC 124 (b++M),p.length<=262144:=fun p hp=>by have:=splitC_mem_len' 124 (b++M) p hp;omega
   have hLn:=splitC_length_le 124 (b++M);have HL:=hid (show splitC 124 (b++(lineL u).dropLast)=splitC 124 (b++M) by rw[hdl]);have HP0:=hid (show plc s.length u=plc N u by rw[hN]);have hx0:(b++u).length=b.length+u.length:=List.length_append;generalize splitC 124 (b++M)=L at*;obtain⟨x0,hx1⟩: ∃x0,b++u=x0:=⟨_,rfl⟩;have HX0:=hid hx1;rw[hx1]at hJ hx0;clear hx1;obtain⟨n,hn⟩: ∃n,L.length=n:=⟨_,rfl⟩;rw[hn]at SP hLn;have hnl:n<=262145:=by omega
   obtain⟨pp,hpp⟩: ∃pp,plX N L x0=pp:=⟨_,rfl⟩;have hn0:n≠0:=fun h=>hne (List.length_eq_zero_iff.1 (hn.trans h))
   obtain⟨p0,hp0⟩: ∃p0,plc N u=p0:=⟨_,rfl⟩;have hF0:(p0:Int)-(b.length:Nat)=((N-x0.length:Nat):Int):=by rw[<-hp0];unfold plc;omega
   have hx0N:x0.length<=N:=by omega
   rw[hp0]at HP0;rw[hp0];obtain⟨bl,hbl2⟩: ∃bl,b.length=bl:=⟨_,rfl⟩;rw[hbl2]at LD0 hF0;have HLn:=hid hn;have HPL:=hid hpl2;have HJ:=hid hJ;have HPP:=hid hpp;have HF0:=hid hF0;have HROW:=hid hrow;have HRE:=hid hrest;have HHH:=hid hN;clear hu hc hcb q1 q2 q3 hul hin hlen hzl hgl h59 hrow hM hrest hdl hbu hJ hbM hcn2 hne hpl2 hLn hn hpp hF0 hp0 hx0 hb hld hN hbl hbl2 hap;go_wp2_with fail;refine(TR.out _).mono ?_;rintro e w3 ⟨rfl,E3⟩;have E:=hid (ext_trans E2.out E3);clear E3
   go_wp2_with (first|(go_at_call 99;refine(SF.out _).mono ?_;rintro e w' ⟨rfl,rfl⟩)|fail)
   refine(LD0.out _).mono ?_;rintro e w4 ⟨rfl,E4⟩;have E:=hid (ext_trans E.out E4);have g4:=HG.out.below E.out;clear E4;go_wp2_with fail;refine(SP.out _ g4).mono ?_;rintro e w5 ⟨a,rfl,oA,-, E5⟩;have han:a≠none:=Own.some oA (by omega);have hab2:w.heap.size<=bk a:=Nat.le_trans E.out.size (Own.lt oA han).1;have hw4:=E.out.size;have E:=hid (ext_trans E.out E5);have oA:=hid (show Own w5 w.heap.size 9 1 a n n (cellV ((L.take 0).map trimT++L.drop 0))from Own.mono oA hw4);clear E5 g4;go_wp2_with fail;have P0:=hid (show pp=[]++plX N (L.drop 0) x0 by rw[List.nil_append,List.drop_zero,HPP.out]);have HOA:=hid (Own.nil w5 w.heap.size 3 1)
   go_loopw [11,12,45] (fun f q i wi=> ∃(m:Nat) (pa:Option Addr) (pc:Nat) (x:Tx) (acc:List Int),i= .int .i64 m/\m<=n/\f= .int .i64 (N-x.length:Nat)/\x.length<=N/\q= .slice pa m pc/\acc.length=m/\Hid (m<n->x=partsB (59::z) (L.drop m))/\Hid (pp=acc++plX N (L.drop m) x)/\Hid (OwnI wi w.heap.size pa m pc acc)/\Hid (Own wi w.heap.size 9 1 a n n (cellV ((L.take m).map trimT++L.drop m)))/\Hid (Apart a pa)/\Hid (Below w.heap.size w wi)) (fun _ _ i _=>n-(intOf i).toNat)
   case atStart=>
    refine⟨0,none,0,x0,[],rfl,Nat.zero_le _,?_,hx0N,rfl,rfl,hid fun _=>by rw[List.drop_zero];exact HJ.out.symm,P0,hid (Own.nil _ _ _ _),oA,hid (.inr (.inl rfl)),E⟩;rw[HF0.out];congr 1;unfold wrap64;omega
   case round=>
    obtain⟨m,pa,pc,x,acc,rfl,hmn,rfl,hxN,rfl,hacl,HX,HP,OP,OC,AP,EE⟩:=hrel
    by_cases hlt:m<n
    ·obtain⟨p,hpm⟩: ∃p,L[m]? =some p:=⟨_,List.getElem?_eq_getElem (by rw[HLn.out];exact hlt)⟩
     have hdr:L.drop m=p::L.drop (m+1):=by
      obtain⟨h1,h2⟩:=List.getElem?_eq_some_iff.1 hpm;rw[List.drop_eq_getElem_cons h1,h2]
     have hcs:=cur_set trimT L m p hpm;have ix:=idx9 OC.out (m:=m) (by rw[cellV_length,HLn.out];exact hlt) (by omega);have cl:=cell_cur OC.out hpm;have HCL:=hid (fun(w2:World) (h:Own w2 w.heap.size 9 1 a n n (cellV ((L.take m).map trimT++L.drop m)))=>cell_cur h hpm);obtain⟨d,r,ex,er⟩:=partsB_cons (59::z) p (L.drop (m+1)) (by simp);have hx:=HX.out hlt;rw[hdr,ex]at hx;have hxl:x.length=p.length+1+r.length:=by rw[hx];simp;omega
     have hxd:x.drop (p.length+1)=r:=by rw[hx,<-List.drop_drop];simp
     have HX2:=hid (show m+1<n->r=partsB (59::z) (L.drop (m+1))from fun h=>er (fun e=>by
      have:=congrArg List.length e;rw[List.length_drop,HLn.out]at this;simp at this;omega))
     obtain⟨ld,hld⟩: ∃ld,p.length-(sgnL p).length=ld:=⟨_,rfl⟩;have hldp:ld<=p.length:=by omega
     have HP2:=hid (show pp=(acc++[((N-x.length:Nat):Int)+(ld:Int)])++plX N (L.drop (m+1)) r by
      rw[HP.out,hdr,plX,hxd,hld,List.append_assoc,show((N-x.length:Nat):Int)=(N:Int)-(x.length:Nat) by omega];rfl)
     have hpb:p.length<=262144:=by omega
     have LD:=hid (fun w=>readLead p (by omega) w);rw[hld]at LD;have TP:=hid (fun w=>readTrim p (by omega) w);obtain⟨pl,hpl⟩: ∃pl,(tx p).size=pl:=⟨_,rfl⟩;have hpl2:pl=p.length:=by rw[<-hpl,tx_size]
     have hplb:pl<=262144:=by omega
     have hfr:((N-x.length:Nat):Int)+((pl:Int)+1)=((N-r.length:Nat):Int):=by omega
     have HFR:=hid hfr;have zlt:decide ((m:Int)<(n:Int))=true:=by simp;omega
     have hrN:r.length<=N:=by omega
     have HNX:N-x.length<=262144:=by omega
     have hldb:ld<=262144:=by omega
     have hsz:=EE.out.size;obtain⟨tp,htp⟩: ∃tp,trimT p=tp:=⟨_,rfl⟩;rw[htp]at TP hcs;have HCS:=hid hcs;clear hpm hdr hcs ex er hx hxl hxd hld hldp hpl2 hfr htp HX HP hpb;go_wp2_with fail;refine(LD.out _).mono ?_;rintro e w6 ⟨rfl,E6⟩;have EE6:=hid (ext_trans EE.out E6);have OC6:=hid (Own.below OC.out E6);have OP6:=Own.below OP.out E6;clear cl E6 hsz
     go_wp2_with (at_builtin;go_loud(refine wpList_app1n isl9 (.tmp 50) (.tmp 55) rfl rfl rfl rfl OP6 rfl rfl (by intro u hu;simp at hu;subst hu;rfl) EE6.out EE6.out.size (by omega) (by unfold maxLen;omega) ?_))
     intro a7 c7 w7 o7 g7 B7;have o7:=hid (show OwnI w7 w.heap.size a7 (m+1) c7 (acc++[((N-x.length:Nat):Int)+(ld:Int)]) by unfold OwnI;rw[show ints (acc++[((N-x.length:Nat):Int)+(ld:Int)])=ints acc++ints [((N-x.length:Nat):Int)+(ld:Int)]from List.map_append];exact o7);obtain⟨OC7,AP7⟩:=Own.step OC6.out g7.step AP.out;have OC7:=hid OC7;have AP7:=hid AP7;have B7:=hid B7;clear OP6 EE6 OC6 g7;go_wp2_with fail;refine(TP.out _).mono ?_;rintro e w8 ⟨rfl,E8⟩;have OC8:=Own.below OC7.out E8;have OP8:=Own.below o7.out E8;have EE8:=ext_trans B7.out E8;obtain⟨s1,s2⟩:=Own.set OC8 han m (.string (tx tp));have cl:w8.cell? ⟨bk a,fo a+m,none⟩=some (.string (tx p)):=HCL.out _ OC8;have fz:=Own.frozen OC8 han m;have EE9:=hid (s2.below OC8 EE8 EE8.size);obtain⟨OP9,AP9⟩:=Own.step OP8 s2 AP7.out.symm;have OP9:=hid OP9;have AP9:=hid AP9.symm
     have OC9:=hid (show Own (w8.setCell ⟨bk a,fo a+m,none⟩ (.string (tx tp))) w.heap.size 9 1 a n n (cellV ((L.take (m+1)).map trimT++L.drop (m+1))) by
      rw[<-HCS.out];unfold cellV at s1 ⊢; rw[List.map_set];exact s1)
     clear OC8 OP8 EE8 s1 s2 E8;go_wp2_with fail
     go_roundw
     case rel=>exact⟨m+1,a7,c7,r,acc++[((N-x.length:Nat):Int)+(ld:Int)],by go_num,by omega,by rw[HFR.out],hrN,rfl,by rw[List.length_append,hacl];rfl,HX2,HP2,OP9,OC9,AP9,EE9⟩
     case measure=>simp[intOf];omega
    ·obtain rfl:m=n:=by omega
     have HP2:=hid (show pp=acc by rw[HP.out,List.drop_eq_nil_of_le (by rw[HLn.out];exact Nat.le_refl _)];exact List.append_nil _);have HC2:=hid (show(L.take m).map trimT++L.drop m=L.map trimT by rw[List.drop_eq_nil_of_le (by rw[HLn.out];exact Nat.le_refl _),List.take_of_length_le (by rw[HLn.out];exact Nat.le_refl _),List.append_nil]);have zn:decide ((m:Int)<(m:Int))=false:=by simp
     have R5:=HR.out.below EE.out;have q1:=R5.bx.get 1 _ rfl;have hf1:=R5.frz 1;have hrb5:=R5.lt;have R6:=R5.put 1 (.int .i64 (N-(restL u).length:Nat)) (k':=N-(restL u).length) (t':=t) rfl hle;have ST:=hid ((step_below (bw:=w1.heap.size) EE.out).trans R6.2);have TC:=hid (Own.kept OC.out R6.2.grown (by right;have:=HR.out.lt;simp;omega))
     have TI:=hid (Own.kept OP.out R6.2.grown (by
      have h:=(Own.lt OP.out (Own.some OP.out (Nat.pos_of_ne_zero hn0))).1
      right;have:=HR.out.lt;simp;omega))
     replace R6:=hid R6.1;clear R5;go_wp2_with fail;refine bodyPost_ret (v:=.tuple #[.slice a m m,.slice pa m pc,.int .i64 (p0:Nat),.bool true]) (by simp[results,Tryz.results81,go_sem]) rfl (.inr ⟨b,m,a,pa,pc,N-(restL u).length,HROW.out,HB.out,by rw[HHH.out];exact HIN.out,by rw[HL.out];exact HLn.out.symm,by rw[HP0.out],HRE.out,ST.out,R6.out,?_,?_⟩)
     ·rw[HL.out]
      have:=TC.out;rw[HC2.out]at this;exact this
     ·rw[HL.out,HX0.out,HHH.out,HPP.out,HP2.out]
      exact TI.out
  ·have hrow:rowB u=false:=by unfold rowB;simpa using h59
   rw[show((lineL u).getLast?==some 59)=false by simpa using h59]at SF;have HROW:=hid (show rowB u=false/\plc s.length u=plc N u from⟨hrow,by rw[hN]⟩);generalize b++lineL u=cut at*;generalize plc N u=p0 at*;clear hu hc hcb q1 q2 q3 hul hin hlen hzl hgl h59 hrow LD0 hld hb hbl hN;go_wp2_with fail;refine(TR.out _).mono ?_;rintro e w3 ⟨rfl,E3⟩;have E:=hid (ext_trans E2.out E3);clear E3
   go_wp2_with (first|(go_at_call 99;refine(SF.out _).mono ?_;rintro e w' ⟨rfl,rfl⟩)|fail)
   refine bodyPost_ret (v:=.tuple #[.slice none 0 0,.slice none 0 0,.int .i64 (p0:Nat),.bool false]) (by simp[results,Tryz.results81,go_sem]) rfl ?_;refine .inl ⟨HROW.out.1,by rw[HROW.out.2],E.out⟩
end Go.Proofs.YtkbbgjloifmmbaaGreatDoor
namespace Go.Proofs.YtkbbgjloifmmbaaGreatDoor
def Cut(A r:Tx):Prop:= ∀c,r.head?=some c->nameC c=false/\digitC c=false/\((c≠47/\c≠92)\/(A.getLast?≠some 47/\A.getLast?≠some 92))
theorem Cut.tail{x:UInt8}{A r:Tx}(h:Cut (x::A) r)(k:Nat):Cut ((x::A).drop k) r:=fun d hd=>by
 obtain⟨a,b,e⟩:=h d hd;refine⟨a,b,e.imp id fun e=>?_⟩;rw[List.getLast?_drop];split
 ·exact⟨by simp,by simp⟩
 ·exact e
theorem lexT_app: ∀(n:Nat) (A r:Tx),A.length<=n->Cut A r->lexT (A++r)=lexT A++lexT r
 |_,A,[],_,_=>by rw[List.append_nil,lexT_nil,List.append_nil]
 |_,[],r,_,_=>by rw[List.nil_append,lexT_nil,List.nil_append]
 |0,_::_,_,hn,_=>absurd hn (by simp)
 | n+1,x::A,c::B,hn,h=>by
   obtain⟨h1,h2,h3⟩:=h c rfl;simp only[List.length_cons]at hn;cases hb:blankC x with
   | true=>
     rw[List.cons_append,lexT_blank _ hb,lexT_blank _ hb,lexT_app n A (c::B) (by omega) (by simpa using h.tail 1)]
   | false=>
     have hp:=longT_pos x A;have hle:=longT_le x A
     have e:longT (x::(A++c::B))=longT (x::A):=by
      rw[longT_eq,longT_eq,tw_sep h1,tw_sep h2];cases A with
      | nil=>
        rcases h3 with⟨h3,h4⟩|⟨h3,h4⟩
        ·simp[h2,h3,h4]
        ·simp at h3 h4;simp[h2,h3,h4]
      |cons y A=>simp
     rw[List.cons_append,lexT_tok _ hb,lexT_tok _ hb,e,<-List.cons_append,List.take_append_of_le_length (by simp;omega),List.drop_append_of_le_length (by simp;omega),lexT_app n _ (c::B) (by simp;omega) (h.tail _),List.cons_append]
def oneC(c:UInt8):Bool:= !blankC c&&(!letterC c&&(!digitC c&&(c != 45&&(c != 47&&c != 92))))
theorem lexT_sign{c:UInt8}(r:Tx)(h:oneC c=true):lexT (c::r)=[c]::lexT r:=by
 unfold oneC at h;simp only[Bool.and_eq_true,Bool.not_eq_true',bne_iff_ne,ne_eq]at h;obtain⟨h1,h2,h3,h4,h5,h6⟩:=h;have e:longT (c::r)=1:=by rw[longT_eq];simp[h2,h3,h4,h5,h6]
 rw[lexT_tok _ h1,e];rfl
theorem tokC_no{c:UInt8}(h:tokC c=false):nameC c=false/\digitC c=false:=by
 have k:=u8_all (p:=fun c=>tokC c||(!nameC c&& !digitC c)) (by decide+kernel) c;rw[h]at k;simpa using k
theorem Cut.of{A r:Tx}(hA: ∀b∈A,tokC b=true)(hr:F0 r):Cut A r:=fun c hc=>by
 obtain⟨a,b⟩:=tokC_no (hr c (by rw[hc];exact rfl));refine⟨a,b,.inr ⟨fun e=>?_,fun e=>?_⟩⟩
 ·have:=hA _ (List.mem_of_getLast? e);exact absurd this (by decide)
 ·have:=hA _ (List.mem_of_getLast? e);exact absurd this (by decide)
def mkz(l:List Tx):List Tok:=l.map fun s=>(s,0)
def headL(r:Tx):Option Tx:=(lexT r).head?
def G0(r:Tx):Prop:=F0 r/\headL r≠some [61]
def G2(r:Tx):Prop:=G0 r/\headL r≠some [47,92]
def G1(r:Tx):Prop:=G2 r/\headL r≠some [92,47]
theorem G1.sign{c:UInt8}(r:Tx)(h:oneC c=true)(ht:tokC c=false):G1 (c::r):=by
 have e:headL (c::r)=some [c]:=by unfold headL;rw[lexT_sign r h];rfl
 refine⟨⟨⟨F0.cons ht,?_⟩,?_⟩,?_⟩<;>rw[e]<;>simp
 rintro rfl;revert ht;decide
def zP(d:Nat->Nat)(L:List Tok):List Tok:=L.map fun t=>(t.1,d t.2)
def mapZ{α:Type}(d:Nat->Nat):PR α->PR α
 | .ok (x,r)=>.ok (x,zP d r)
 | .error e=>.error (zP d e)
theorem z_cons(d:Nat->Nat)(t:Tok)(l:List Tok):zP d (t::l)=(t.1,d t.2)::zP d l:=rfl
theorem z_tail(d:Nat->Nat)(l:List Tok):(zP d l).tail=zP d l.tail:=by cases l<;>rfl
theorem z_head(d:Nat->Nat)(l:List Tok):headS (zP d l)=headS l:=by cases l<;>rfl
theorem z_len(d:Nat->Nat)(l:List Tok):(zP d l).length=l.length:=by simp[zP]
theorem takeR_z(d:Nat->Nat)(s:Tx)(l:List Tok):takeR s (zP d l)=match takeR s l with
 | .ok r=>.ok (zP d r)
 | .error e=>.error (zP d e):=by
 cases l with
 |nil=>rfl
 |cons t l=>rw[z_cons];rw[takeR_cons,takeR_cons];split<;>rfl
theorem intR_z(d:Nat->Nat)(a b:Int)(l:List Tok):intR a b (zP d l)=mapZ d (intR a b l):=by
 cases l with
 |nil=>rfl
 | cons t l=>
   rw[z_cons,intR_cons,intR_cons];simp only;cases numR t.1 with
   |none=>rfl
   |some n=>simp only;split<;>rfl
theorem locR_z(d:Nat->Nat)(l:List Tok):locR (zP d l)=mapZ d (locR l):=by
 cases l with
 |nil=>rfl
 |cons t l=>rw[z_cons];rw[locR_cons,locR_cons];split<;>rfl
theorem thingR_z(arch:Int)(d:Nat->Nat)(l:List Tok):thingR arch (zP d l)=mapZ d (thingR arch l):=by
 unfold thingR;rw[z_head,z_tail];split
 ·rw[locR_z]
  cases locR l.tail with
  |error e=>rfl
  | ok p=>
    obtain⟨x,r⟩:=p;simp only[mapZ];rw[takeR_z];cases takeR [93] r<;>rfl
 ·split
  ·rw[intR_z]
   cases intR 0 15 l with
   |error e=>rfl
   | ok p=>
     obtain⟨x,r⟩:=p;simp only[mapZ];rw[takeR_z];cases takeR [58] r with
     |error e=>rfl
     | ok r=>
       simp only;rw[z_head];cases regOfA arch (headS r)with
       |none=>rfl
       |some k=>simp only[z_tail]
  ·rw[locR_z]
   cases locR l with
   |error e=>rfl
   |ok p=>rfl
theorem atomR_z(arch:Int)(d:Nat->Nat)(l:List Tok):atomR arch (zP d l)=mapZ d (atomR arch l):=by
 unfold atomR;rw[thingR_z];cases thingR arch l with
 |error e=>rfl
 | ok p=>
   obtain⟨x,r⟩:=p;simp only[mapZ];rw[takeR_z];cases takeR [61] r with
   |error e=>rfl
   | ok r=>
     simp only;rw[intR_z];cases intR (-2147483648) 2147483647 r<;>rfl
theorem rowF_z{k:Int}{sign:Tx}{one:List Tok->PR Nd}(d:Nat->Nat)(H: ∀l,one (zP d l)=mapZ d (one l)): ∀(n:Nat) (acc:List Nd) (l:List Tok),rowF k sign one n acc (zP d l)=mapZ d (rowF k sign one n acc l)
 |0,_,_=>rfl
 | n+1,acc,l=>by
   unfold rowF;rw[z_head,z_tail];split
   ·rw[H]
    cases one l.tail with
    |error e=>rfl
    |ok p=>exact rowF_z d H n _ _
   ·rfl
theorem rowR_z{k:Int}{sign:Tx}{one:List Tok->PR Nd}(d:Nat->Nat)(H: ∀l,one (zP d l)=mapZ d (one l))(l:List Tok):rowR k sign one (zP d l)=mapZ d (rowR k sign one l):=by
 unfold rowR;rw[H];cases one l with
 |error e=>rfl
 | ok p=>
   obtain⟨x,r⟩:=p;simp only[mapZ];rw[z_len];exact rowF_z d H _ _ _
theorem orR_z{one:List Tok->PR Nd}(d:Nat->Nat)(H: ∀l,one (zP d l)=mapZ d (one l))(l:List Tok):orR one (zP d l)=mapZ d (orR one l):=rowR_z d (rowR_z d H) l
theorem notR_z(arch:Int)(d:Nat->Nat): ∀(n:Nat) (l:List Tok),notR arch n (zP d l)=mapZ d (notR arch n l)
 |0,_=>rfl
 | n+1,l=>by
   unfold notR;simp only[z_head,z_tail];split
   ·rw[notR_z arch d n]
    cases notR arch n l.tail<;>rfl
   ·split
    ·rw[orR_z d (notR_z arch d n)]
     cases orR (notR arch n) l.tail with
     |error e=>rfl
     | ok p=>
       obtain⟨x,r⟩:=p;simp only[mapZ];rw[takeR_z];cases takeR [41] r<;>rfl
    ·split
     ·rfl
     ·exact atomR_z arch d l
theorem condHead_z(d:Nat->Nat)(l:List Tok):condHead (zP d l)=mapZ d (condHead l):=by
 unfold condHead;rw[z_head,z_tail,takeR_z,takeR_z];split
 ·rfl
 ·split
  ·cases takeR [101,120,105,115,116,115] l.tail<;>rfl
  ·cases takeR [101,120,105,115,116,115] l<;>rfl
theorem condR_z(arch:Int)(d:Nat->Nat)(l:List Tok):condR arch (zP d l)=match condR arch l with
 | .ok p=>.ok p
 | .error e=>.error (zP d e):=by
 unfold condR;rw[condHead_z];cases condHead l with
 |error e=>rfl
 | ok p=>
   obtain⟨q,l⟩:=p;simp only[mapZ];rw[takeR_z];cases takeR [40] l with
   |error e=>rfl
   | ok l=>
     simp only;rw[z_len,orR_z d (notR_z arch d _)];cases orR (notR arch (l.length+1)) l with
     |error e=>rfl
     | ok p=>
       obtain⟨x,l⟩:=p;simp only[mapZ];rw[takeR_z];cases takeR [41] l with
       |error e=>rfl
       | ok l=>
         cases l with
         |nil=>rfl
         |cons t l=>rfl
theorem z_lex(p:Nat)(s:Tx):zP (fun _=>0) (lex p s)=mkz (lexT s):=by
 rw[<-lex_place p s];unfold zP mkz;rw[List.map_map];rfl
theorem condR_text(arch:Int)(s:Tx):condR arch (mkz (lexT s))=match condR arch (lex 0 s)with
 | .ok p=>.ok p
 | .error e=>.error (zP (fun _=>0) e):=by
 rw[<-z_lex 0 s,condR_z]
theorem condR_of{arch:Int}{s:Tx}{p:Int × Nd}(h:condR arch (mkz (lexT s))= .ok p):condR arch (lex 0 s)= .ok p:=by
 rw[condR_text]at h;cases e:condR arch (lex 0 s)with
 |ok q=>rw[e]at h;exact h
 |error q=>rw[e]at h;cases h
theorem condR_same{arch:Int}{s r:Tx}{p:Int × Nd}(h:condR arch (lex 0 s)= .ok p)(hr:lexT s=lexT r):condR arch (lex 0 r)= .ok p:=by
 refine condR_of ?_;rw[<-hr,condR_text,h]
theorem parseC_same{arch:Int}{s r:Tx}{p:Int × Nd}(h:parseC arch s= .ok p)(hr:lexT s=lexT r)(hl:r.length<=262144):parseC arch r= .ok p:=by
 unfold parseC at h⊢
 split at h
 ·cases h
 ·rename_i h1
  split at h
  ·cases h
  ·rw[if_neg h1,if_neg (by omega)]
   split at h
   ·cases h
   ·rename_i q x e
    rw[condR_same e hr];exact h
mutual
theorem walkN_bare'(arch:Int): ∀(x:Nd) (met deep:Nat),walkN arch (bareN x) met deep=walkN arch x met deep
 | .mk k t v a c l,met,deep=>by
   rw[bareN,walkN,walkN,bareL_length,walkL_bare' arch l]
theorem walkL_bare'(arch:Int): ∀(l:List Nd) (met deep:Nat),walkL arch (bareL l) met deep=walkL arch l met deep
 |[],met,deep=>by rw[bareL]
 |x::r,met,deep=>by rw[bareL,walkL,walkL,walkN_bare' arch x,walkL_bare' arch r]
end
theorem condE_bare'(arch q:Int)(x:Nd):condE arch q (bareN x)=condE arch q x:=by unfold condE;rw[walkN_bare']
abbrev Bl(a:Tx):Prop:= ∀c∈a,blankC c=true
inductive Pd:Tx->Tx->Prop where
 |fin (a b:Tx) (ha:Bl a) (hb:Bl b):Pd a b
 |sep (a b:Tx) {s w:Tx} (ha:Bl a) (hb:Bl b) (h1:(10:UInt8)∈a) (h2:(10:UInt8)∈b) (h:Pd s w):Pd (a++s) (b++w)
 |byte (c:UInt8) {s w:Tx} (h:Pd s w):Pd (c::s) (c::w)
theorem Pd.nil:Pd [] []:=.fin [] [] (by decide) (by decide)
theorem Pd.refl: ∀s:Tx,Pd s s
 |[]=>.nil
 |c::s=>.byte c (Pd.refl s)
theorem Pd.app(A:Tx){s w:Tx}(h:Pd s w):Pd (A++s) (A++w):=by
 induction A with
 |nil=>exact h
 |cons c A ih=>exact .byte c ih
theorem sgnL_app{a:Tx}(s:Tx)(h:Bl a):sgnL (a++s)=sgnL s:=by unfold sgnL;exact List.dropWhile_append_of_pos h
theorem sgnL_bl{a:Tx}(h:Bl a):sgnL a=[]:=by have:=sgnL_app [] h;simpa[sgnL]using this
theorem sgnL_sgnL(s:Tx):sgnL (sgnL s)=sgnL s:=by
 unfold sgnL;cases h:s.dropWhile blankC with
 |nil=>rfl
 | cons c r=>
   have:=head_dropWhile (l:=s) (c:=c) (by rw[h];rfl);rw[List.dropWhile_cons_of_neg (by rw[this];decide)]
theorem Pd.sgn{s w:Tx}(h:Pd s w):(sgnL s=[]/\sgnL w=[])\/ ∃c s' w',blankC c=false/\sgnL s=c::s'/\sgnL w=c::w'/\Pd s' w':=by
 induction h with
 |fin a b ha hb=>exact .inl ⟨sgnL_bl ha,sgnL_bl hb⟩
 |sep a b ha hb h1 h2 h ih=>rw[sgnL_app _ ha,sgnL_app _ hb];exact ih
 | byte c h ih=>
   cases hb:blankC c with
   | true=>
     have e: ∀s,sgnL (c::s)=sgnL s:=fun s=>by unfold sgnL;rw[List.dropWhile_cons_of_pos hb]
     rw[e,e];exact ih
   | false=>
     have e: ∀s,sgnL (c::s)=c::s:=fun s=>by unfold sgnL;rw[List.dropWhile_cons_of_neg (by rw[hb];decide)]
     exact .inr ⟨c,_,_,hb,e _,e _,h⟩
def P0(s w:Tx):Prop:=Pd (sgnL s) (sgnL w)
theorem Pd.p0{s w:Tx}(h:Pd s w):P0 s w:=by
 unfold P0;rcases h.sgn with⟨a,b⟩|⟨c,s',w',-, a,b,h⟩
 ·rw[a,b];exact .nil
 ·rw[a,b];exact .byte c h
theorem P0.app{s w a b:Tx}(ha:Bl a)(hb:Bl b)(h:P0 s w):P0 (a++s) (b++w):=by unfold P0 at h ⊢; rw[sgnL_app _ ha,sgnL_app _ hb];exact h
theorem P0.cases{s w:Tx}(h:P0 s w):(sgnL s=[]/\sgnL w=[])\/ ∃c s' w',blankC c=false/\sgnL s=c::s'/\sgnL w=c::w'/\Pd s' w':=by
 have:=Pd.sgn h
 rwa[sgnL_sgnL,sgnL_sgnL]at this
theorem P0.head{s w:Tx}(h:P0 s w):(sgnL s).head?=(sgnL w).head?:=by
 rcases h.cases with⟨a,b⟩|⟨c,s',w',-, a,b,h⟩<;>rw[a,b]<;>rfl
theorem Pd.lex{s w:Tx}(h:Pd s w): ∀A:Tx,lexT (A++s)=lexT (A++w):=by
 have cut: ∀(A a s:Tx),Bl a->(10:UInt8)∈a->lexT (A++(a++s))=lexT A++lexT s:=fun A a s ha h1=>by
  cases a with
  |nil=>cases h1
  | cons c a=>
    have hc:=ha c (by simp)
    have hno:nameC c=false/\digitC c=false/\c≠47/\c≠92:=by
     have k:=u8_all (p:=fun c=> !blankC c||(!nameC c&& !digitC c&&c != 47&&c != 92)) (by decide+kernel) c;rw[hc]at k;simpa[and_assoc]using k
    rw[lexT_app _ A _ (Nat.le_refl _) (fun d hd=>by
     have:d=c:=by simpa using hd.symm
     subst this;exact⟨hno.1,hno.2.1,.inl hno.2.2⟩)]
    have e:lexT ((c::a)++s)=lexT s:=by
     have:=lexT_dw ((c::a)++s);rw[List.dropWhile_append_of_pos ha,lexT_dw]at this;exact this.symm
    rw[e]
 induction h with
 |fin a b ha hb=>intro A;rw[lexT_pad _ A a (Nat.le_refl _) ha,lexT_pad _ A b (Nat.le_refl _) hb]
 |sep a b ha hb h1 h2 h ih=>intro A;rw[cut A a _ ha h1,cut A b _ hb h2];have:=ih [];rw[List.nil_append,List.nil_append]at this;rw[this]
 |byte c h ih=>intro A;have:=ih (A++[c]);simpa using this
theorem Pd.lexT{s w:Tx}(h:Pd s w):lexT s=lexT w:=h.lex []
theorem rdr_bl{A b:Tx}(h:Bl b):rdr (A++b)=rdr A:=by
 unfold rdr;rw[List.reverse_append,List.dropWhile_append_of_pos (fun c hc=>h c (List.mem_reverse.1 hc))]
theorem tw_mem{c:UInt8}(s:Tx): ∀{a:Tx},c∈a->(a++s).takeWhile (· != c)=a.takeWhile (· != c)/\(a++s).dropWhile (· != c)=a.dropWhile (· != c)++s
 |[],h=>by cases h
 | d::a,h=>by
   by_cases e:d=c
   ·subst e;simp
   ·have h':c∈a:=by rcases List.mem_cons.1 h with rfl|h;exact absurd rfl e;exact h
    obtain⟨x,y⟩:=tw_mem s h';rw[List.cons_append,List.takeWhile_cons_of_pos (by simpa using e),List.takeWhile_cons_of_pos (by simpa using e),List.dropWhile_cons_of_pos (by simpa using e),List.dropWhile_cons_of_pos (by simpa using e),x,y];exact⟨rfl,rfl⟩
theorem tw_out{c:UInt8}(s:Tx){a:Tx}(h:c∉a):(a++s).takeWhile (· != c)=a++s.takeWhile (· != c)/\(a++s).dropWhile (· != c)=s.dropWhile (· != c):=by
 have k: ∀x∈a,(x != c)=true:=fun x hx=>by
  rw[bne_iff_ne];rintro rfl;exact h hx
 exact⟨List.takeWhile_append_of_pos k,List.dropWhile_append_of_pos k⟩
theorem tw_bl{c:UInt8}{a:Tx}(h:Bl a):Bl (a.takeWhile (· != c)):=fun d hd=>h d (List.takeWhile_prefix _ |>.subset hd)
theorem dw_bl{c:UInt8}{a:Tx}(h:Bl a):Bl (a.dropWhile (· != c)):=fun d hd=>h d (List.dropWhile_suffix _ |>.subset hd)
theorem Pd.line{s w:Tx}(h:Pd s w): ∀A:Tx,(10:UInt8)∉A->lineL (A++s)=lineL (A++w):=by
 have f: ∀A a:Tx,(10:UInt8)∉A->Bl a->lineL (A++a)=rdr A:=fun A a hA ha=>by
  unfold lineL;rw[(tw_out a hA).1,rdr_bl (tw_bl ha)]
 have g: ∀A a s:Tx,(10:UInt8)∉A->Bl a->(10:UInt8)∈a->lineL (A++(a++s))=rdr A:=fun A a s hA ha h1=>by
  unfold lineL;rw[(tw_out _ hA).1,(tw_mem s h1).1,rdr_bl (tw_bl ha)]
 induction h with
 |fin a b ha hb=>intro A hA;rw[f A a hA ha,f A b hA hb]
 |sep a b ha hb h1 h2 h ih=>intro A hA;rw[g A a _ hA ha h1,g A b _ hA hb h2]
 | @byte c s w h ih=>
   intro A hA
   by_cases e:c=10
   ·subst e
    have k: ∀s:Tx,lineL (A++10::s)=rdr A:=fun s=>by
     unfold lineL;rw[(tw_app 10 s A hA).1]
    rw[k,k]
   ·have:=ih (A++[c]) (by
     rw[List.mem_append];rintro(h|h)
     ·exact hA h
     ·exact e (List.mem_singleton.1 h).symm)
    simpa using this
theorem P0.line{s w:Tx}(h:P0 s w):lineL (sgnL s)=lineL (sgnL w):=Pd.line h [] (by simp)
theorem Pd.rest{s w:Tx}(h:Pd s w):P0 (restL s) (restL w):=by
 have f: ∀a s:Tx,Bl a->(10:UInt8)∈a-> ∃b,Bl b/\restL (a++s)=b++s:=fun a s ha h1=>by
  unfold restL;rw[(tw_mem s h1).2];cases e:a.dropWhile (· != 10)with
  | nil=>
    have:=dw_nil e 10 h1;simp at this
  |cons d b=>exact⟨b,fun c hc=>dw_bl (c:=10) ha c (by rw[e];simp[hc]),rfl⟩
 induction h with
 | fin a b ha hb=>
   have k: ∀a:Tx,Bl a->Bl (restL a):=fun a ha c hc=>dw_bl (c:=10) ha c (List.drop_subset _ _ hc)
   unfold P0;rw[sgnL_bl (k a ha),sgnL_bl (k b hb)];exact .nil
 | sep a b ha hb h1 h2 h ih=>
   obtain⟨a',x,y⟩:=f a _ ha h1;obtain⟨b',x',y'⟩:=f b _ hb h2;rw[y,y'];exact h.p0.app x x'
 | @byte c s w h ih=>
   by_cases e:c=10
   ·subst e
    exact h.p0
   ·have k: ∀s:Tx,restL (c::s)=restL s:=fun s=>by unfold restL;rw[List.dropWhile_cons_of_pos (by simpa using e)]
    rw[k,k];exact ih
theorem P0.rest{s w:Tx}(h:P0 s w):P0 (restL (sgnL s)) (restL (sgnL w)):=Pd.rest h
theorem bl_no{c:UInt8}(hc:blankC c=false){a:Tx}(h:Bl a):c∉a:=fun m=>by rw[h c m]at hc;cases hc
theorem dw_no{c:UInt8}{a:Tx}(h:c∉a):a.dropWhile (· != c)=[]/\a.takeWhile (· != c)=a:=by
 have:=tw_out (c:=c) [] h;simpa using this.symm
theorem Pd.cut{c:UInt8}(hc:blankC c=false){s w:Tx}(h:Pd s w):(c∈s<->c∈w)/\Pd (s.takeWhile (· != c)) (w.takeWhile (· != c))/\Pd ((s.dropWhile (· != c)).drop 1) ((w.dropWhile (· != c)).drop 1):=by
 induction h with
 | fin a b ha hb=>
   have na:=bl_no hc ha;have nb:=bl_no hc hb;rw[(dw_no na).1,(dw_no na).2,(dw_no nb).1,(dw_no nb).2];exact⟨⟨fun h=>absurd h na,fun h=>absurd h nb⟩,.fin a b ha hb,.nil⟩
 | sep a b ha hb h1 h2 h ih=>
   have na:=bl_no hc ha;have nb:=bl_no hc hb;rw[(tw_out _ na).1,(tw_out _ na).2,(tw_out _ nb).1,(tw_out _ nb).2];refine⟨?_,.sep a b ha hb h1 h2 ih.2.1,ih.2.2⟩;rw[List.mem_append,List.mem_append];exact⟨fun h=>.inr (ih.1.1 (h.resolve_left na)),fun h=>.inr (ih.1.2 (h.resolve_left nb))⟩
 | @byte d s w h ih=>
   by_cases e:d=c
   ·subst e
    simp only[List.takeWhile_cons,List.dropWhile_cons,bne_self_eq_false,Bool.false_eq_true,if_false,List.drop_one,List.tail_cons];exact⟨by simp,.nil,h⟩
   ·have e':(d != c)=true:=by simpa using e
    rw[List.takeWhile_cons_of_pos (p:=fun x=>x != c) e',List.takeWhile_cons_of_pos (p:=fun x=>x != c) e',List.dropWhile_cons_of_pos (p:=fun x=>x != c) e',List.dropWhile_cons_of_pos (p:=fun x=>x != c) e'];refine⟨?_,.byte d ih.2.1,ih.2.2⟩;rw[List.mem_cons,List.mem_cons,ih.1]
inductive PdL:List Tx->List Tx->Prop where
 |nil:PdL [] []
 |cons {s w:Tx} {L M:List Tx} (h:Pd s w) (t:PdL L M):PdL (s::L) (w::M)
theorem splitC_eq{c b:UInt8}(r:Tx)(h:(b==c)=true):splitC c (b::r)=[]::splitC c r:=by rw[splitC,if_pos h]
theorem splitC_neq{c b:UInt8}{r x:Tx}{t:List Tx}(h:(b==c)=false)(e:splitC c r=x::t):splitC c (b::r)=(b::x)::t:=by rw[splitC,if_neg (by rw[h];decide),e]
theorem splitC_app2{c:UInt8}{s x:Tx}{t:List Tx}(e:splitC c s=x::t): ∀{a:Tx},c∉a->splitC c (a++s)=(a++x)::t
 |[],_=>e
 | d::a,h=>by
   have hd:(d==c)=false:=by
    rw[beq_eq_false_iff_ne];rintro rfl;exact h (by simp)
   exact splitC_neq hd (splitC_app2 e (fun m=>h (by simp[m])))
theorem Pd.split{c:UInt8}(hc:blankC c=false){s w:Tx}(h:Pd s w):PdL (splitC c s) (splitC c w):=by
 induction h with
 | fin a b ha hb=>
   rw[splitC_none c a (bl_no hc ha),splitC_none c b (bl_no hc hb)];exact .cons (.fin a b ha hb) .nil
 | @sep a b s w ha hb h1 h2 h ih=>
   cases e:splitC c s with
   |nil=>exact absurd e (splitC_ne c s)
   | cons x t=>
     cases f:splitC c w with
     |nil=>exact absurd f (splitC_ne c w)
     | cons y u=>
       rw[e,f]at ih;rw[splitC_app2 e (bl_no hc ha),splitC_app2 f (bl_no hc hb)];cases ih with
       |cons p q=>exact .cons (.sep a b ha hb h1 h2 p) q
 | @byte d s w h ih=>
   cases hd:d==c with
   |true=>rw[splitC_eq _ hd,splitC_eq _ hd];exact .cons .nil ih
   | false=>
     cases e:splitC c s with
     |nil=>exact absurd e (splitC_ne c s)
     | cons x t=>
       cases f:splitC c w with
       |nil=>exact absurd f (splitC_ne c w)
       | cons y u=>
         rw[e,f]at ih;rw[splitC_neq hd e,splitC_neq hd f];cases ih with
         |cons p q=>exact .cons (.byte d p) q
theorem sgnL_len(s:Tx):(sgnL s).length<=s.length:=(List.dropWhile_suffix _).length_le
theorem restL_len(s:Tx):(restL s).length<=s.length:=by
 unfold restL;have:=(List.dropWhile_suffix (l:=s) (· != 10)).length_le;rw[List.length_drop];omega
theorem restS_len(s:Tx):(restL (sgnL s)).length<=s.length:=Nat.le_trans (restL_len _) (sgnL_len _)
theorem bodyP_ok{N:Nat}{s:Tx}{t:Tst}:bodyP N s= .ok t<-> ∃a n r1 c r2 i r3 l r4 q x,headP N s= .ok (a,n,r1)/\cycleP N r1= .ok (c,r2)/\initsP a N r2= .ok (i,r3)/\tableP a N r3= .ok (l,r4)/\condP a N r4= .ok (q,x)/\mkTs a n c i l q x=t:=by
 unfold bodyP
 constructor
 ·intro h
  cases h1:headP N s with
  |error e=>rw[h1]at h;cases h
  | ok p=>
    obtain⟨a,n,r1⟩:=p;rw[h1]at h
    change (cycleP N r1 >>= _)=_ at h
    cases h2:cycleP N r1 with
    |error e=>rw[h2]at h;cases h
    | ok p=>
      obtain⟨c,r2⟩:=p;rw[h2]at h
      change (initsP a N r2 >>= _)=_ at h
      cases h3:initsP a N r2 with
      |error e=>rw[h3]at h;cases h
      | ok p=>
        obtain⟨i,r3⟩:=p;rw[h3]at h
        change (tableP a N r3 >>= _)=_ at h
        cases h4:tableP a N r3 with
        |error e=>rw[h4]at h;cases h
        | ok p=>
          obtain⟨l,r4⟩:=p;rw[h4]at h
          change (condP a N r4 >>= _)=_ at h
          cases h5:condP a N r4 with
          |error e=>rw[h5]at h;cases h
          | ok p=>
            obtain⟨q,x⟩:=p;rw[h5]at h;cases h;exact⟨a,n,r1,c,r2,i,r3,l,r4,q,x,rfl,h2,h3,h4,h5,rfl⟩
 ·rintro⟨a,n,r1,c,r2,i,r3,l,r4,q,x,h1,h2,h3,h4,h5,rfl⟩
  rw[h1]
  change (cycleP N r1 >>= _)=_
  rw[h2]
  change (initsP a N r2 >>= _)=_
  rw[h3]
  change (tableP a N r3 >>= _)=_
  rw[h4]
  change (condP a N r4 >>= _)=_
  rw[h5];rfl
def codL(l:List Cd):List (List Ins):=l.map (·.l)
end Go.Proofs.YtkbbgjloifmmbaaGreatDoor
