/- What ReadBlanksP leans on, part 29. -/
import Derived.Test.YtkbbgjloifmmbaaGreatDoorPc28
import Derived.Laws.IdiomStrings
import Derived.Test.YtkbbgjloifmmbaaGreatDoorPc26
set_option linter.unusedVariables false
set_option maxRecDepth 100000
set_option maxHeartbeats 12800000
open _root_.Go.Proofs.Tryz
open _root_.Go.Lib renaming decDigits->aoc,itoa_length_le->aqi
open _root_.Nat renaming le_trans->ap1,le_refl->anb,lt_or_ge->ani,zero_le->apL
open _root_.List renaming length_append->aoW,length_drop->aoN,getElem?_eq_getElem->am9,drop_drop->apD,length_eq_zero_iff->aqe,dropWhile_suffix->apr,getLast?_eq_some_getLast->aol,drop_zero->ap0,replicate->aop,length_cons->ans,suffix_iff_eq_drop->aqb,take_of_length_le->ap8,drop_eq_nil_of_le->anj,take_left->ap9,length->anO
open _root_.Go.RowKit.Below renaming refl->anM
open _root_.UInt8 renaming ofNat->aog
namespace Go.Proofs.YtkbbgjloifmmbaaGreatDoor
open Go.RowKit Go.Sort
variable{k:Nat}{t:aG}{s:Tx}{w w1:World}
theorem MW:gQ prog 131 133 (.agg #[.int .i64 0,.int .i64 0]) 2 16:=⟨underlying131,by kernel_rfl,rfl,by decide⟩
@[reducible] def vD(p:Nat × Nat):List Value:=[.int .i64 p.1,.int .i64 p.2]
def kW:Nat->List Tx->List (Nat × Nat)
 |_,[]=>[]
 |a,p::L=>(a+p.length-(ax p).length,a+p.length-(ax p).length+(cr (ax p)).length)::kW (a+p.length+1) L
theorem Zn(c:UInt8): ∀M:Tx,aH c M=M.takeWhile (· != c)::(if c∈M then aH c ((M.dropWhile (· != c)).drop 1)else[])
 |[]=>rfl
 | d::M=>by
   have ih:=Zn c M;cases hd:d==c with
   | true=>
     obtain rfl:d=c:=by simpa using hd
     rw[aH,if_pos hd,List.takeWhile_cons_of_neg (by simp),List.dropWhile_cons_of_neg (by simp),if_pos (by simp)];rfl
   | false=>
     have h2:(d != c)=true:=by simpa using hd
     have h3:c≠d:=fun e=>by rw[e]at hd;simp at hd
     have h4:c∈d::M<->c∈M:=by simp[h3]
     rw[aH,if_neg (by rw[hd];decide),ih,List.takeWhile_cons_of_pos (p:=fun x=>x != c) h2,List.dropWhile_cons_of_pos (p:=fun x=>x != c) h2];simp only[h4]
theorem aba{i b:Nat}(hib:i<=b)(hb:b<=s.length): ∃K,i<=K/\K<=b/\(∀q,i<=q->q<K-> ∃y,s[q]? =some y/\y≠124)/\(K<b->s[K]? =some 124)/\
 kW i (aH 124 (aW s i b))=(K-(ax (aW s i K)).length,K-(ax (aW s i K)).length+(cr (ax (aW s i K))).length)::(if K<b then kW (K+1) (aH 124 (aW s (K+1) b))else[]):=by
 have hS:(s.drop i).take (b-i)=aW s i b:=by unfold aW;rw[List.drop_take]
 have hM:(aW s i b).length=b-i:=wO hb
 have hat: ∀q,i<=q->q<b->s[q]? =(aW s i b)[q-i]? :=fun q h1 h2=>by
  rw[Dk (by omega),show i+(q-i)=q by omega]
 generalize aW s i b=M at*;obtain⟨p,hp⟩:=aj (M.takeWhile (· != 124));obtain⟨D,hD⟩:=aj (M.dropWhile (· != 124));have vX:p++D=M:=by rw[<-hp,<-hD];exact List.takeWhile_append_dropWhile
 have hl:p.length+D.length=b-i:=by rw[<-hM,<-vX,aoW]
 have adT:aW s i (i+p.length)=p:=by
  have:=qF hS (c:=0) (d:=p.length) (by omega);rw[Nat.add_zero]at this;rw[this,<-vX,ap9,ap0]
 have hel: ∀y∈p,y≠124:=fun y hy=>by
  rw[<-hp]at hy;have:=List.all_eq_true.1 (List.all_takeWhile (p:=(· != 124)) (l:=M)) y hy;simpa using this
 have hmem:(124:UInt8)∈M<->D≠[]:=by
  constructor
  ·intro h e
   rw[<-vX,e,List.append_nil]at h;exact hel _ h rfl
  intro h
  cases hd:D with
  |nil=>exact absurd hd h
  | cons y r=>
    have:=je (l:=M) (p:=(· != 124)) (c:=y) (by rw[hD,hd];rfl);have:y=124:=by simpa using this
    rw[<-vX,hd,this];simp
 refine⟨i+p.length,by omega,by omega,fun q h1 h2=>?_,fun h=>?_,?_⟩
 ·have h3:q-i<p.length:=by omega
  refine⟨p[q-i],?_,hel _ (List.getElem_mem h3)⟩;rw[hat q h1 (by omega),<-vX,List.getElem?_append_left h3,am9 h3]
 ·cases hd:D with
  |nil=>rw[hd]at hl;simp at hl;omega
  | cons y r=>
    have:=je (l:=M) (p:=(· != 124)) (c:=y) (by rw[hD,hd];rfl);have h4:y=124:=by simpa using this
    rw[hat _ (by omega) h,<-vX,hd,h4,show i+p.length-i=p.length by omega];simp
 rw[Zn,hp,hD,kW,adT]
 congr 1
 by_cases h:D=[]
 ·rw[if_neg (fun h2=>hmem.1 h2 h),if_neg (by rw[h]at hl;simp at hl;omega)];rfl
 have:D.length≠0:=fun e=>h (aqe.1 e)
 rw[if_pos (hmem.2 h),if_pos (by omega)];have h5:=qF hS (c:=p.length+1) (d:=b-i) (anb _);rw[show i+(p.length+1)=i+p.length+1 by omega,show i+(b-i)=b by omega,ap8 (by omega),<-vX,<-apD,List.drop_left]at h5;rw[h5]
theorem ais(s:Tx)(a b:Nat)(hab:a<=b)(hb:b<=s.length)(hl:s.length<=262144)(w:World):Calls prog 88 #[.string (tx s),.int .i64 a,.int .i64 b] w (fun e w'=>Below w.heap.size w w'/\ ∃sa c,e= .returned (.slice sa (kW a (aH 124 (aW s a b))).length c)/\Own w' w.heap.size 133 2 sa (kW a (aH 124 (aW s a b))).length c (flat vD (kW a (aH 124 (aW s a b))))):=by
 obtain⟨A,hA⟩:=aj (kW a (aH 124 (aW s a b)));rw[hA];have HA:=hid hA.symm;have de:b<=262144:=by omega
 have HB:=hid hb;have HL:=hid hl;clear hA hb hl
 go_in
 go_wp2
 go_loopw [7,8] (fun o x wr=> ∃(i:Nat) (Q:List (Nat × Nat)) (sa:Option Addr) (c:Nat),x= .int .i64 i/\o= .slice sa Q.length c/\a<=i/\i<=b+1/\Q.length<=i/\Hid (i<=b->A=Q++kW i (aH 124 (aW s i b)))/\Hid (i=b+1->A=Q)/\Below w.heap.size w wr/\Hid (Own wr w.heap.size 133 2 sa Q.length c (flat vD Q))) (fun _ x _=>b+2-(intOf x).toNat)
 ·exact⟨a,[],none,0,rfl,rfl,anb _,by omega,apL _,hid fun _=>HA.out,hid fun h=>by omega,anM _ _,hid (Own.nil _ _ _ _)⟩
 obtain⟨i,Q,sa,c,rfl,rfl,hai,hib,hQi,HX,HY,B,O⟩:=hrel;rcases ani b i with h|h
 ·have HQ:=hid (HY.out (by omega))
  have zi:decide ((i:Int)<=(b:Int))=false:=ah;clear HX HY;go_wp2;go_ret;exact⟨B,sa,c,by rw[HQ.out];rfl,by rw[HQ.out];exact O.out⟩
 obtain⟨K,FT,hKb,K2,K3,K4⟩:=aba h HB.out
 have hX:=HX.out h;rw[K4]at hX;have SG:=hid (fun w=>Db s i K FT (aI HB.out) HL.out w)
 have eK:aW s (K-(ax (aW s i K)).length) K=ax (aW s i K):=by
  have h1:(aW s i K).length=K-i:=wO (aI HB.out);have h2:=mV (aW s i K);have hx:ax (aW s i K)=(aW s i K).drop ((aW s i K).length-(ax (aW s i K)).length):=aqb.1 (apr _)
  conv=>rhs;rw[hx]
  unfold aW;rw[apD]
  congr 1
  have h3:((s.take K).drop i).length=K-i:=h1;have h4:(ax ((s.take K).drop i)).length<=((s.take K).drop i).length:=h2;omega
 have LA:=hid (fun w=>Nk s (K-(ax (aW s i K)).length) K (by omega) (aI HB.out) HL.out w);rw[eK]at LA;generalize K-(ax (aW s i K)).length=a9 at*;generalize a9+(cr (ax (aW s i K))).length=e9 at*;have iB:=hid (show K+1<=b->A=(Q++[(a9,e9)])++kW (K+1) (aH 124 (aW s (K+1) b))from fun h=>by rw[hX,if_pos (by omega),List.append_assoc];rfl);have Ar:=hid (show K+1=b+1->A=Q++[(a9,e9)]from fun h=>by rw[hX,if_neg (by omega)]);have cE:=hid K2;have vk:=hid K3;have zi:decide ((i:Int)<=(b:Int))=true:=ah;clear HX HY K2 K3 K4 hX eK;go_wp2
 go_loopw [9] (fun y wx=> ∃j:Nat,i<=j/\j<=K/\y= .int .i64 j/\wx=wr) (fun y _=>K-(intOf y).toNat)
 ·exact⟨i,anb _,FT,rfl,gf⟩
 obtain⟨j,j1,j2,rfl,rfl⟩:=hrel
 by_cases KY:j<K
 ·obtain⟨y,hy,eL⟩:=cE.out j j1 KY
  have iy:=bB s j y hy;have zj:decide ((j:Int)<(b:Int))=true:=ah;have zy:((y.toNat:Int) != 124)=true:=mZ y 124 eL;clear hy eL;go_wp2
  go_roundw;exact⟨j+1,by omega,by omega,by go_num,gf⟩;simp[intOf];omega
 obtain rfl:j=K:=by omega
 rcases ani j b with rG|rG
 focus
  have iy:=bB s j 124 (vk.out rG);have zj:decide ((j:Int)<(b:Int))=true:=ah;have zy:(((124:UInt8).toNat:Int) != 124)=false:=rfl
 rotate_left
 focus
  have zj:decide ((j:Int)<(b:Int))=false:=ah
 all_goals
  have O1:=O.out
  go_wp2_with (first
   |(go_at_call 86;refine av (SG.out _) ?_)
   |(go_at_call 87;refine av (LA.out _) ?_)
   |(at_builtin;go_loud(refine jd MW (.tmp 31) (.tmp 38) rfl rfl rfl O1 rfl rfl (by intro u hu;simp at hu;rcases hu with rfl|rfl<;>rfl) B B.size (by omega) cz ?_)))
  intro a3 c3 w3 o3 g3 B3
  have O3:=hid (show Own w3 w.heap.size 133 2 a3 (Q++[(a9,e9)]).length c3 (flat vD (Q++[(a9,e9)]))from by
   rw[aoW,j9,lG];exact o3)
  clear O1 o3 g3 B;go_wp2
  go_roundw;exact⟨j+1,Q++[(a9,e9)],a3,c3,by go_num,(by rw[aoW];rfl),by omega,by omega,by rw[aoW];simp;omega,iB,Ar,B3,O3⟩;simp[intOf];omega
theorem aiG: ∀(n:Nat),n<=262145-> ∀w,Calls prog 89 #[.int .i64 n] w (aJ w (.string (tx (aoc n)))):=by
 intro n
 induction n using Nat.strongRecOn with
 | _ n ih=>
   intro hn w
   by_cases h:n<10
   ·have HD:=hid (show aoc n=[aog (48+n)] by rw[aoc,dif_pos h])
    have z:decide ((n:Int)<10)=true:=ah
    have hw:((48:Int)+(n:Int))=(((aog (48+n)).toNat:Nat):Int):=by
     rw[UInt8.toNat_ofNat',Nat.mod_eq_of_lt (by omega)];omega
    have B:=al w (.cells #[.int .u8 (48+(n:Int))] 5);have h0:=(aA.new w #[.int .u8 (48+(n:Int))] 5).get 0 _ rfl;generalize aog (48+n)=b at*
    have cv:(convert 94 9 (.slice (some ⟨w.heap.size,0,none⟩) 1 1)).run prog (w.alloc (.cells #[.int .u8 (48+(n:Int))] 5))= .ok (.string (tx [b])) (w.alloc (.cells #[.int .u8 (48+(n:Int))] 5)):=
     run_convert_bytes_back _ 94 9 5 ⟨w.heap.size,0,none⟩ 1 [b] underlying94 underlying5 underlying9 (fun j hj=>by
      obtain rfl:j=0:=by simp at hj;exact hj
      rw[hw]at h0⊢;exact h0)
    clear ih hn hw h0
    go_in
    go_wp2;go_ret;exact⟨by rw[HD.out];rfl,B⟩
   have HD:=hid (show aoc n=aoc (n/10)++aoc (n%10) by
    rw[aoc,dif_neg h]
    congr 1
    rw[aoc,dif_pos (by omega)])
   have z:decide ((n:Int)<10)=false:=ah;have I1:=hid (ih (n/10) (by omega) (by omega));have I2:=hid (ih (n%10) (by omega) (by omega))
   have cc:=wM (aoc (n/10)) (aoc (n%10)) (by
    have h1:=aqi ((n/10:Nat):Int) (by omega) (by omega);have h2:=aqi ((n%10:Nat):Int) (by omega) (by omega);rw[Lib.itoa_nonneg]at h1 h2
    omega)
   generalize aoc (n/10)=u1 at*;generalize aoc (n%10)=u2 at*;clear ih
   go_in
   go_wp2_with fail;refine(I1.out w).mono ?_;rintro e w1 ⟨rfl,E1⟩;go_wp2_with fail;refine(I2.out w1).mono ?_;rintro e w2 ⟨rfl,E2⟩;go_wp2;go_ret;exact⟨by rw[HD.out];rfl,aB E1 E2⟩
def Jc(p:EP (List (List ay) × Tx))(w1 w:World)(s:Tx)(t:aG)(e:Ending)(w':World):Prop:=
 (∃x,p= .error x/\va x w1 w' s e)\/
 ∃C r1 k' a n,p= .ok (C.map (·.l),r1)/\s.drop k'=r1/\e= .returned (.bool true)/\St w w' w1.heap.size/\bW w1 w' s k' 0 0 { t with ca:=a,cc:=n,code:=C }/\cL w' w.heap.size a n C
theorem XC: ∀(L:List Tx) (a:Nat),(kW a L).length=L.length
 |[],_=>rfl
 |p::L,a=>by rw[kW,ans,XC L];rfl
def nv(hp:EP (List (List ay) × Tx))(af:Int)(N nn f:Nat)(r:Tx)(acc:List (List ay)):Prop:=(nn=0/\hp=eR af N r)\/(nn≠0/\hp=jC af N (f+1) r acc/\r.length<=f)
section
variable {hp:EP (List (List ay) × Tx)} {af:Int} {N nn f:Nat} {r:Tx} {acc:List (List ay)}
theorem nv.no(h:nv hp af N nn f r acc)(hr:eE (ax r)=false):(nn=0->hp= .error (140,bJ N (ax r)))/\(nn≠0->hp= .ok (acc,r)):=by
 rcases h with⟨h1,h2⟩|⟨h1,h2, -⟩
 ·exact⟨fun _=>h2.trans (Zv hr),fun h=>absurd h1 h⟩
 exact⟨fun h=>absurd h h1,fun _=>h2.trans (Y2 hr)⟩
theorem nv.bad(h:nv hp af N nn f r acc)(hn:nn=0)(hb:rD (fh (ax r))=false):hp= .error (140,bJ N (ax r)):=by
 rcases h with⟨-, h2⟩|⟨h1, -⟩
 ·exact h2.trans (Zt hb)
 exact absurd hn h1
theorem akb(r:Tx):(bE (ax r)).length<=r.length:=ap1 (yX (ax r)).length_le (kX r).length_le
theorem nv.head(h:nv hp af N nn f r acc)(hn:nn=0)(hr:eE (ax r)=true)(hb:rD (fh (ax r))=true){n2:Nat}(h2:(fh (ax r)).length=n2)(h3:n2≠0):nv hp af N n2 r.length (bE (ax r)) ((aop n2 (⟨none,0,[]⟩:Cd)).map (·.l)):=by
 rcases h with⟨-, h4⟩|⟨h1, -⟩
 ·refine .inr ⟨h3,?_,akb r⟩
  rw[h4,Zw hr hb,h2,List.map_replicate]
 exact absurd hn h1
theorem nv.len(h:nv hp af N nn f r acc)(hn:nn≠0)(hr:eE (ax r)=true)(h2:(fh (ax r)).length≠acc.length):hp= .error (140,bJ N (ax r)):=by
 rcases h with⟨h1, -⟩|⟨-, h1, -⟩
 ·exact absurd h1 hn
 exact h1.trans (Y1 hr h2)
theorem nv.row(h:nv hp af N nn f r acc)(hn:nn≠0)(hr:eE (ax r)=true)(h2:(fh (ax r)).length=acc.length):
 (∀x,dn af N (fh (ax r)) (ax r) acc= .error x->hp= .error x)/\(∀l,dn af N (fh (ax r)) (ax r) acc= .ok l->nv hp af N nn (f-1) (bE (ax r)) l):=by
 rcases h with⟨h1, -⟩|⟨-, h1,h3⟩
 ·exact absurd h1 hn
 rw[Y5 hr h2]at h1
 refine⟨fun x hx=>by rw[h1,hx];rfl,fun l hx=>?_⟩;rw[hx]at h1;have h4:=YH hr;have h5:=(kX r).length_le;exact .inr ⟨hn,by rw[h1,show f-1+1=f by omega];rfl,by omega⟩
end
theorem age(h:t.ca=none/\t.cc=0/\t.code=[]):{ t with ca:=none,cc:=0,code:=[] }=t:=by
 obtain⟨af,name,bD,ia,ic,init,ca,cc,code,q,node⟩:=t;obtain⟨h1,h2,h3⟩:=h;simp only at h1 h2 h3;subst h1;subst h2;subst h3;rfl
theorem cL.nil(w:World)(B:Nat):cL w B none 0 []:=⟨Own.nil _ _ _ _,fun x hx=>(by cases hx),fun x hx=>(by cases hx),fun i j x y hx=>(by cases hx)⟩
theorem bW.code{n:Nat}{a:Option Addr}{C C':List Cd}(h:bW w1 w s k 0 0 { t with ca:=a,cc:=n,code:=C })(hl:C'.length=C.length):bW w1 w s k 0 0 { t with ca:=a,cc:=n,code:=C' }:=by
 refine⟨?_,h.bu,h.gl,h.sl,h.le⟩;have:=h.own;simp only[wL,cT]at this⊢;rw[hl];exact this
theorem afj{u:Tx}(h:aK u≠[]): ∃d,(aK u).getLast?=some d/\(eE u=true<->d=59):=by
 refine⟨_,aol h,?_⟩;unfold eE;rw[aol h];simp
theorem YW{z:Tx}{L:List Tx}{Q:List (Nat × Nat)}{q pos:Nat}(hQ:Q.drop q=kW pos (L.drop q))(hx:s.drop pos=jP (59::z) (L.drop q))(hq:q<L.length):
 ∃ p d r a e,L[q]? =some p/\L.drop q=p::L.drop (q+1)/\s.drop pos=p++d::r/\s.drop (pos+p.length+1)=r/\(q+1<L.length->r=jP (59::z) (L.drop (q+1)))/\Q[q]? =some (a,e)/\Q.drop (q+1)=kW (pos+p.length+1) (L.drop (q+1))/\
   a<=e/\e<=s.length/\(s.take e).drop a=ak p/\(ak p=[]<->e<=a)/\(ak p≠[]->a=bJ s.length (ax (s.drop pos))):=by
 obtain⟨p,hp⟩: ∃p,L[q]? =some p:=⟨_,am9 hq⟩;obtain⟨d,r,h1,h2,h3,h4⟩:=Rm hp hx;have hl:=congrArg anO h2;rw[aoN,aoW,ans]at hl;have hs:=mV p
 have hr:(cr (ax p)).length<=(ax p).length:=by
  obtain⟨b,h, -⟩:=mQ (ax p);have:=congrArg anO h;rw[aoW]at this;omega
 rw[h1,kW]at hQ;have hc:(s.drop pos).take p.length=p:=by rw[h2,ap9]
 have ht:(s.take (pos+p.length-(ax p).length+(cr (ax p)).length)).drop (pos+p.length-(ax p).length)=ak p:=by
  have h5:=qF hc (c:=p.length-(ax p).length) (d:=p.length-(ax p).length+(cr (ax p)).length) (by omega);rw[show pos+(p.length-(ax p).length)=pos+p.length-(ax p).length by omega,show pos+(p.length-(ax p).length+(cr (ax p)).length)=pos+p.length-(ax p).length+(cr (ax p)).length by omega]at h5;show aW s _ _=_;rw[h5,List.drop_take,show p.length-(ax p).length+(cr (ax p)).length-(p.length-(ax p).length)=(cr (ax p)).length by omega];have h6:p.drop (p.length-(ax p).length)=ax p:=(aqb.1 (apr _)).symm;rw[h6,Ov];obtain⟨b,h, -⟩:=mQ (ax p)
  conv=>lhs;arg 2;rw[h]
  rw[ap9]
 refine⟨p,d,r,_,_,hp,h1,h2,?_,h4,?_,?_,Nat.le_add_right _ _,by omega,ht,?_,fun h=>?_⟩
 ·rw[Nat.add_assoc,<-apD];exact h3
 ·have:=congrArg (·[0]?) hQ
  simpa using this
 ·rw[<-apD,hQ];rfl
 ·rw[Ov]
  constructor
  ·intro h;rw[h];simp
  intro h;exact aqe.1 (by omega)
 rw[h2,NW h]
 unfold bJ;rw[aoW,ans];omega
theorem bI.two(o:Option ay): ∃(i:ay) (er:Int),(∀w e w',bI o w e w'->e= .returned (.tuple #[vI i,.int .i64 er])/\Below w.heap.size w w')/\((er=91/\o=none)\/(er=0/\o=some i)):=by
 cases o with
 |none=>exact⟨⟨0,0,0,0,0,[],[],0⟩,91,fun _ _ _ h=>h,.inl ⟨rfl,rfl⟩⟩
 |some z=>exact⟨z,0,fun _ _ _ h=>h,.inr ⟨rfl,rfl⟩⟩
theorem aiH(R:bW w1 w s k 0 0 t)(ha:bF t.af=true)(h0:t.ca=none/\t.cc=0/\t.code=[]):Calls prog 35 #[.pointer (some ⟨w1.heap.size,0,none⟩)] w (Jc (eR t.af s.length (s.drop k)) w1 w s t):=by
 have qR:=hid R.sl;have LN:=hid (fun(wx:World) (t:aG) (k:Nat) (R:bW w1 wx s k 0 0 t)=>Da R);have WR:=hid (fun(wx:World) (t:aG) (k:Nat) (R:bW w1 wx s k 0 0 t) n a=>yQ R n a);have UL:=R.lt;have R0:=hid (show bW w1 w s k 0 0 { t with ca:=none,cc:=0,code:=[] }from by rw[age h0];exact R);have hk0:=R.le;obtain⟨N,hN⟩:=aj s.length;have HN:=hid hN;have hNb:N<=262144:=by have:=R.sl;omega
 obtain⟨hp,FQ⟩: ∃hp,hp=eR t.af s.length (s.drop k):=⟨_,rfl⟩;rw[<-FQ];rw[hN]at FQ hk0;have Af:=hid (show nv hp t.af N 0 0 (s.drop k) (([]:List Cd).map (·.l))from .inl ⟨rfl,FQ⟩);clear FQ R h0 hN
 go_in
 go_wp2_with fail
 go_loopw [3] (fun x wi=> ∃(nn kk f:Nat) (C:List Cd) (ac:Option Addr),x= .int .i64 nn/\kk<=N+1/\Hid (nv hp t.af N nn f (s.drop kk) (C.map (·.l)))/\Hid (bW w1 wi s kk 0 0 { t with ca:=ac,cc:=nn,code:=C })/\Hid (cL wi w.heap.size ac nn C)/\Hid (St w wi w1.heap.size)/\w.heap.size<=wi.heap.size/\kq C 0 kk) (fun _ wi=>N+1-(intOf ((wi.cell? ⟨w1.heap.size,1,none⟩).getD undef)).toNat)
 ·exact⟨0,k,0,[],none,rfl,hk0,Af,R0,hid (cL.nil _ _),hid (aX (anM _ _)),anb _,kq.new 0 k⟩
 obtain⟨nn,kk,f,C,ac,rfl,hkk,HT,RR,OC,SS,hB,HL⟩:=hrel;have jI:=OC.out.len;have hnn:=(Own.cap OC.out.row).2.1;have fQ:=RR.out.bx.get 1 _ rfl;have Ed:=hid (show(wr.cell? ⟨w1.heap.size,1,none⟩).getD undef= .int .i64 kk by rw[fQ];rfl);have IQ:=hid (LN.out _ _ _ RR.out);rw[HN.out]at IQ;have hds:=Bh s kk;obtain⟨u,hu⟩:=aj (ax (s.drop kk));have XN:=hid (fun h=>HT.out.no h);have XB:=hid (fun h h2=>HT.out.bad h h2);have XH:=hid (fun h h2 h3 n2 h4 h5=>HT.out.head h h2 h3 (n2:=n2) h4 h5);have XL:=hid (fun h h2 h3=>HT.out.len h h2 h3);have XR:=hid (fun h h2 h3=>HT.out.row h h2 h3);rw[hu]at XN XB XH XL XR hds;rw[List.length_map,jI]at XL XR;have HU:=hid hu;clear fQ HT;go_wp2_with fail;refine IQ.out.mono ?_;rintro e w2 ⟨hv,E2⟩;unfold uc at hv;rw[hu]at hv;have R2:=hid (RR.out.below E2);have Es:=hid (OC.out.below E2);have EF:=hid (SS.out.trans (aX (bw:=w1.heap.size) E2));have Kg:=ap1 hB E2.size;have c0:=R2.out.bx.get 0 _ rfl;have vZ:=R2.out.lt;rw[HN.out]at hds;obtain⟨p0,di⟩:=aj (bJ N u);rw[di]at XN XB XL hv hds;clear hu RR OC SS E2 IQ LN
 have Cb:(u=[]/\eE u=false/\p0=N/\e= .returned (.tuple #[.int .i64 (p0:Nat),.int .i64 N,.int .i64 N,.bool false]))\/(∃(nx tt:Nat) (d:UInt8),(eE u=true<->d=59)/\aK u≠[]/\s[tt-1]? =some d/\p0+(aK u).length=tt/\p0<tt/\tt<=N/\s.drop nx=bE u/\nx<=N+1/\kk<nx/\e= .returned (.tuple #[.int .i64 (p0:Nat),.int .i64 (tt:Nat),.int .i64 nx,.bool true])):=by
  rcases hv with⟨h1,h2⟩|⟨nx,h1,h2,h3,h4⟩
  ·refine .inl ⟨h1,by rw[h1];rfl,?_,?_⟩
   ·rw[<-di,h1,yK]
   rw[h2,<-di,h1,yK]
  obtain⟨c,hc⟩: ∃c,u.head?=some c:=by
   cases u with
   |nil=>exact absurd rfl h1
   |cons c r=>exact⟨c,rfl⟩
  have hcb:aq c=false:=je (l:=s.drop kk) (p:=aq) (by rw[show(s.drop kk).dropWhile aq=u from HU.out];exact hc);have nC:(aK u).head?=some c:=(Cn (b:=[]) hc hcb (by simp)).2.2;have hne:aK u≠[]:=fun h=>by rw[h]at nC;cases nC
  obtain⟨d,hd1,jJ⟩:=afj hne
  have Kl:1<=(aK u).length:=by
   cases h:aK u with
   |nil=>exact absurd h hne
   |cons a b=>simp
  have dN:p0+u.length=N:=by
   have h5:=(kX (s.drop kk)).length_le;rw[HU.out,aoN,HN.out]at h5;rw[<-di];unfold bJ;omega
  have Ld:=VK u;have hat:(s.drop p0).take (aK u).length=aK u:=by rw[hds];exact(Gq u).1
  refine .inr ⟨nx,p0+(aK u).length,d,jJ,hne,?_,rfl,by omega,by omega,h2,h3,?_,h4⟩
  ·have:=xD hat (i:=(aK u).length-1) (x:=d) (by rw[<-List.getLast?_eq_getElem?];exact hd1)
   rw[show p0+(aK u).length-1=p0+((aK u).length-1) by omega];exact this
  have h5:=congrArg anO h2
  rw[aoN,HN.out]at h5
  have h6:(bE u).length<u.length:=by
   rcases ani (bE u).length u.length with h|h
   ·exact h
   exfalso
   unfold bE at h;have h7:=(apr (l:=u) (· != 10)).length_le;rw[aoN]at h;omega
  have h8:=(kX (s.drop kk)).length_le;rw[HU.out,aoN,HN.out]at h8;omega
 clear hv;rcases Cb with⟨h1,hrow,hpN,rfl⟩|⟨nx,tt,d,jJ,hne,hd1,qs,am2,am3,iJ,vV,hkx,rfl⟩
 rotate_left
 ·have iy: ∀w,(Instr.index 9 (.string (tx s)) (.int .i64 ((tt:Int)-1))).run prog w= .ok (.int .u8 d.toNat) w:=by
   have:=bB s (tt-1) d hd1
   rwa[show((tt-1:Nat):Int)=(tt:Int)-1 by omega]at this
  by_cases qi:d=59
  rotate_left
  ·have hrow:eE u=false:=by
    cases e:eE u with
    |false=>rfl
    |true=>exact absurd (jJ.1 e) qi
   have zy:((d.toNat:Int) != 59)=true:=mZ d 59 qi;obtain⟨X1,X2⟩:=XN.out hrow
   by_cases nD:nn=0
   ·have X1:=hid (X1 nD)
    have zn:((nn:Int)==0)=true:=ah;clear X2 nD HU iJ hd1 jJ hds di hne XN XB XH XL XR;go_wp2_with fail;refine(WR.out _ _ _ R2.out _ _).mono ?_;rintro e w9 ⟨rfl,RB⟩;go_wp2_with fail;go_ret;exact .inl ⟨_,X1.out,rfl,_,_,RB⟩
   have X2:=hid (X2 nD)
   have zn:((nn:Int)==0)=false:=ah;clear X1 nD HU iJ hd1 jJ hds di hne XN XB XH XL XR;go_wp2_with fail;exact bodyPost_ret (by simp[results,results35,go_sem]) rfl (.inr ⟨C,s.drop kk,kk,ac,nn,X2.out,rfl,rfl,EF.out,R2.out,Es.out⟩)
  subst qi
  have hrow:eE u=true:=jJ.2 rfl;have zy:(((59:UInt8).toNat:Int) != 59)=false:=rfl
  have eK:aW s p0 (tt-1)=(aK u).dropLast:=by
   rw[Zd hds (by omega),List.dropLast_eq_take,show tt-1-p0=(aK u).length-1 by omega]
   conv=>rhs;arg 2;rw[<-(Gq u).1]
   rw[List.take_take,Nat.min_eq_left (by omega)]
  have CE:=hid (fun w=>ais s p0 (tt-1) (by omega) (aI HN.out) qR.out w);rw[eK,show((tt-1:Nat):Int)=(tt:Int)-1 by omega]at CE;obtain⟨L,hL⟩:=aj (fh u);rw[show aH 124 (aK u).dropLast=L from hL]at CE;have hLn:=XC L p0;obtain⟨Q,hQ⟩:=aj (kW p0 L);rw[hQ]at CE hLn;obtain⟨n2,hn2⟩:=aj Q.length;rw[hn2]at CE hLn
  have hL0:n2≠0:=fun h=>by
   rw[h,<-hL]at hLn;exact absurd (aqe.1 hLn.symm) (mW 124 _)
  have amR:n2<=262145:=by
   have h1:=qG 124 (aK u).dropLast;rw[show aH 124 (aK u).dropLast=L from hL,List.length_dropLast]at h1;omega
  obtain⟨z,hz⟩:=YV hrow [];have Au:=hid (show s.drop p0=jP (59::z) (L.drop 0)from by rw[hds,ap0,<-hL];exact hz);have xq:=hid (show Q.drop 0=kW p0 (L.drop 0) by rw[ap0,ap0];exact hQ.symm);rw[hL]at XB XH XL XR;have XH:=hid (fun h h3=>XH.out h hrow h3 n2 hLn.symm hL0);have XB:=hid (fun h h2=>XB.out h h2);have XL:=hid (fun h h2=>XL.out h hrow h2);have XR:=hid (fun h h2=>XR.out h hrow h2);rw[<-hLn]at XL XR;rw[<-iJ]at XH XR;have zX:=hid hds;have eT:=hid hLn;have gI:=hid hn2;clear eK hL hQ hz hd1 jJ hds di iJ qs hne HU hLn hn2 XN;go_wp2_with fail;refine(CE.out _).mono ?_;rintro e w3 ⟨E3,sa,c,rfl,OQ⟩;have R3:=hid (R2.out.below E3);have Qi:=hid (Es.out.below E3);have Jd:=hid (EF.out.trans (aX (bw:=w1.heap.size) E3));have Tt:=ap1 Kg E3.size;have ams:=E3.size;have OQ:=hid OQ;clear E3 R2 Es EF c0 vZ
  by_cases nD:nn=0
  ·have zn:((nn:Int)==0)=true:=ah
   go_wp2_with fail
   go_loopw [9] (fun x wi=> ∃(m pos:Nat),x= .int .i64 m/\m<=n2/\Hid (Q.drop m=kW pos (L.drop m))/\Hid (m<n2->s.drop pos=jP (59::z) (L.drop m))/\Hid (∀j,j<m-> ∀c,L[j]? =some c->ak c=80::Lib.itoa (j:Int))/\Below w3.heap.size w3 wi) (fun x _=>n2-(intOf x).toNat)
   ·exact⟨0,p0,rfl,apL _,xq,hid fun _=>Au.out,hid fun j hj=>absurd hj (Nat.not_lt_zero _),anM _ _⟩
   obtain⟨m,pos,rfl,hmn,HQ,HX,HH,E⟩:=hrel;have c0:=(R3.out.below E).bx.get 0 _ rfl;have UE:=(R3.out.below E).lt
   by_cases hlt:m<n2
   ·obtain⟨p,d,r,a,en,eC,hdr,hx,hps,hr,hq,xZ,BA,BG,yj,kA,hpl⟩:=YW HQ.out (HX.out hlt) (by rw[<-eT.out];exact hlt)
    have OE:=Own.below OQ.out E;have EL:bK vD wr sa Q:=⟨Own.row OE,by have:=gI.out;omega⟩;have ca:wr.cell? ⟨bk sa,fo sa+m*2,none⟩=some (.int .i64 a):=EL.cell0 (m:=2) (fun _=>rfl) hq (by omega);have ce:wr.cell? ⟨bk sa,fo sa+m*2+1,none⟩=some (.int .i64 en):=EL.cell (m:=2) (fun _=>rfl) hq 1 (by omega);have ix:=EL.idx MW (fun _=>rfl) m (by rw[gI.out];exact hlt) c;rw[gI.out]at ix
    have sl: ∀w,(Instr.sliceAt 9 (.string (tx s)) (some (.int .i64 a)) (some (.int .i64 en)) none).run prog w= .ok (.string (tx (ak p))) w:=by
     have h1:=jD s a en BA BG;rw[yj]at h1;exact h1
    have hdl:=aqi (m:Int) (by omega) (by omega);have NU:=hid (aiG m (by omega));rw[<-Lib.itoa_nonneg]at NU;obtain⟨q,uF⟩:=aj (Lib.itoa (m:Int));rw[uF]at NU hdl;have cc: ∀w,(Op.stringOp .add ⟨#[80]⟩ (tx q)).run prog w= .ok (.string (tx (80::q))) w:=wM [80] q ah;have tS:decide ((m:Int)<(n2:Int))=true:=ah;have iB:=hid (show m+1<n2->s.drop (pos+p.length+1)=jP (59::z) (L.drop (m+1))from fun h=>by rw[hps];exact hr (by rw[<-eT.out];exact h));have pT:=hid xZ;have iA:=hid eC;have PU:=hid uF;have hab:a<=262144:=by have:=HN.out;omega
    have heb:en<=262144:=by have:=HN.out;omega
    obtain⟨ct,hct⟩:=aj (ak p);rw[hct]at sl;have Pn:=hid hct;obtain⟨pos2,BR⟩:=aj (pos+p.length+1);rw[BR]at iB pT;have Cb:(ct=80::q)\/ct≠80::q:=by by_cases h:ct=80::q;exact .inl h;exact .inr h
    clear eC hdr hx hps hr hq xZ BA BG yj kA hpl uF hct OE EL HQ HX BR;go_wp2_with fail;have cA:=fun(d:Nat) (os:Array Obj)=>Calls.regrown_of (yY (NU.out (grow (redrawn wr d) os)))
    have c0:=cell_regrown c0;have ca:=cell_regrown ca;have ce:=cell_regrown ce;refine wp_region_quiet_below aN aN ?_
    repeat(go_big_quiet_step (exact cA _ _))
    refine wpQuiet_nil ?_;intro _ hw';obtain⟨⟨dq,cH⟩,hw''⟩:=hw';subst hw'';have EQ:=below_regrown wr dq cH;generalize grow (redrawn wr dq) cH=W5 at*;have E5:=E.trans (EQ.mono E.size);clear cA c0 ca ce ix EQ E;rcases Cb with rfl|hne
    ·have y:=cmp_eq (80::q)
     have vh:=hid (show ∀j,j<m+1-> ∀c,L[j]? =some c->ak c=80::Lib.itoa (j:Int)from fun j hj d hd=>by
      by_cases e:j=m
      ·subst e
       rw[iA.out]at hd;rw[PU.out,<-Option.some.inj hd];exact Pn.out
      exact HH.out j (by omega) d hd)
     rw[y];go_wp2_with fail
     go_roundw;exact⟨m+1,pos2,by go_num,by omega,pT,iB,vh,E5⟩;simp[intOf];omega
    have y:=Ru hne
    have XE:=hid (XB.out nD (Ul rfl (by rw[List.getElem?_map,iA.out,Option.map_some,Pn.out]) (by rw[PU.out];exact hne)));have R5:=hid (R3.out.below E5);clear E5;rw[y];go_wp2_with fail;refine(WR.out _ _ _ R5.out _ _).mono ?_;rintro e w9 ⟨rfl,RB⟩;go_wp2_with fail;go_ret;exact .inl ⟨_,XE.out,rfl,_,_,RB⟩
   obtain rfl:m=n2:=by omega
   have HEAD:=hid (XH.out nD (KJ.2 fun i c hc=>HH.out i (by have:=(List.getElem?_eq_some_iff.1 hc).1;have:=eT.out;omega) c hc));have tS:decide ((m:Int)<(m:Int))=false:=by simp
   have R4:=R3.out.below E;have q8:=R4.bx.get 8 _ rfl;have hf8:=R4.dG 8;have HE:=hid E;have R4:=hid R4;clear E
   go_wp2_with (at_make;go_loud(refine OZ xI _ _ rfl rfl m rfl rfl rfl rfl (by omega) cz (anM wr.heap.size wr) (anb _) ?_))
   intro EJ w5 o5 s5 B5;have R5:=R4.out.below B5;have q85:=R5.bx.get 8 _ rfl;have amG:=R5.dG 8;have we:=R5.lt;have R6:=R5.put 8 (.slice EJ m m) (k':=kk) (fI:=0) (fH:=0) (t':={ t with ca:=EJ,cc:=m,code:=aop m ⟨none,0,[]⟩ }) (by simp[wL,cT]) R5.le;have q16:=R6.1.bx.get 1 _ rfl;have amC:=R6.1.dG 1;have adN:=R6.1.lt;have R7:=R6.1.put 1 (.int .i64 nx) (k':=nx) (fI:=0) (fH:=0) (t':={ t with ca:=EJ,cc:=m,code:=aop m ⟨none,0,[]⟩ }) rfl (aI HN.out);have UM:w.heap.size<=wr.heap.size:=ap1 Tt HE.out.size;have C7:=hid (cL.kept (cL.kept (cL.mono (cL.new o5) UM) R6.2.grown (fun b hb=>by simp at hb;omega)) R7.2.grown (fun b hb=>by simp at hb;omega));have S7:=hid (((Jd.out.trans (aX (bw:=w1.heap.size) HE.out)).trans (aX (bw:=w1.heap.size) B5)).trans (R6.2.trans R7.2));have hB7:=ap1 UM (ap1 B5.size (ap1 R6.2.grown.size R7.2.grown.size));have CV:=R7.1.bx.get 1 _ rfl;have cE:=hid (show(World.cell? _ ⟨w1.heap.size,1,none⟩).getD undef= .int .i64 nx from by rw[CV];rfl);have R7:=hid R7.1;clear R5 o5 s5 B5 R6 q8 hf8 CV;go_wp2_with fail
   go_roundw
   case rel=>exact⟨m,nx,(s.drop kk).length,aop m ⟨none,0,[]⟩,EJ,rfl,vV,HEAD,R7,C7,S7,hB7,kq.new m nx⟩
   case measure=>
    rw[cE.out,Ed.out];simp[intOf];omega
  have zn:((nn:Int)==0)=false:=ah
  by_cases vU:n2=nn
  rotate_left
  ·have Pb:((n2:Int) != (nn:Int))=true:=by simpa using fun h=>vU (by omega)
   have XE:=hid (XL.out nD vU);clear Au xq XB XH XL XR OQ Qi Jd;go_wp2_with fail;refine(WR.out _ _ _ R3.out _ _).mono ?_;rintro e w9 ⟨rfl,RB⟩;go_wp2_with fail;go_ret;exact .inl ⟨_,XE.out,rfl,_,_,RB⟩
  subst vU
  have Pb:((n2:Int) != (n2:Int))=false:=by simp
  have Jh:=hid (XR.out nD rfl);clear XR;obtain⟨pq,hpq⟩:=aj (dn t.af N L u (C.map (·.l)));rw[hpq]at Jh
  have IE:=hid (show pq=KQ ((C.take 0).map (·.l)) (dn t.af N (L.drop 0) (s.drop p0) ((C.drop 0).map (·.l))) by
   rw[<-hpq,zX.out];show _=KQ [] _;rw[Qc];rfl)
  clear hpq XB XH XL jI;go_wp2_with fail
  go_loopw [10] (fun x wi=> ∃(q pos:Nat) (C2:List Cd),x= .int .i64 q/\q<=n2/\Hid (Q.drop q=kW pos (L.drop q))/\Hid (q<n2->s.drop pos=jP (59::z) (L.drop q))/\Hid (pq=KQ ((C2.take q).map (·.l)) (dn t.af N (L.drop q) (s.drop pos) ((C2.drop q).map (·.l))))/\Hid (bW w1 wi s kk 0 0 { t with ca:=ac,cc:=n2,code:=C2 })/\Hid (cL wi w.heap.size ac n2 C2)/\Hid (Own wi w2.heap.size 133 2 sa n2 c (flat vD Q))/\Hid (St w wi w1.heap.size)/\w3.heap.size<=wi.heap.size/\kq C2 q kk) (fun x _=>n2-(intOf x).toNat)
  ·exact⟨0,p0,C,rfl,apL _,xq,hid fun _=>Au.out,IE,R3,Qi,OQ,Jd,anb _,HL⟩
  obtain⟨q,pos,C2,rfl,rK,HQ,HX,HP,RQ,OC,OQ,SQ,xX,su⟩:=hrel;have jI:=OC.out.len
  by_cases hlt:q<n2
  ·obtain⟨p,d,r,a,en,eC,hdr,hx,hps,hr,hq,xZ,BA,BG,yj,kA,hpl⟩:=YW HQ.out (HX.out hlt) (by rw[<-eT.out];exact hlt)
   obtain⟨y,oq⟩: ∃y,C2[q]? =some y:=⟨_,am9 (by rw[jI];exact hlt)⟩;obtain⟨cs1,vH⟩:=Rz oq;have EL:bK vD wr sa Q:=⟨Own.row OQ.out,by have:=gI.out;omega⟩;have ca:wr.cell? ⟨bk sa,fo sa+q*2,none⟩=some (.int .i64 a):=EL.cell0 (m:=2) (fun _=>rfl) hq (by omega);have ce:wr.cell? ⟨bk sa,fo sa+q*2+1,none⟩=some (.int .i64 en):=EL.cell (m:=2) (fun _=>rfl) hq 1 (by omega);have ix:=EL.idx MW (fun _=>rfl) q (by rw[gI.out];exact hlt) c;rw[gI.out]at ix;have wg:=(Own.lt OQ.out (Own.some OQ.out (by omega))).2;have hP:=HP.out;rw[hdr,cs1]at hP;have kR:(s.drop pos).drop (p.length+1)=r:=by rw[hx,<-apD];simp
   have PB:=hid (show ak p≠[]->mM t.af (ak p)=none->hp= .error (91,a)from fun h1 h2=>Jh.out.1 _ (by rw[hP,Qa h1 h2,hpl h1,HN.out]));have PS:=hid (show ak p=[]->pq=KQ ((C2.take (q+1)).map (·.l)) (dn t.af N (L.drop (q+1)) r ((C2.drop (q+1)).map (·.l)))from fun h=>by rw[hP,Qe h,kR,vH])
   have PP:=hid (show ∀i a' c',ak p≠[]->mM t.af (ak p)=some i->pq=KQ (((C2.set q ⟨a',c',y.l++[i]⟩).take (q+1)).map (·.l)) (dn t.af N (L.drop (q+1)) r (((C2.set q ⟨a',c',y.l++[i]⟩).drop (q+1)).map (·.l)))from fun i a' c' h1 h2=>by
    rw[hP,Qd h1 h2,kR,(Fe oq).1,(Fe oq).2])
   have sl: ∀w,(Instr.sliceAt 9 (.string (tx s)) (some (.int .i64 a)) (some (.int .i64 en)) none).run prog w= .ok (.string (tx (ak p))) w:=by
    have h1:=jD s a en BA BG;rw[yj]at h1;exact h1
   obtain⟨pos2,BR⟩:=aj (pos+p.length+1);rw[BR]at xZ hps;have iB:=hid (show q+1<n2->s.drop pos2=jP (59::z) (L.drop (q+1))from fun h=>by rw[hps];exact hr (by rw[<-eT.out];exact h));have pT:=hid xZ;rw[<-hps]at PS PP;obtain⟨ct,hct⟩:=aj (ak p);rw[hct]at PB PS PP sl kA
   have adu:ct.length<=262144:=by
    rw[<-yj,<-hct]at*;rw[aoN,List.length_take];have:=HN.out;omega
   have RI:=hid (fun w g=>(by have h:=aiE t.af ct w g;rw[ha,if_pos rfl]at h;exact h:Calls prog 20 #[.int .i64 t.af,.string (tx ct)] w (bI (mM t.af ct) w)));obtain⟨i,er,Bz,BQ⟩:=bI.two (mM t.af ct);have RI:=hid (fun w g=>(RI.out w g).mono fun e w' h=>Bz w e w' h);have IA:=hid BQ;have mw:=hid oq;have zU:=hid kA;have tS:decide ((q:Int)<(n2:Int))=true:=ah;have hab:a<=262144:=by have:=HN.out;omega
   have heb:en<=262144:=by have:=HN.out;omega
   clear eC hdr hx hps hr hq xZ BA BG yj kA hpl oq cs1 vH EL hP kR BR hct Bz BQ HQ HX HP;go_wp2_with fail;have ca5:=cell_regrown ca;have ce5:=cell_regrown ce;have nt:=hid ca;have Iq:=hid ce;clear ca ce;refine wp_region_quiet_below aN aN ?_
   repeat(go_big_quiet_step (fail))
   refine wpQuiet_nil ?_;intro _ hw';obtain⟨⟨dq,cH⟩,hw''⟩:=hw';subst hw'';have EQ:=below_regrown wr dq cH;generalize grow (redrawn wr dq) cH=W5 at*;have RQ:=hid (RQ.out.below EQ);have OC:=hid (OC.out.below EQ);have Qm:=hid (Own.below OQ.out EQ);have SQ:=hid (SQ.out.trans (aX (bw:=w1.heap.size) EQ));have xX:=ap1 xX EQ.size;have ca:W5.cell? ⟨bk sa,fo sa+q*2,none⟩=some (.int .i64 a):=(EQ.cell (p:=⟨bk sa,fo sa+q*2,none⟩) wg).trans nt.out;have ce:W5.cell? ⟨bk sa,fo sa+q*2+1,none⟩=some (.int .i64 en):=(EQ.cell (p:=⟨bk sa,fo sa+q*2+1,none⟩) wg).trans Iq.out;have wg:=Nat.lt_of_lt_of_le wg EQ.size;clear ca5 ce5 nt Iq EQ
   by_cases hb0:en<=a
   ·have zb:decide ((en:Int)<=(a:Int))=true:=ah
    have dm:=hid (PS.out (zU.out.2 hb0));go_wp2_with fail
    go_roundw;exact⟨q+1,pos2,C2,by go_num,by omega,pT,iB,dm,RQ,OC,Qm,SQ,xX,su.skip⟩;simp[intOf];omega
   have zb:decide ((en:Int)<=(a:Int))=false:=ah
   have BM:ct≠[]:=fun h=>hb0 (zU.out.1 h)
   go_upto_region 22 with(fail)
   have pZ:=hid (fun(w':World) (E:Below W5.heap.size W5 w')=>And.intro ((RQ.out.below E).bx.get 0 _ rfl) (And.intro ((RQ.out.below E).bx.get 4 _ rfl) (And.intro ((E.cell (p:=⟨bk sa,fo sa+q*2,none⟩) wg).trans ca) ((E.cell (p:=⟨bk sa,fo sa+q*2+1,none⟩) wg).trans ce))));have dV:=RQ.out.lt;have B0:=anM W5.heap.size W5;have gl:=hid (fun(w':World) (B:Below W5.heap.size W5 w')=>RQ.out.g.below B);obtain⟨op,dd,aa,bb,ag,lo,la,fe⟩:=i;have nt:=hid ca;have Iq:=hid ce;clear ca ce
   go_cut [11,12] (fun x y wx=> ∃b9:Nat,x= .pointer (some ⟨b9,0,none⟩)/\y= .int .i64 er/\Below W5.heap.size W5 wx/\W5.heap.size<=b9/\aA wx b9 [.int .i64 op,.int .i64 dd,.int .i64 aa,.int .i64 bb,.int .i64 ag,.string (tx lo),.string (tx la),.int .i64 fe])
   case first=>
    go_region_held3 (fun w'=>Below W5.heap.size W5 w'/\w'.cell? ⟨w1.heap.size,0,none⟩=some (.string (tx s))/\w'.cell? ⟨w1.heap.size,4,none⟩=some (.int .i64 t.af)/\w'.cell? ⟨bk sa,fo sa+q*2,none⟩=some (.int .i64 a)/\w'.cell? ⟨bk sa,fo sa+q*2+1,none⟩=some (.int .i64 en))
     (exact⟨aF,pZ.out _ aF⟩)
     (first
      |(go_at_call 20
        refine(RI.out _ (gl.out _ (jt (anM W5.heap.size W5)))).mono ?_;rintro e w9 ⟨rfl,E9⟩;have B9:=aB (jt (anM W5.heap.size W5)) E9;obtain⟨a1,a2,a3,a4⟩:=pZ.out _ B9)
      |(go_at_call 20
        refine(RI.out _ (gl.out _ (jt (eZ (anM W5.heap.size W5) _)))).mono ?_;rintro e w9 ⟨rfl,E9⟩;have B9:=aB (jt (eZ (anM W5.heap.size W5) _)) E9;obtain⟨a1,a2,a3,a4⟩:=pZ.out _ B9;have XN:=((aA.new W5 #[.int .i64 0,.int .i64 0,.int .i64 0,.int .i64 0,.int .i64 0,.string ⟨#[]⟩,.string ⟨#[]⟩,.int .i64 0] 50).below (below_drewN _ 1)).below E9;obtain⟨n0,n1,n2,n3,n4,n5,n6,n7⟩:=XN.gJ;have nf: ∀j,w9.frozen? ⟨W5.heap.size,j,none⟩=false:=fun j=>(E9.frozen (p:=⟨W5.heap.size,j,none⟩) (by simp)).trans (aV W5 _ _ j)
        have f0:=nf 0;have f1:=nf 1;have f2:=nf 2;have f3:=nf 3;have f4:=nf 4;have f5:=nf 5;have f6:=nf 6;have f7:=nf 7))
    all_goals(go_wp2_with fail;go_meet)
    ·exact⟨w9.heap.size,rfl,rfl,(uJ B9.size),B9.size,aA.new _ _ _⟩
    exact⟨W5.heap.size,rfl,rfl,(uJ B9.size),anb _,(((((((XN.set 0 (.int .i64 op)).set 1 (.int .i64 dd)).set 2 (.int .i64 aa)).set 3 (.int .i64 bb)).set 4 (.int .i64 ag)).set 5 (.string (tx lo))).set 6 (.string (tx la))).set 7 (.int .i64 fe)⟩
   obtain⟨b9,rfl,rfl,B9,BC,XB⟩:=hcut;have RW:=RQ.out.below B9;rcases IA.out with⟨rfl,hI⟩|⟨rfl,hI⟩
   ·have PE:=hid (PB.out BM hI)
    have cw:wc.cell? ⟨bk sa,fo sa+q*2,none⟩=some (.int .i64 a):=(B9.cell (p:=⟨bk sa,fo sa+q*2,none⟩) wg).trans nt.out;have RW:=hid RW;clear hI XB B9 B0 gl;go_wp2_with fail;refine(WR.out _ _ _ RW.out _ _).mono ?_;rintro e Hs ⟨rfl,RB⟩;go_wp2_with fail;go_ret;exact .inl ⟨_,PE.out,rfl,_,_,RB⟩
   have dm:=hid (fun a' c'=>PP.out _ a' c' BM hI)
   have OW:=hid (OC.out.below B9);have Qn:=hid (Own.below Qm.out B9);have SW:=hid (SQ.out.trans (aX (bw:=w1.heap.size) B9));obtain⟨x0,x1,x2,x3,x4,x5,x6,x7⟩:=XB.gJ;have q8:=RW.bx.get 8 _ rfl;simp only at q8;rw[jI]at q8;have Ll:=RW.lt;have hbW:=XB.1;have sC:=hid RW;obtain⟨y1,y2,iy8⟩:=OW.out.cell mw.out;have eL:=sP y1;simp only at eL;have yo:w.heap.size<=wc.heap.size:=SW.out.grown.size;have wo:y.l.length<=262145:=by have:=su.at mw.out;have:=HN.out;omega
   have HY:=List.mem_of_getElem? mw.out;have oY:=OW.out.own y HY;have sy:=hid oY;have hac:w.heap.size<=bk ac:=(Own.lt OW.out.row (Own.some OW.out.row (by omega))).1
   have rE: ∀b,y.a.map (·.block)=some b->w.heap.size<=b:=fun b hb=>by
    cases e:y.a with
    |none=>rw[e]at hb;cases hb
    | some z=>
      have h1:=(Own.lt sy.out (by rw[e];simp)).1;rw[e]at hb h1;simp[bk]at hb h1;omega
   have Ua: ∀b,ac.map (·.block)=some b->w.heap.size<=b:=fun b hb=>by
    cases e:ac with
    |none=>rw[e]at hb;cases hb
    |some z=>rw[e]at hb hac;simp[bk]at hb hac;omega
   have Im:=hid (show ∀a' c' w',Own w' w.heap.size 50 8 a' (y.l.length+1) c' (fD y.l++iC ⟨op,dd,aa,bb,ag,lo,la,fe⟩)->jF wc w' y.a y.c a' c'->
    (bW w1 (w'.setCell ⟨bk ac,fo ac+q,none⟩ (.slice a' (y.l.length+1) c')) s kk 0 0 { t with ca:=ac,cc:=n2,code:=C2.set q ⟨a',c',y.l++[⟨op,dd,aa,bb,ag,lo,la,fe⟩]⟩ }/\cL (w'.setCell ⟨bk ac,fo ac+q,none⟩ (.slice a' (y.l.length+1) c')) w.heap.size ac n2 (C2.set q ⟨a',c',y.l++[⟨op,dd,aa,bb,ag,lo,la,fe⟩]⟩)/\Own (w'.setCell ⟨bk ac,fo ac+q,none⟩ (.slice a' (y.l.length+1) c')) w2.heap.size 133 2 sa n2 c (flat vD Q)/\St w (w'.setCell ⟨bk ac,fo ac+q,none⟩ (.slice a' (y.l.length+1) c')) w1.heap.size/\wc.heap.size<=(w'.setCell ⟨bk ac,fo ac+q,none⟩ (.slice a' (y.l.length+1) c')).heap.size)from fun a' c' w' ho hg=>by
    obtain⟨O9,s9⟩:=cL.put OW.out mw.out (i:=⟨op,dd,aa,bb,ag,lo,la,fe⟩) (by rw[Gf];exact ho) hg;have AG:=(Own.step Qn.out hg.step (tE Qn.out sy.out (by decide))).1;have EK:=(Own.step OW.out.row hg.step (OW.out.far y HY)).1;refine⟨bW.code (C:=C2) ((sC.out.kept hg.step.grown (fun b hb=>by have:=rE b hb;omega)).kept s9.grown (fun b hb=>by have:=Ua b hb;omega)) (by rw[List.length_set]),O9,(Own.step AG s9 (tE AG EK (by decide))).1,St.more (St.more SW.out hg.step.grown rE) s9.grown Ua,ap1 hg.step.grown.size s9.grown.size⟩)
   have amA:bk ac≠b9:=by
    have h1:=(Own.lt OC.out.row (Own.some OC.out.row (by omega))).2;omega
   have HB9:=hid B9.size;clear XB B9 RW oY hI B0 gl;have oy:=sy.out
   go_wp2_with (at_builtin;go_loud(refine jd inl (.tmp 147) (.tmp 149) rfl rfl rfl oy rfl rfl (Vc ⟨op,dd,aa,bb,ag,lo,la,fe⟩) (anM w.heap.size wc) yo (by omega) cz ?_))
   intro a' c' w' ho hg B';obtain⟨R9,sH,IV,S9,hs9⟩:=Im.out _ _ _ ho hg;have R7:=sC.out.kept hg.step.grown (fun b hb=>by have:=rE b hb;omega);have XY:=R7.bx.get 8 _ rfl;simp only at XY;rw[jI]at XY;have nX:=(Own.step OW.out.row hg.step (OW.out.far y HY)).1;have y17:=(Fc nX mw.out).1;have y27:=(Fc nX mw.out).2;have R9:=hid R9;have sH:=hid sH;have IV:=hid IV;have S9:=hid S9;have lJ:=hid (dm.out a' c');have amZ:=R7.lt;have ads:w3.heap.size<=(w'.setCell ⟨bk ac,fo ac+q,none⟩ (.slice a' (y.l.length+1) c')).heap.size:=by have:=HB9.out;omega
   clear ho hg B' R7 nX oy;go_wp2_with fail
   go_roundw;exact⟨q+1,pos2,_,by go_num,by omega,pT,iB,lJ,R9,sH,IV,S9,ads,su.put mw.out _ _ _⟩;simp[intOf];omega
  obtain rfl:q=n2:=by omega
  have HF:=hid (Jh.out.2 (C2.map (·.l)) (by
   rw[HP.out,anj (by rw[<-eT.out];exact anb _),Qb,ap8 (by rw[jI];exact anb _),anj (by rw[jI];exact anb _)];simp))
  have tS:decide ((q:Int)<(q:Int))=false:=by simp
  have R4:=RQ.out;have q1:=R4.bx.get 1 _ rfl;have uA:=R4.dG 1;have amY:=R4.lt;have R5:=R4.put 1 (.int .i64 nx) (k':=nx) (fI:=0) (fH:=0) (t':={ t with ca:=ac,cc:=q,code:=C2 }) rfl (aI HN.out);have C5:=hid (OC.out.kept R5.2.grown (fun b hb=>by simp at hb;omega));have S5:=hid (SQ.out.trans R5.2);have Kh:=ap1 Tt (ap1 xX R5.2.grown.size);have CV:=R5.1.bx.get 1 _ rfl;have cE:=hid (show(World.cell? _ ⟨w1.heap.size,1,none⟩).getD undef= .int .i64 nx from by rw[CV];rfl);have R5:=hid R5.1;clear R4 CV;go_wp2_with fail
  go_roundw
  case rel=>exact⟨q,nx,f-1,C2,ac,rfl,vV,HF,R5,C5,S5,Kh,su.all hkx⟩
  case measure=>
   rw[cE.out,Ed.out];simp[intOf];omega
 rw[hpN]at XN
 obtain⟨X1,X2⟩:=XN.out hrow
 by_cases nD:nn=0
 ·have X1:=hid (X1 nD)
  have zn:((nn:Int)==0)=true:=ah;clear X2 nD HU hds di XN XB XH XL XR h1;go_wp2_with fail;refine(WR.out _ _ _ R2.out _ _).mono ?_;rintro e w9 ⟨rfl,RB⟩;go_wp2_with fail;go_ret;exact .inl ⟨_,X1.out,rfl,_,_,RB⟩
 have X2:=hid (X2 nD)
 have zn:((nn:Int)==0)=false:=ah;clear X1 nD HU hds di XN XB XH XL XR h1;go_wp2_with fail;exact bodyPost_ret (by simp[results,results35,go_sem]) rfl (.inr ⟨C,s.drop kk,kk,ac,nn,X2.out,rfl,rfl,EF.out,R2.out,Es.out⟩)
end Go.Proofs.YtkbbgjloifmmbaaGreatDoor
