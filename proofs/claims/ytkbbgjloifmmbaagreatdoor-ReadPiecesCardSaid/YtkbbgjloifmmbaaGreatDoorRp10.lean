/- What ReadPiecesP leans on, part 10. -/
import Derived.Test.YtkbbgjloifmmbaaGreatDoorRp9
set_option linter.unusedVariables false
namespace Go.Proofs.YtkbbgjloifmmbaaGreatDoor
def sgX(c:UInt8):Bool:=c==91||c==93||c==44
def inW(c:UInt8):Bool:= !blankC c&& !sgX c
def flushX(u:Tx):List Tx:=if u=[]then[]else[u]
def wordsA:Tx->Tx->List Tx
 |u,[]=>flushX u
 |u,c::r=>if blankC c then flushX u++wordsA [] r else if sgX c then flushX u++[c]::wordsA [] r else wordsA (u++[c]) r
def wordsX(s:Tx):List Tx:=wordsA [] s
theorem wA_nil(u:Tx):wordsA u []=flushX u:=rfl
theorem wA_blank(u:Tx){c:UInt8}(r:Tx)(h:blankC c=true):wordsA u (c::r)=flushX u++wordsX r:=by rw[wordsA,if_pos h];rfl
theorem sg_blank{c:UInt8}(h:sgX c=true):blankC c=false:=by
 have:=u8_all (p:=fun c=> !sgX c|| !blankC c) (by decide+kernel) c;rw[h]at this;simpa using this
theorem wA_sign(u:Tx){c:UInt8}(r:Tx)(h:sgX c=true):wordsA u (c::r)=flushX u++[c]::wordsX r:=by
 rw[wordsA,if_neg (by rw[sg_blank h];decide),if_pos h];rfl
theorem wA_in(u:Tx){c:UInt8}(r:Tx)(h:inW c=true):wordsA u (c::r)=wordsA (u++[c]) r:=by
 unfold inW at h;simp only[Bool.and_eq_true,Bool.not_eq_true']at h;rw[wordsA,if_neg (by rw[h.1];decide),if_neg (by rw[h.2];decide)]
theorem w_cases(c:UInt8):blankC c=true\/sgX c=true\/inW c=true:=by
 unfold inW;cases blankC c<;>cases sgX c<;>simp
theorem flush_ne{u:Tx}(h:u≠[]):flushX u=[u]:=by unfold flushX;rw[if_neg h]
theorem wordsA_sep: ∀(a u b:Tx) {c:UInt8},sgX c=true->wordsA u (a++c::b)=wordsA u a++[c]::wordsX b
 |[],u,b,c,h=>by rw[List.nil_append,wA_sign _ _ h,wA_nil]
 | x::a,u,b,c,h=>by
   rw[List.cons_append];rcases w_cases x with k|k|k
   ·rw[wA_blank _ _ k,wA_blank _ _ k,wordsX,wordsA_sep a [] b h,List.append_assoc];rfl
   ·rw[wA_sign _ _ k,wA_sign _ _ k,wordsX,wordsA_sep a [] b h,List.append_assoc];rfl
   ·rw[wA_in _ _ k,wA_in _ _ k,wordsA_sep a _ b h]
theorem wordsA_pad: ∀(a u b:Tx),(∀c∈b,blankC c=true)->wordsA u (a++b)=wordsA u a
 |[],u,[],_=>rfl
 | [],u,c::b,h=>by
   have:=wordsA_pad [] [] b (fun d hd=>h d (by simp[hd]));rw[List.nil_append,wA_blank _ _ (h c (by simp)),wA_nil];rw[List.nil_append,wA_nil]at this;rw[wordsX,this];simp[flushX]
 | x::a,u,b,h=>by
   rw[List.cons_append];rcases w_cases x with k|k|k
   ·rw[wA_blank _ _ k,wA_blank _ _ k,wordsX,wordsA_pad a [] b h];rfl
   ·rw[wA_sign _ _ k,wA_sign _ _ k,wordsX,wordsA_pad a [] b h];rfl
   ·rw[wA_in _ _ k,wA_in _ _ k,wordsA_pad a _ b h]
theorem words_dw: ∀l:Tx,wordsX (l.dropWhile blankC)=wordsX l
 |[]=>rfl
 | c::r=>by
   rw[List.dropWhile_cons];split
   ·rename_i h;rw[words_dw r];show _=wordsA [] (c::r);rw[wA_blank _ _ h];rfl
   ·rfl
theorem rdr_app(l:Tx): ∃b,l=rdr l++b/\ ∀c∈b,blankC c=true:=by
 refine⟨(l.reverse.takeWhile blankC).reverse,?_,fun c hc=>?_⟩
 ·unfold rdr
  rw[<-List.reverse_append,List.takeWhile_append_dropWhile,List.reverse_reverse]
 ·rw[List.mem_reverse]at hc
  exact List.all_eq_true.1 (List.all_takeWhile) c hc
theorem words_trim(l:Tx):wordsX (trimT l)=wordsX l:=by
 obtain⟨b,h1,h2⟩:=rdr_app l;rw[trimT_rdr,words_dw]
 conv=>rhs;rw[h1]
 exact(wordsA_pad _ _ _ h2).symm
theorem wordsA_mem: ∀(s u:Tx),∀w∈wordsA u s,∀c∈w,c∈u\/c∈s
 | [],u,w,hw,c,hc=>by
   rw[wA_nil]at hw;unfold flushX at hw
   split at hw
   ·cases hw
   ·rcases List.mem_singleton.1 hw with rfl;exact .inl hc
 | x::s,u,w,hw,c,hc=>by
   have fl:w∈flushX u->c∈u:=fun h=>by
    unfold flushX at h;split at h
    ·cases h
    ·rcases List.mem_singleton.1 h with rfl;exact hc
   rcases w_cases x with k|k|k
   ·rw[wA_blank _ _ k]at hw
    rcases List.mem_append.1 hw with h|h
    ·exact .inl (fl h)
    ·rcases wordsA_mem s [] w h c hc with h|h
     ·cases h
     ·exact .inr (by simp[h])
   ·rw[wA_sign _ _ k]at hw
    rcases List.mem_append.1 hw with h|h
    ·exact .inl (fl h)
    ·rcases List.mem_cons.1 h with rfl|h
     ·exact .inr (by simp at hc;simp[hc])
     ·rcases wordsA_mem s [] w h c hc with h|h
      ·cases h
      ·exact .inr (by simp[h])
   ·rw[wA_in _ _ k]at hw
    rcases wordsA_mem s _ w hw c hc with h|h
    ·rcases List.mem_append.1 h with h|h
     ·exact .inl h
     ·exact .inr (by simp at h;simp[h])
    ·exact .inr (by simp[h])
theorem wordsA_run: ∀(r u:Tx),u≠[]->wordsA u r=(u++r.takeWhile inW)::wordsX (r.dropWhile inW)
 |[],u,h=>by rw[wA_nil,flush_ne h];simp[wordsX,wA_nil,flushX]
 | c::r,u,h=>by
   have nb:inW c=false->wordsA u (c::r)=u::wordsX (c::r):=fun hc=>by
    rcases w_cases c with k|k|k
    ·rw[wA_blank _ _ k,flush_ne h,show wordsX (c::r)=wordsX r from wA_blank [] r k];rfl
    ·rw[wA_sign _ _ k,flush_ne h,show wordsX (c::r)=[c]::wordsX r from wA_sign [] r k];rfl
    ·rw[hc]at k;cases k
   cases hc:inW c with
   |false=>rw[nb hc,List.takeWhile_cons,List.dropWhile_cons,hc];simp
   |true=>rw[wA_in _ _ hc,wordsA_run r _ (by simp),List.takeWhile_cons,List.dropWhile_cons,hc];simp
theorem words_in{c:UInt8}(r:Tx)(h:inW c=true):wordsX (c::r)=(c::r.takeWhile inW)::wordsX (r.dropWhile inW):=by
 rw[wordsX,wA_in _ _ h,wordsA_run _ _ (by simp)];rfl
theorem words_sign{c:UInt8}(r:Tx)(h:sgX c=true):wordsX (c::r)=[c]::wordsX r:=by rw[wordsX,wA_sign _ _ h];rfl
theorem words_blank{c:UInt8}(r:Tx)(h:blankC c=true):wordsX (c::r)=wordsX r:=by rw[wordsX,wA_blank _ _ h];rfl
theorem words_single{s:Tx}(h0:s≠[])(h: ∀c∈s,inW c=true):wordsX s=[s]:=by
 cases s with
 |nil=>exact absurd rfl h0
 | cons c r=>
   have h1:r.takeWhile inW=r:=(tw_all fun d hd=>h d (by simp[hd])).1;have h2:r.dropWhile inW=[]:=(tw_all fun d hd=>h d (by simp[hd])).2;rw[words_in r (h c (by simp)),h1,h2];rfl
theorem words_nil: ∀{s:Tx},wordsX s=[]-> ∀c∈s,blankC c=true
 |[],_,c,hc=>by cases hc
 | x::s,h,c,hc=>by
   rcases w_cases x with k|k|k
   ·rw[words_blank _ k]at h
    rcases List.mem_cons.1 hc with rfl|hc
    ·exact k
    ·exact words_nil h c hc
   ·rw[words_sign _ k]at h;cases h
   ·rw[words_in _ k]at h;cases h
def Tr(s:Tx):Prop:=(∀c,s.head?=some c->blankC c=false)/\ ∀c,s.getLast?=some c->blankC c=false
theorem Tr.trim(l:Tx):Tr (trimT l):=⟨trimT_head,trimT_last⟩
theorem Tr.none{s:Tx}(h:Tr s)(hw:wordsX s=[]):s=[]:=by
 cases s with
 |nil=>rfl
 | cons c r=>
   have:=words_nil hw c (by simp);rw[h.1 c rfl]at this;cases this
theorem words_inv{s w:Tx}{L:List Tx}(h: ∀c,s.head?=some c->blankC c=false)(hw:wordsX s=w::L): ∃r,s=w++r/\wordsX r=L/\w≠[]:=by
 cases s with
 |nil=>simp[wordsX,wA_nil,flushX]at hw
 | cons c r=>
   rcases w_cases c with k|k|k
   ·rw[h c rfl]at k;cases k
   ·rw[words_sign _ k,List.cons.injEq]at hw
    exact⟨r,by rw[<-hw.1];rfl,hw.2,by rw[<-hw.1];simp⟩
   ·rw[words_in _ k,List.cons.injEq]at hw
    exact⟨r.dropWhile inW,by rw[<-hw.1,List.cons_append,List.takeWhile_append_dropWhile],hw.2,by rw[<-hw.1];simp⟩
theorem last_of_app{a r:Tx}(h:r≠[]):(a++r).getLast?=r.getLast?:=last_app h
theorem blank_last{a r:Tx}(h: ∀c,(a++r).getLast?=some c->blankC c=false)(hr: ∀c∈r,blankC c=true):r=[]:=by
 cases hn:r with
 |nil=>rfl
 | cons x t=>
   have hne:r≠[]:=by rw[hn];simp
   obtain⟨y,hy⟩: ∃y,r.getLast?=some y:=⟨r.getLast hne,List.getLast?_eq_some_getLast hne⟩;have h1:=h y (by rw[last_of_app hne];exact hy);rw[hr y (List.mem_of_getLast? hy)]at h1;cases h1
theorem words_one{s a:Tx}(h:Tr s)(hw:wordsX s=[a]):s=a:=by
 obtain⟨r,rfl,hr, -⟩:=words_inv h.1 hw;rw[blank_last h.2 (words_nil hr),List.append_nil]
theorem words_last: ∀(m u:Tx) {z:UInt8},inW z=true-> ∃L w,wordsA u (m++[z])=L++[w++[z]]
 |[],u,z,h=>⟨[],u,by rw[List.nil_append,wA_in _ _ h,wA_nil,flush_ne (by simp)];rfl⟩
 | x::m,u,z,h=>by
   rw[List.cons_append];rcases w_cases x with k|k|k
   ·obtain⟨L,w,e⟩:=words_last m [] h
    exact⟨flushX u++L,w,by rw[wA_blank _ _ k,wordsX,e,List.append_assoc]⟩
   ·obtain⟨L,w,e⟩:=words_last m [] h
    exact⟨flushX u++[x]::L,w,by rw[wA_sign _ _ k,wordsX,e];simp⟩
   ·obtain⟨L,w,e⟩:=words_last m (u++[x]) h
    exact⟨L,w,by rw[wA_in _ _ k,e]⟩
def regOfX(s:Tx):Option Nat:=(List.range 15).find? fun n=>regX n==s
theorem regOfX_some{s:Tx}{n:Nat}(h:regOfX s=some n):n<15/\s=regX n:=by
 unfold regOfX at h;have h1:=List.find?_some h;have h2:=List.mem_of_find?_eq_some h;exact⟨List.mem_range.1 h2,(by simpa using h1:regX n=s).symm⟩
theorem regOfX_regX{n:Nat}(h:n<15):regOfX (regX n)=some n:=by
 have k: ∀n:Fin 15,regOfX (regX n.val)=some n.val:=by decide+kernel
 exact k ⟨n,h⟩
def placeX(s:Tx):Option Tx:=if 2<=s.length/\s.head?=some 91/\s.getLast?=some 93/\nameB (trimT (s.drop 1).dropLast)=true then some (trimT (s.drop 1).dropLast)else none
def givenX(s:Tx):Option Int:=if s.head?=some 36 then numR (s.drop 1)else none
def mfenceX:Ins:=⟨5,0,0,0,0,[],[],0⟩
def movedX(x0 fr:Tx):Option Ins:=
 match placeX x0 with
 |some x=>if fr.head?=some 36 then(numR (fr.drop 1)).map fun n=>⟨1,0,0,0,n,x,[],0⟩else(regOfX fr).map fun a=>⟨2,0,a,0,0,x,[],0⟩
 | none=>match regOfX x0 with
   |none=>none
   |some d=>if fr.head?=some 36 then(numR (fr.drop 1)).map fun n=>⟨4,d,0,0,n,[],[],0⟩else(placeX fr).map fun x=>⟨3,d,0,0,0,x,[],0⟩
def parseX(s:Tx):Option Ins:=
 if 262144<s.length then none
 else if trimT s=[77,70,69,78,67,69]then some mfenceX
 else if ¬((trimT s).take 3=[77,79,86]/\((trimT s).drop 3).head?.any blankC=true)then none
 else if(44:UInt8)∈(trimT s).drop 3 then movedX (trimT (((trimT s).drop 3).takeWhile (· != 44))) (trimT ((((trimT s).drop 3).dropWhile (· != 44)).drop 1))
 else none
def place3(a b c:Tx):Option Tx:=if a=[91]/\c=[93]/\nameB b=true then some b else none
def movedW:List Tx->Option Ins
 | [a,b,c,d,e]=>
   if d=[44]then(match givenX e with
    |some n=>(place3 a b c).map fun x=>⟨1,0,0,0,n,x,[],0⟩
    | none=>match place3 a b c,regOfX e with
      |some x,some r=>some ⟨2,0,r,0,0,x,[],0⟩
      |_,_=>none)
   else if b=[44]then(match regOfX a,place3 c d e with
    |some r,some x=>some ⟨3,r,0,0,0,x,[],0⟩
    |_,_=>none)
   else none
 |[a,b,c]=>if b=[44]then(match regOfX a,givenX c with
  |some r,some n=>some ⟨4,r,0,0,n,[],[],0⟩
  |_,_=>none)else none
 |_=>none
def apartB(s:Tx):Bool:=((s.dropWhile blankC).drop 3).head?.any blankC
def parseW(s:Tx):Option Ins:=
 if 262144<s.length then none
 else if wordsX s=[[77,70,69,78,67,69]]then some mfenceX
 else if(wordsX s).length<4\/(wordsX s).head?≠some [77,79,86]\/apartB s=false then none
 else movedW ((wordsX s).drop 1)
theorem inW_of{p:UInt8->Bool}(hp: ∀n:Fin 256,(!p (UInt8.ofNat n.val)||inW (UInt8.ofNat n.val))=true){s:Tx}(h: ∀b∈s,p b=true): ∀b∈s,inW b=true:=fun b hb=>by
 have:=hp ⟨b.toNat,b.toNat_lt⟩;simp only[UInt8.ofNat_toNat,h b hb]at this;simpa using this
theorem name_inW{s:Tx}(h:nameB s=true): ∀b∈s,inW b=true:=inW_of (p:=nameC) (by decide+kernel) (name_all h)
theorem num_inW(n:Int): ∀b∈Lib.itoa n,inW b=true:=inW_of (p:=numC) (by decide+kernel) (itoa_num n)
theorem regX_inW{n:Nat}(h:n<15): ∀b∈regX n,inW b=true:=inW_of (p:=wordC) (by decide+kernel) (regX_word h)
theorem reg_words{s:Tx}(h:Tr s):regOfX s=match wordsX s with
 |[a]=>regOfX a
 |_=>none:=by
 cases hr:regOfX s with
 | some n=>
   obtain⟨hn,rfl⟩:=regOfX_some hr;rw[words_single (by have:=(regX_len_fin ⟨n,hn⟩).2;exact this) (regX_inW hn)];exact hr.symm
 | none=>
   split
   ·rename_i a e;rw[<-words_one h e];exact hr.symm
   ·rfl
theorem given_words{s:Tx}(h:Tr s):givenX s=match wordsX s with
 |[a]=>givenX a
 |_=>none:=by
 cases hr:givenX s with
 | some n=>
   unfold givenX at hr
   split at hr
   ·rename_i h36
    cases s with
    |nil=>cases h36
    | cons c r=>
      simp only[List.head?_cons,Option.some.injEq]at h36;subst h36;obtain⟨e, -⟩:=numR_iff.1 hr;simp only[List.drop_one,List.tail_cons]at e hr;subst e
      rw[words_single (by simp) (fun b hb=>by
       rcases List.mem_cons.1 hb with rfl|hb
       ·decide
       ·exact num_inW n b hb)]
      show _=givenX (36::Lib.itoa n);unfold givenX;rw[if_pos (by rfl)];exact hr.symm
   ·cases hr
 | none=>
   split
   ·rename_i a e;rw[<-words_one h e];exact hr.symm
   ·rfl
theorem nameB_ne{s:Tx}(h:nameB s=true):s≠[]:=fun e=>by subst e;cases h
theorem mid_ends{s:Tx}(h:2<=s.length)(h1:s.head?=some 91)(h2:s.getLast?=some 93):s=91::((s.drop 1).dropLast++[93]):=by
 cases s with
 |nil=>cases h1
 | cons c r=>
   simp only[List.head?_cons,Option.some.injEq]at h1;subst h1;have hne:r≠[]:=by intro e;subst e;simp at h
   obtain⟨X,hX⟩:=last_iff.1 h2
   have:r.getLast?=some 93:=by
    rw[<-h2];cases r with
    |nil=>exact absurd rfl hne
    |cons a b=>rw[List.getLast?_cons_cons]
   obtain⟨Y,rfl⟩:=last_iff.1 this;simp
theorem place_words{s:Tx}(h:Tr s):placeX s=match wordsX s with
 |[a,b,c]=>place3 a b c
 |_=>none:=by
 cases hr:placeX s with
 | some n=>
   unfold placeX at hr
   split at hr
   ·rename_i hh
    obtain⟨h1,h2,h3,h4⟩:=hh;cases hr;have e:=mid_ends h1 h2 h3;generalize (s.drop 1).dropLast=m at*;subst e
    have e2:wordsX (91::(m++[93]))=[[91],trimT m,[93]]:=by
     rw[words_sign _ (by decide),wordsX,wordsA_sep _ _ _ (by decide)];show[91]::(wordsX m++[93]::wordsX [])=_;rw[<-words_trim m,words_single (nameB_ne h4) (name_inW h4)];rfl
    rw[e2];show _=place3 _ _ _;unfold place3;rw[if_pos ⟨rfl,rfl,h4⟩]
   ·cases hr
 | none=>
   split
   ·rename_i a b c e
    unfold place3;split
    ·rename_i hh
     obtain⟨rfl,rfl,hb⟩:=hh;obtain⟨r,hs,hr2, -⟩:=words_inv h.1 e;have hne:r≠[]:=by intro e;subst e;cases hr2
     obtain⟨z,hz⟩: ∃z,r.getLast?=some z:=⟨r.getLast hne,List.getLast?_eq_some_getLast hne⟩;obtain⟨m,rfl⟩:=last_iff.1 hz;have hzb:blankC z=false:=h.2 z (by rw[hs,last_of_app hne];exact hz)
     have hz93:z=93/\wordsX m=[b]:=by
      rcases w_cases z with k|k|k
      ·rw[hzb]at k;cases k
      ·rw[wordsX,wordsA_sep _ _ _ k]at hr2
       have e3:wordsX m++[[z]]=[b]++[[93]]:=hr2;have:=List.append_inj' e3 rfl;exact⟨by simpa using this.2,this.1⟩
      ·obtain⟨L,w,e3⟩:=words_last m [] k
       rw[wordsX,e3]at hr2;have:=List.append_inj' (show L++[w++[z]]=[b]++[[93]]from hr2) rfl;have e4:w++[z]=[]++[93]:=by simpa using this.2
       have e5:=(List.append_inj' e4 rfl).2;simp only[List.cons.injEq,and_true]at e5;subst e5;cases k
     obtain⟨rfl,hm⟩:=hz93;have ht:trimT m=b:=words_one (Tr.trim m) (by rw[words_trim];exact hm)
     have hp:placeX s=some b:=by
      unfold placeX;have e6:(s.drop 1).dropLast=m:=by rw[hs];simp
      rw[e6,ht,if_pos ⟨by rw[hs];simp,by rw[hs];rfl,by rw[hs,last_of_app (by simp)];simp,hb⟩]
     rw[hp]at hr;cases hr
    ·rfl
   ·rfl
theorem given_reg{s:Tx}(h:s.head?=some 36):regOfX s=none/\placeX s=none:=by
 constructor
 ·cases hr:regOfX s with
  |none=>rfl
  | some n=>
    obtain⟨hn,rfl⟩:=regOfX_some hr;obtain⟨c,t,e,-, h2⟩:=regX_head hn;rw[e]at h;simp at h;exact absurd h h2
 ·unfold placeX;rw[if_neg];rintro⟨-, h2, -⟩;rw[h]at h2;cases h2
theorem movedX_opt(x0 fr:Tx):movedX x0 fr=match placeX x0 with
 | some x=>(match givenX fr with
   |some n=>some ⟨1,0,0,0,n,x,[],0⟩
   |none=>(regOfX fr).map fun a=>⟨2,0,a,0,0,x,[],0⟩)
 | none=>match regOfX x0 with
   |none=>none
   | some d=>match givenX fr with
     |some n=>some ⟨4,d,0,0,n,[],[],0⟩
     |none=>(placeX fr).map fun x=>⟨3,d,0,0,0,x,[],0⟩:=by
 unfold movedX givenX
 by_cases h:fr.head?=some 36
 ·obtain⟨h1,h2⟩:=given_reg h
  simp only[h,if_true,h1,h2];cases placeX x0<;>cases regOfX x0<;>cases numR (fr.drop 1)<;>rfl
 ·simp only[h,if_false]
theorem no44_reg:regOfX [44]=none:=by decide+kernel
theorem movedX_words{X Y:Tx}(hX:Tr X)(hY:Tr Y)(h44:(44:UInt8)∉X):movedX X Y=movedW (wordsX X++[44]::wordsX Y):=by
 rw[movedX_opt,place_words hX,reg_words hX,given_words hY,reg_words hY,place_words hY]
 have hn:([44]:Tx)∉wordsX X:=fun h=>h44 (by
  rcases wordsA_mem X [] _ h 44 (by simp)with h|h
  ·cases h
  ·exact h)
 generalize wordsX X=P at*;generalize wordsX Y=Q at*;clear hX hY h44;have p3: ∀a c:Tx,place3 a [44] c=none:=fun a c=>by unfold place3;rw[if_neg (by rintro⟨-, -, h⟩;cases h)]
 have p3a: ∀b c:Tx,place3 [44] b c=none:=fun b c=>by unfold place3;rw[if_neg (by rintro⟨h, -⟩;cases h)]
 have p3c: ∀a b:Tx,place3 a b [44]=none:=fun a b=>by unfold place3;rw[if_neg (by rintro⟨-, h, -⟩;cases h)]
 match P,Q,hn with
 |[],[],_=>rfl
 |[],[b],_=>rfl
 |[],[b,c],_=>simp only[List.nil_append,movedW,no44_reg];split<;>rfl
 |[],[b,c,d],_=>rfl
 | [],[b,c,d,e],_=>
   simp only[List.nil_append,movedW,no44_reg,p3a];split
   ·cases givenX e<;>rfl
   ·split<;>rfl
 |[],_::_::_::_::_::_,_=>rfl
 |[a],[],_=>simp only[List.cons_append,List.nil_append,movedW];cases regOfX a<;>rfl
 | [a],[c],_=>
   simp only[List.cons_append,List.nil_append,movedW,if_true];cases regOfX a<;>cases givenX c<;>rfl
 |[a],[c,d],_=>simp only[List.cons_append,List.nil_append,movedW];cases regOfX a<;>rfl
 | [a],[c,d,e],_=>
   simp only[List.cons_append,List.nil_append,movedW,if_true,p3]
   by_cases hd:d=[44]
   ·subst hd
    simp only[if_true,p3];cases regOfX a<;>cases givenX e<;>rfl
   ·simp only[hd,if_false]
    cases regOfX a<;>cases place3 c d e<;>rfl
 |[a],_::_::_::_::_,_=>simp only[List.cons_append,List.nil_append,movedW];cases regOfX a<;>rfl
 | [a,b],[],hn=>
   have h2:b≠[44]:=fun e=>hn (by simp[e])
   simp only[List.cons_append,List.nil_append,movedW,h2,if_false]
 |[a,b],[c],_=>rfl
 | [a,b],[c,d],hn=>
   have h2:b≠[44]:=fun e=>hn (by simp[e])
   simp only[List.cons_append,List.nil_append,movedW,h2,if_false,p3c];split
   ·cases givenX d<;>rfl
   ·rfl
 |[a,b],_::_::_::_,_=>rfl
 |[a,b,c],[],_=>simp only[List.cons_append,List.nil_append,movedW];cases place3 a b c<;>rfl
 | [a,b,c],[e],_=>
   simp only[List.cons_append,List.nil_append,movedW,if_true];cases place3 a b c<;>cases givenX e<;>cases regOfX e<;>rfl
 |[a,b,c],_::_::_,_=>simp only[List.cons_append,List.nil_append,movedW];cases place3 a b c<;>rfl
 | [a,b,c,d],[],hn=>
   have h2:b≠[44]:=fun e=>hn (by simp[e])
   have h4:d≠[44]:=fun e=>hn (by simp[e])
   simp only[List.cons_append,List.nil_append,movedW,h2,h4,if_false]
 |[a,b,c,d],_::_,_=>rfl
 |_::_::_::_::_::t,Q,_=>cases t<;>cases Q<;>rfl
theorem movedW_no{L:List Tx}(h:([44]:Tx)∉L):movedW L=none:=by
 match L,h with
 |[],_=>rfl
 |[_],_=>rfl
 |[_,_],_=>rfl
 |[a,b,c],h=>simp only[movedW];rw[if_neg (fun e=>h (by simp[e]))]
 |[_,_,_,_],_=>rfl
 |[a,b,c,d,e],h=>simp only[movedW];rw[if_neg (fun e=>h (by simp[e])),if_neg (fun e=>h (by simp[e]))]
 |_::_::_::_::_::_::_,_=>rfl
theorem movedW_short{L:List Tx}(h:L.length<3):movedW L=none:=by
 match L,h with
 |[],_=>rfl
 |[_],_=>rfl
 |[_,_],_=>rfl
 |_::_::_::_,h=>simp at h;omega
theorem trim_split(s:Tx): ∃b,s.dropWhile blankC=trimT s++b/\ ∀c∈b,blankC c=true:=by
 obtain⟨b,h1,h2⟩:=rdr_app (s.dropWhile blankC);refine⟨b,?_,h2⟩
 have e:trimT s=rdr (s.dropWhile blankC):=by
  rw[<-trimT_dw s,trimT_rdr];apply dropWhile_head;intro c hc;cases hr:rdr (s.dropWhile blankC)with
  |nil=>rw[hr]at hc;cases hc
  | cons x t=>
    rw[hr]at hc;simp only[List.head?_cons,Option.some.injEq]at hc;subst hc;exact head_dropWhile (l:=s) (by rw[h1,hr];rfl)
 rw[e];exact h1
theorem parseW_eq(s:Tx):parseW s=parseX s:=by
 unfold parseW parseX
 by_cases hl:262144<s.length
 ·rw[if_pos hl,if_pos hl]
 rw[if_neg hl,if_neg hl];have hT:=Tr.trim s;have hw:=words_trim s;obtain⟨bl,hb1,hb2⟩:=trim_split s;have hap:apartB s=(((trimT s)++bl).drop 3).head?.any blankC:=by unfold apartB;rw[hb1]
 rw[hap,<-hw];clear hap hw hb1;generalize trimT s=t at*
 by_cases hm:t=[77,70,69,78,67,69]
 ·subst hm;rw[if_pos (by decide+kernel),if_pos rfl]
 rw[if_neg (fun e=>hm (words_one hT e)),if_neg hm]
 by_cases hc:t.take 3=[77,79,86]/\(t.drop 3).head?.any blankC=true
 ·rw[if_neg (show ¬ ¬_ from fun h=>h hc)]
  obtain⟨h1,h2⟩:=hc;obtain⟨u,hu⟩: ∃u,t.drop 3=u:=⟨_,rfl⟩;have ht:t=[77,79,86]++u:=by rw[<-h1,<-hu,List.take_append_drop]
  rw[hu]at h2⊢
  obtain⟨b,r,rfl,hbb⟩: ∃b r,u=b::r/\blankC b=true:=by
   cases u with
   |nil=>cases h2
   |cons b r=>exact⟨b,r,rfl,h2⟩
  have hwt:wordsX t=[77,79,86]::wordsX (b::r):=by
   rw[ht];have hnb:inW b=false:=by unfold inW;rw[hbb];rfl
   show wordsX (77::(79::86::b::r))=_;rw[words_in _ (by decide)];simp[hnb,show inW 79=true by decide,show inW 86=true by decide]
  have hap:((t++bl).drop 3).head?.any blankC=true:=by rw[ht];simpa using hbb
  have e1:(if(wordsX t).length<4\/(wordsX t).head?≠some [77,79,86]\/((t++bl).drop 3).head?.any blankC=false then none else movedW ((wordsX t).drop 1))=movedW (wordsX (b::r)):=by
   rw[hwt];split
   ·rename_i h
    rcases h with h|h|h
    ·exact(movedW_short (by simp at h;omega)).symm
    ·exact absurd rfl h
    ·rw[hap]at h;cases h
   ·rfl
  rw[e1]
  by_cases h44:(44:UInt8)∈b::r
  ·rw[if_pos h44]
   obtain⟨A,B,e,hA⟩:=first_of 44 _ h44;rw[e];obtain⟨k1,k2⟩:=tw_app 44 B A hA;rw[k1,k2];show _=movedX (trimT A) (trimT B);rw[movedX_words (Tr.trim A) (Tr.trim B) (fun h=>hA (trimT_mem h)),words_trim,words_trim,wordsX,wordsA_sep _ _ _ (by decide)];rfl
  ·rw[if_neg h44]
   exact movedW_no (fun h=>h44 (by
    rcases wordsA_mem _ [] _ h 44 (by simp)with h|h
    ·cases h
    ·exact h))
 ·rw[if_pos hc]
  split
  ·rfl
  ·rename_i h
   exfalso;simp only[not_or]at h;obtain⟨n1,n2,n3⟩:=h;have n2:(wordsX t).head?=some [77,79,86]:=Classical.not_not.1 n2;have n3:((t++bl).drop 3).head?.any blankC=true:=by simpa using n3
   obtain⟨L,hL⟩: ∃L,wordsX t=[77,79,86]::L:=by
    generalize wordsX t=W at*;cases W with
    |nil=>cases n2
    |cons a b=>simp only[List.head?_cons,Option.some.injEq]at n2;exact⟨b,by rw[n2]⟩
   obtain⟨r,hr,hr2, -⟩:=words_inv hT.1 hL;cases r with
   | nil=>
     rw[<-hr2]at hL;rw[hL]at n1;simp[wordsX,wA_nil,flushX]at n1
   | cons x r=>
     refine hc ⟨by rw[hr];rfl,?_⟩;rw[hr]at n3⊢;simpa using n3
theorem placeX_name{s n:Tx}(h:placeX s=some n):nameB n=true:=by
 unfold placeX at h;split at h
 ·rename_i hh;cases h;exact hh.2.2.2
 ·cases h
theorem movedX_check{a b:Tx}{i:Ins}(h:movedX a b=some i):checkX i=true:=by
 have r15: ∀{s:Tx} {n:Nat},regOfX s=some n->regXB (n:Int)=true:=fun h=>regXB_of (regOfX_some h).1
 have n32: ∀{s:Tx} {n:Int},numR s=some n->n32B n=true:=fun h=>(numR_iff.1 h).2
 unfold movedX at h
 split at h
 ·rename_i x hx
  have hx:=placeX_name hx
  split at h
  ·cases hn:numR (b.drop 1)with
   |none=>rw[hn]at h;cases h
   |some n=>rw[hn]at h;cases h;simp[checkX,okX,wantX,hx,n32 hn]
  ·cases hn:regOfX b with
   |none=>rw[hn]at h;cases h
   |some n=>rw[hn]at h;cases h;simp[checkX,okX,wantX,hx,r15 hn]
 ·split at h
  ·cases h
  ·rename_i d hd
   split at h
   ·cases hn:numR (b.drop 1)with
    |none=>rw[hn]at h;cases h
    |some n=>rw[hn]at h;cases h;simp[checkX,okX,wantX,r15 hd,n32 hn]
   ·cases hn:placeX b with
    |none=>rw[hn]at h;cases h
    |some n=>rw[hn]at h;cases h;simp[checkX,okX,wantX,r15 hd,placeX_name hn]
theorem parseX_check{s:Tx}{i:Ins}(h:parseX s=some i):checkX i=true:=by
 unfold parseX at h
 split at h
 ·cases h
 split at h
 ·cases h;decide
 split at h
 ·cases h
 split at h
 ·exact movedX_check h
 ·cases h
def sgnL(r:Tx):Tx:=r.dropWhile blankC
def lineL(u:Tx):Tx:=rdr (u.takeWhile (· != 10))
def restL(u:Tx):Tx:=(u.dropWhile (· != 10)).drop 1
def nb(c:UInt8):Bool:= !blankC c
def twoL(l:Tx):Option (Tx × Tx):=
 let m:=(l.dropWhile nb).dropWhile blankC
 if m=[]\/m.any blankC=true then none else some (l.takeWhile nb,m)
def archW(w:Tx):Option Int:=if w=[88,56,54]then some 1 else if w=[82,73,83,67,86]then some 2 else none
abbrev EP(α:Type):=Except (Int × Nat) α
def plc(N:Nat)(u:Tx):Nat:=N-u.length
def headP(N:Nat)(r:Tx):EP (Int × Tx × Tx):=
 let u:=sgnL r
 match twoL (lineL u)with
 |none=>.error (140,plc N u)
 | some (w,n)=>match archW w with
   |none=>.error (5,plc N u)
   |some a=>.ok (a,n,restL u)
def cycleP(N:Nat)(r:Tx):EP (Tx × Tx):=
 let u:=sgnL r
 let l:=lineL u
 if l.head?≠some 34 then .ok ([],r)
 else if l.length<2\/l.getLast?≠some 34\/l.count 34≠2 then .error (140,plc N u)
 else .ok (trimT (l.drop 1).dropLast,restL u)
def thingI(arch:Int)(h:Tx):Option Ini:=
 if h.head?=some 91/\h.getLast?=some 93/\2<=h.length then
  (if nameB (trimT (h.drop 1).dropLast)=true then some ⟨-1,0,trimT (h.drop 1).dropLast,[],0⟩else none)
 else if(58:UInt8)∈h then
  match numR (trimT (h.takeWhile (· != 58))),regOfA arch (trimT ((h.dropWhile (· != 58)).drop 1))with
  |some n,some r=>if 0<=n/\n<16 then some ⟨n,r,[],[],0⟩else none
  |_,_=>none
 else if nameB h=true then some ⟨-1,0,h,[],0⟩else none
def valZ(v:Tx):Option (Tx × Int):=match numR v with
 |some n=>some ([],n)
 |none=>if nameB v=true then some (v,0)else none
def initC(o:Option Ini)(v:Option (Tx × Int)):Option Ini:=match o,v with
 |some x,some (l,n)=>some ⟨x.thread,x.reg,x.loc,l,n⟩
 |_,_=>none
theorem initC_none(o:Option Ini):initC o none=none:=by cases o<;>rfl
theorem initC_no(v:Option (Tx × Int)):initC none v=none:=rfl
def initR(arch:Int)(s:Tx):Option Ini:=
 if 262144<s.length\/(61:UInt8)∉s then none
 else initC (thingI arch (trimT (s.takeWhile (· != 61)))) (valZ (trimT ((s.dropWhile (· != 61)).drop 1)))
def partsP(arch:Int)(N:Nat):List Tx->Tx->List Ini->EP (List Ini)
 |[],_,acc=>.ok acc
 | p::L,v,acc=>
   if trimT p=[]then partsP arch N L (v.drop (p.length+1)) acc
   else match initR arch p with
    |none=>.error (140,plc N (sgnL v))
    |some x=>partsP arch N L (v.drop (p.length+1)) (acc++[x])
def initsP(arch:Int)(N:Nat)(r:Tx):EP (List Ini × Tx):=
 let u:=sgnL r
 if u.head?≠some 123\/(125:UInt8)∉u then .error (140,plc N u)
 else match partsP arch N (splitC 59 ((u.takeWhile (· != 125)).drop 1)) (u.drop 1) []with
  | .error e=>.error e
  | .ok l=>.ok (l,(u.dropWhile (· != 125)).drop 1)
def rowB(u:Tx):Bool:=(lineL u).getLast?==some 59
def cellsL(u:Tx):List Tx:=splitC 124 (lineL u).dropLast
def insP(arch:Int)(s:Tx):Option Ins:=if arch=1 then parseX s else parseI s
def cellsP(arch:Int)(N:Nat):List Tx->Tx->List (List Ins)->EP (List (List Ins))
 |[],_,acc=>.ok acc
 |c::L,v,[]=>.ok []
 | c::L,v,x::acc=>
   if trimT c=[]then match cellsP arch N L (v.drop (c.length+1)) acc with
    | .error e=>.error e
    | .ok r=>.ok (x::r)
   else match insP arch (trimT c)with
    |none=>.error (91,plc N (sgnL v))
    | some i=>match cellsP arch N L (v.drop (c.length+1)) acc with
      | .error e=>.error e
      | .ok r=>.ok ((x++[i])::r)
def rowsP(arch:Int)(N:Nat):Nat->Tx->List (List Ins)->EP (List (List Ins) × Tx)
 |0,r,acc=>.ok (acc,r)
 | n+1,r,acc=>
   let u:=sgnL r
   if rowB u=false then .ok (acc,r)
   else if(cellsL u).length≠acc.length then .error (140,plc N u)
   else match cellsP arch N (cellsL u) u acc with
    | .error e=>.error e
    | .ok l=>rowsP arch N n (restL u) l
def headsB(l:List Tx):Bool:=l.mapIdx (fun i c=>decide (trimT c=80::Lib.itoa (i:Int))) |>.all id
def tableP(arch:Int)(N:Nat)(r:Tx):EP (List (List Ins) × Tx):=
 let u:=sgnL r
 if rowB u=false\/headsB (cellsL u)=false then .error (140,plc N u)
 else rowsP arch N (r.length+1) (restL u) (List.replicate (cellsL u).length [])
def condP(arch:Int)(N:Nat)(r:Tx):EP (Int × Nd):=
 let u:=sgnL r
 match parseC arch u with
 | .ok c=>.ok c
 | .error (e,k)=>.error (e,if e=2 then 0 else plc N u+k)
def mkTs(arch:Int)(name cycle:Tx)(init:List Ini)(code:List (List Ins))(q:Int)(x:Nd):Tst:=⟨arch,name,cycle,none,0,init,none,0,code.map fun l=>⟨none,0,l⟩,q,x⟩
def bodyP(N:Nat)(s:Tx):EP Tst:=do
 let (a,n,r) <-headP N s
 let (c,r) <-cycleP N r
 let (i,r) <-initsP a N r
 let (l,r) <-tableP a N r
 let (q,x) <-condP a N r
 .ok (mkTs a n c i l q x)
def parseF(s:Tx):EP Tst:=
 if 262144<s.length then .error (2,0)
 else match bodyP s.length s with
  | .error e=>.error e
  | .ok t=>if tstE t=0 then .ok t else .error (tstE t,0)
end Go.Proofs.YtkbbgjloifmmbaaGreatDoor
