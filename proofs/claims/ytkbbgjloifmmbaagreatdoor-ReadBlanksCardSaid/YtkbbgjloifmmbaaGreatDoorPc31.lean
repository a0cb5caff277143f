/- What ReadBlanksP leans on, part 31. -/
import Derived.Shelf.Sort.Plain
import Derived.Shelf.Slices.In.SortNone
import Derived.Shelf.Slices.CompactS
import Derived.Shelf.SlSortCmp.NoneTotal
import Derived.Test.YtkbbgjloifmmbaaGreatDoorPc16
import Derived.Sort.OwnSorted
set_option linter.unusedVariables false
set_option maxRecDepth 100000
set_option maxHeartbeats 6400000
open _root_.Go.Proofs.Tryz
open _root_.List renaming getElem?_eq_getElem->am9,length_append->aoW,mem_of_getElem?->anw,getElem?_eq_some_iff->anx,eq_nil_of_length_eq_zero->ane,take_succ_eq_append_getElem->anH,take_length->ao0,take_zero->aqk,getElem!_eq_getElem?_getD->aql,length_mergeSort->aqp,take_append_drop->aoT,append_nil->aoQ,any_cons->aqr,size_toArray->aqs,append_assoc->anZ,replicate->aop,length_take->ao2,any_eq_true->an1,nil_append->anu,length_map->anL,map_append->ao3,mem_append->aok
open _root_.And renaming intro->anY
open _root_.Go.Lib renaming OthersKept->aqm
open _root_.Array renaming getElem?_eq_some_iff->aqn
open _root_.Bool renaming eq_false_iff->ao9
open _root_.Go.Value.slice renaming injEq->aqo
open _root_.Nat renaming zero_le->apL,le_refl->anb,zero_add->ann
open _root_.Go.Sort renaming ahead->aqq
open _root_.Go.RowKit.Below renaming refl->anM
open _root_.Go.Shelf renaming Ren->aqj
namespace Go.Proofs.YtkbbgjloifmmbaaGreatDoor
open Go.Shelf
variable{l:List Th}{d:List gV}{B E c g n:Nat}{a:Option Addr}{t y:Th}{w w':World}
def Tryz.ae3:aqj:=⟨fun|190=>145|125=>231|258=>230|128=>294|129=>295|302=>285|303=>286|304=>287|305=>288|306=>289|307=>290|308=>291|309=>292|310=>293|333=>326|329=>327|330=>328|334=>329|335=>330|336=>331|344=>349|n=>n,fun|31=>42|9=>9|3=>3|46=>45|0=>0|51=>265|53=>244|4=>4|183=>259|182=>258|131=>85|5=>5|218=>288|222=>292|228=>305|229=>306|n=>n,fun|n=>n⟩
theorem Tryz.VD:Go.Proofs.Lays.n190 prog Tryz.ae3:=by repeat' first|kernel_rfl|(intro _;kernel_rfl)|constructor
def Tryz.ae4:aqj:=⟨fun|194=>146|n=>n,fun|31=>42|9=>9|3=>3|4=>4|0=>0|n=>n,fun|n=>n⟩
theorem Tryz.VE:Go.Proofs.Lays.n194 prog Tryz.ae4:=by repeat' first|kernel_rfl|(intro _;kernel_rfl)|constructor
def Tryz.afA:aqj:=⟨fun|6=>282|15=>231|14=>324|28=>294|29=>295|20=>340|21=>341|22=>342|23=>343|24=>344|25=>345|26=>346|27=>347|46=>352|47=>327|48=>328|49=>353|50=>354|57=>358|n=>n,fun|22=>112|24=>25|25=>256|3=>3|39=>45|0=>0|53=>265|55=>244|4=>4|46=>259|45=>258|50=>85|5=>5|9=>9|66=>288|70=>292|76=>305|77=>306|n=>n,fun|n=>n⟩
theorem Tryz.V6:Go.Proofs.SlLaysF0.n6 prog Tryz.afA:=by
 constructor
 case f6=>exact⟨f282.name,by decide,func282.trans (congrArg some (by kernel_rfl))⟩
 case f14=>exact⟨f324.name,by decide,func324.trans (congrArg some (by kernel_rfl))⟩
 case f20=>exact⟨f340.name,by decide,func340.trans (congrArg some (by kernel_rfl))⟩
 case f21=>exact⟨f341.name,by decide,func341.trans (congrArg some (by kernel_rfl))⟩
 case f22=>exact⟨f342.name,by decide,func342.trans (congrArg some (by kernel_rfl))⟩
 case f23=>exact⟨f343.name,by decide,func343.trans (congrArg some (by kernel_rfl))⟩
 case f24=>exact⟨f344.name,by decide,func344.trans (congrArg some (by kernel_rfl))⟩
 case f25=>exact⟨f345.name,by decide,func345.trans (congrArg some (by kernel_rfl))⟩
 case f26=>exact⟨f346.name,by decide,func346.trans (congrArg some (by kernel_rfl))⟩
 case f27=>exact⟨f347.name,by decide,func347.trans (congrArg some (by kernel_rfl))⟩
 case f46=>exact⟨f352.name,by decide,func352.trans (congrArg some (by kernel_rfl))⟩
 case f49=>exact⟨f353.name,by decide,func353.trans (congrArg some (by kernel_rfl))⟩
 case f50=>exact⟨f354.name,by decide,func354.trans (congrArg some (by kernel_rfl))⟩
 case f57=>exact⟨f358.name,by decide,func358.trans (congrArg some (by kernel_rfl))⟩
 all_goals repeat' first|kernel_rfl|(intro _;kernel_rfl)|constructor
open Go.RowKit Go.Sort
theorem abi(a b:Tx)(w:World):Calls prog 325 #[.string (tx a),.string (tx b)] w fun e w'=>e= .returned (.int .i64 (Lib.compareBytes a b))/\w=w':=by
 refine(Any.strings_Compare Tryz.aeN (tx a) (tx b) w).mono fun e w' hh=>⟨?_,hh.2.symm⟩
 rw[hh.1,jk,jk]
theorem ace(x y:gV)(w:World):Calls prog 283 #[ko x.1,ko y.1] w fun e w'=>e= .returned (.int .i64 (oc x.1 y.1))/\w'=(w.alloc (l6 x.1)).alloc (l6 y.1):=by
 have hx:=ng x;have hy:=ng y;obtain⟨⟨t1,r1,l1⟩,p1⟩:=x;obtain⟨⟨t2,r2,l2⟩,p2⟩:=y;simp only at hx hy⊢;clear p1 p2;rcases hx with⟨a1,a2⟩|⟨a1,a2,a3,a4,a5⟩
 ·subst a1
  rcases hy with⟨b1,b2⟩|⟨b1,b2,b3,b4,b5⟩
  ·subst b1
   clear a2 b2;have E:=hid (show oc ⟨-1,r1,l1⟩ ⟨-1,r2,l2⟩=Lib.compareBytes l1 l2 from rfl);go_in
   go_wp2_with (go_at_call 325;refine av (abi _ _ _) ?_)
   go_ret;exact⟨bQ (by rw[E.out]),rfl⟩
  clear a2 b5
  have z2:(t2== -1)=false:=ah;have E:=hid (show oc ⟨-1,r1,l1⟩ ⟨t2,r2,l2⟩=1 by unfold oc;simp only;rw[if_neg (by omega),if_pos trivial]);go_in;go_wp2;go_ret;exact⟨bQ (by rw[E.out]),rfl⟩
 clear a5
 have z1:(t1== -1)=false:=ah;rcases hy with⟨b1,b2⟩|⟨b1,b2,b3,b4,b5⟩
 ·subst b1
  clear b2;have E:=hid (show oc ⟨t1,r1,l1⟩ ⟨-1,r2,l2⟩= -1 by unfold oc;simp only;rw[if_neg (by omega),if_neg (by omega),if_pos trivial]);go_in;go_wp2;go_ret;exact⟨bQ (by rw[E.out]),rfl⟩
 clear b5
 have z2:(t2== -1)=false:=ah
 by_cases h:t1=t2
 ·have z3:(t1 != t2)=false:=by simpa using h
  have E:=hid (show oc ⟨t1,r1,l1⟩ ⟨t2,r2,l2⟩=r1-r2 by unfold oc;simp only;rw[if_neg (by omega),if_neg (by omega),if_neg (by omega),if_neg (by omega)]);clear h;go_in;go_wp2;go_ret;exact⟨bQ (by rw[E.out]),rfl⟩
 have z3:(t1 != t2)=true:=by simpa using h
 have E:=hid (show oc ⟨t1,r1,l1⟩ ⟨t2,r2,l2⟩=t1-t2 by unfold oc;simp only;rw[if_neg (by omega),if_neg (by omega),if_neg (by omega),if_pos h]);clear h;go_in;go_wp2;go_ret;exact⟨bQ (by rw[E.out]),rfl⟩
@[reducible] def eV(v:gV):List Value:=lW v.1
abbrev xJ(a b:gV):Int:=oc a.1 b.1
theorem yE(a b:gV):ltOf xJ a b=dD a.1 b.1:=abc a b
theorem akV:SWO (ltOf xJ) where
 irrefl a:=by rw[yE,ao9];exact My a
 trans a b c h h':=by rw[yE]at *; exact yF a b c h h'
 ntrans a b c h h':=by
  rw[yE,ao9]at*;intro hac
  by_cases h1:kS b a
  ·exact h' (yF b a c h1 hac)
  have:=Co a b h h1;subst this;exact h' hac
theorem lays(blk off size:Nat)(w:World):CmpLays prog 283 #[] eV 3 xJ blk off size w:=by
 intro m os dk _ x y;refine(ace x y _).mono fun e w' ⟨he,hw⟩=>⟨he,0,#[l6 x.1,l6 y.1],?_⟩
 rw[hw,alloc_eq_grow,alloc_eq_grow,grow_grow];rfl
theorem adL(h:Own w B E 3 (some ⟨g,0,none⟩) n c (flat eV d)):HoldsK eV 3 w g 0 d.toArray:=by
 intro j hj;simp only[size_flatK,aqs]at hj;have hl:=iY (enc:=eV) (m:=3) (fun _=>rfl) d;have hlt:j<(flat eV d).length:=by rw[hl];exact hj
 have h1:=h.row.cell j hlt;have h2:=Own.frozen h (by simp) j;simp only[gv,gX]at h1 h2;refine⟨?_,h2⟩;rw[h1,id];have h3:j/3<d.length:=by omega
 have hg:=Ft (enc:=eV) (m:=3) (fun _=>rfl) d (j/3) (j%3) d[j/3] (am9 h3) (by omega);rw[show j/3*3+j%3=j by omega]at hg;rw[hg,get_flatK _ _ _ _ (by simpa using hj)];have h4:d.toArray[j/3]! =d[j/3]:=by rw[getElem!_pos _ _ (by simpa using h3)];simp
 rw[h4];have h5:j%3<(eV d[j/3]).length:=by show j%3<3;omega
 rw[am9 h5,aql,am9 h5];rfl
theorem ac0(d:List gV):flatK eV 3 d.toArray=(flat eV d).toArray:=by
 have hl:=iY (enc:=eV) (m:=3) (fun _=>rfl) d;refine ext_get! (by simp[hl]) fun t ht=>?_
 simp only[size_flatK,aqs]at ht;have h3:t/3<d.length:=by omega
 have hg:=Ft (enc:=eV) (m:=3) (fun _=>rfl) d (t/3) (t%3) d[t/3] (am9 h3) (by omega);rw[show t/3*3+t%3=t by omega]at hg;rw[get_flatK _ _ _ _ (by simpa using ht)];have h4:d.toArray[t/3]! =d[t/3]:=by rw[getElem!_pos _ _ (by simpa using h3)];simp
 have hlt:t<(flat eV d).length:=by rw[hl];exact ht
 have h5:t%3<(eV d[t/3]).length:=by show t%3<3;omega
 rw[h4,aql,am9 h5];rw[getElem!_pos (flat eV d).toArray t (by simpa using hlt)];rw[am9 hlt,am9 h5]at hg;exact(Option.some.inj hg).symm
theorem ahC{d':List gV}(h:HoldsK eV 3 w g 0 d.toArray)(hl:d'.length=d.length):putRowK eV 3 w g 0 d'.toArray=w.setCells g 0 (flat eV d'):=by
 have h0:=sortWorldK_start eV 3 w g 0 d.toArray h;unfold sortWorldK at h0;rw[grow_empty]at h0;have h1:=setCells_putRow w g 0 (flat eV d') 0 (flatK eV 3 d.toArray) (by rw[ann,iY (m:=3) (fun _=>rfl)];simp[hl]);unfold putRowK at h0⊢;rw[ahead_zero]at h0;rw[h0]at h1;rw[h1,ac0 d']
 congr 1
 refine ext_get! (by simp[hl,iY (enc:=eV) (m:=3) (fun _=>rfl)]) fun t ht=>?_
 simp only[aqs]at ht;have hlt:t<d.length*3:=by rw[iY (m:=3) (fun _=>rfl),hl]at ht;exact ht
 rw[get_setMany _ _ _ _ (by simpa using hlt),if_pos ⟨apL _,by omega⟩,Nat.sub_zero,getElem!_pos _ _ (by simpa using ht),aql,am9 ht];simp
abbrev rW(d:List gV):List gV:=d.mergeSort fun x y=> !ltOf xJ y x
theorem akF(d:List gV)(w:World)(B:Nat)(a:Option Addr)(c:Nat)(h:Own w B 25 3 a d.length c (flat eV d))(hl:d.length<=1000000):
 Calls prog 282 #[.slice a d.length c,.func (.func 283) #[] #[]] w fun e w'=>e= .returned (.tuple #[])/\Own w' B 25 3 a d.length c (flat eV (rW d))/\Step w w' a a:=by
 have hlen:(rW d).length=d.length:=aqp d;rcases h.2 with⟨h2,h0⟩|⟨g,cap,cur,hv,hg,hh,hn,hc,hs,hx⟩
 ·simp only[aqo]at h2
  obtain⟨rfl,-, rfl⟩:=h2;have hz:d=[]:=ane h0;subst hz;refine(AnyF.slices_SortFunc_none { Tryz.V6 with } none 0 _ w).mono fun e w' ⟨he,hw⟩=>?_
  subst hw;have e0:rW []=[]:=ane hlen;rw[e0];exact⟨he,h,Step.refl _ _⟩
 cases hv
 have hH:=adL h;refine(AnyQ.slices_SortFunc_total Tryz.V6 3 isAgg25 sizeOf25 eV (fun _=>rfl) (fun x=>JA x.1) xJ akV 283 #[] g 0 c d.toArray w (enters_of func283 aN rfl) (lays _ _ _ _) hH (aqn.1 hh).1 ah (fun x y hxy UU=>Co x y (by rw[yE,ao9]at hxy;exact hxy) (by rw[yE,ao9]at UU;exact UU))).mono fun e w' ⟨he,n,os,hw⟩=>?_
 have hA:Below w.heap.size w (aqq w n):=⟨rfl,rfl,rfl,anb _,fun _ _=>rfl⟩;have hHa:HoldsK eV 3 (aqq w n) g 0 d.toArray:=hH;have hoA:=Own.below h hA;unfold sortWorldK at hw;rw[ahC (d:=d) (d':=rW d) hHa hlen]at hw;obtain⟨o2,s2⟩:=Own.sets (by simp) (flat eV (rW d)) 0 (aqq w n) (flat eV d) hoA (by rw[ann,iY (m:=3) (fun _=>rfl),iY (m:=3) (fun _=>rfl),hlen];exact anb _)
 have e1:ox (flat eV d) 0 (flat eV (rW d))=flat eV (rW d):=by
  unfold ox;rw[aqk,anu,ann,List.drop_of_length_le (by rw[iY (m:=3) (fun _=>rfl),iY (m:=3) (fun _=>rfl),hlen];exact anb _),aoQ]
 rw[e1]at o2;simp only[gv,gX,Nat.add_zero]at o2 s2;have Kf:Step w (aqq w n) (some ⟨g,0,none⟩) (some ⟨g,0,none⟩):=⟨⟨rfl,rfl,rfl,anb _,fun _ _ _=>rfl⟩,.inl rfl⟩;have s3:=Kf.trans s2;generalize hW:(aqq w n).setCells g 0 (flat eV (rW d))=W at*;have hG:Below W.heap.size W (grow W os):=⟨rfl,rfl,rfl,by simp[grow],fun j hj=>by simp[grow,Array.getElem?_append,hj]⟩;rw[hw];exact⟨he,Own.below o2 hG,s3.trans ⟨⟨hG.os,hG.tape,hG.output,hG.size,fun k hk _=>hG.block k hk⟩,.inl rfl⟩⟩
abbrev rX:TypeId:=25
theorem fL.MT{b b':Nat}{l:List Value}{T e:TypeId}(h:fL w b l T)(hk:aqm e (some b') w w')(hne:b≠b')(hT:T≠e):fL w' b l T:=
 hk b _ h (by simpa using hne) (fun c fz e'=>by cases e';exact hT rfl)
theorem GA(e:TypeId)(b:Option Nat)(h:Below w.heap.size w w'):aqm e b w w':=
 fun k o hk _ _=>by rw[h.block k (aqn.1 hk).1];exact hk
def LB(w:World)(B lb:Nat)(ts:List Th):Prop:= ∃a c,fL w lb [.slice a ts.length c] 112/\dQ w B a ts.length c ts/\B<=lb
theorem LB.below{lb:Nat}{ts:List Th}(h:LB w B lb ts)(hb:Below w.heap.size w w'):LB w' B lb ts:=by
 obtain⟨a,c,h1,h2,h3⟩:=h;exact⟨a,c,h1.below hb,Own.below h2 hb,h3⟩
theorem Cz{size:Nat}{xs:List Value}(h:Own w B E size a n c xs): ∀g,a.map (·.block)=some g-> ∃cs fz,w.heap[g]? =some (.cells cs E fz):=by
 intro g hg;rcases h.2 with⟨h2,h0⟩|⟨g',cap,cur,hv,Uc,hh,r⟩
 ·simp only[aqo]at h2
  rw[h2.1]at hg;cases hg
 cases hv
 simp only[Option.map_some,Option.some.injEq]at hg;subst hg;exact⟨cur,_,hh⟩
def Qp(w0 w:World)(lb:Nat)(ts:List Th)(e:Ending)(w':World):Prop:=
 e= .returned (.tuple #[])/\LB w' w0.heap.size lb ts/\Below w0.heap.size w0 w'/\aqm rX (some lb) w w'
theorem abp(x:Nd)(w0 w:World)(lb:Nat)(ts:List Th)(hB:Below w0.heap.size w0 w)(h:LB w w0.heap.size lb ts)(hl:ts.length<=100000):
 Calls prog 281 #[vN x,.pointer (some ⟨lb,0,none⟩)] w (Qp w0 w lb (ts++[x.th])):=by
 obtain⟨a,c,h1,h2,h3⟩:=h;have A:=al w (bN x);have b0:fL (w.alloc (bN x)) w.heap.size (cN x) 28:=fL.new w _ _;have h1:=h1.below A;have h2:=Own.below h2 A;have xW:=hB.trans (A.mono hB.size);have K0:=GA rX (some lb) A;have c1:=h1.get 0 _ rfl;have hlt:=h1.lt;have hsz:=xW.size;obtain⟨n,hn⟩:=aj ts.length;rw[hn]at c1 h1 h2 hl;have HN:=hid hn;have H1:=hid h1;have tU:=hid xW;have hlb:lb<w.heap.size+1:=by simpa using hlt
 have hN1:(w.alloc (bN x)).heap.size=w.heap.size+1:=by simp
 clear hB A hn h1 hlt;go_in
 go_wp2_with (at_builtin;go_loud(refine nU jR (.tmp 3) (.tmp 6) rfl rfl hN1 rfl h2 rfl rfl (by intro u hu;simp at hu;rcases hu with rfl|rfl|rfl<;>rfl) xW hsz (by omega) cz ?_))
 intro a3 c3 w3 o3 g3 B3;have hka:=Cz h2
 have hne: ∀g,a.map (·.block)=some g->g≠lb:=by
  intro g hg e;subst e;obtain⟨cs,fz,hh⟩:=hka _ hg;have:=H1.out;unfold fL at this;rw[this]at hh;simp at hh
 have K3:aqm rX (some lb) w w3:=K0.grown (g3.step.grown) hka
 have L3:fL w3 lb [.slice a n c] 112:=by
  unfold fL;rw[g3.step.grown.block lb ah (fun e=>hne lb e.symm rfl)];exact H1.out
 have d1:=L3.get 0 _ rfl;have f1:=L3.frozen 0
 have oF:dQ w3 w0.heap.size a3 (n+1) c3 (ts++[x.th]):=by
  unfold dQ;rw[j9,lG];exact o3
 have s0:Step w3 (w3.setCell ⟨lb,0,none⟩ (.slice a3 (n+1) c3)) (some ⟨lb,0,none⟩) (some ⟨lb,0,none⟩):=
  ⟨⟨rfl,rfl,rfl,by simp[World.setCell],fun k _ hk=>Below.heap_setCell _ _ _ _ (fun e=>hk (by simp[e]))⟩,.inl rfl⟩
 have Uz: ∀g,a3.map (·.block)=some g->g≠lb:=by
  intro g hg e;subst e;obtain⟨cs,fz,hh⟩:=Cz oF _ hg;have:=L3;unfold fL at this;rw[this]at hh;simp at hh
 have oZ:dQ (w3.setCell ⟨lb,0,none⟩ (.slice a3 (n+1) c3)) w0.heap.size a3 (n+1) c3 (ts++[x.th]):=by
  refine Own.kept oF s0.grown ?_;cases a3 with
  |none=>exact .inl rfl
  |some q=>right;have:=Uz q.block rfl;simp[bk];exact this
 have bZ:fL (w3.setCell ⟨lb,0,none⟩ (.slice a3 (n+1) c3)) lb [.slice a3 (n+1) c3] 112:=by
  have:=L3;unfold fL at this⊢;simp[World.setCell,Array.getElem?_modify,this]
 have KZ:=K3.setCell ⟨lb,0,none⟩ rfl (.slice a3 (n+1) c3);have BZ:=B3.setCell (p:=⟨lb,0,none⟩) h3 (.slice a3 (n+1) c3)
 have Up:LB (w3.setCell ⟨lb,0,none⟩ (.slice a3 (n+1) c3)) w0.heap.size lb (ts++[x.th]):=by
  refine⟨a3,c3,?_,?_,h3⟩
  ·rw[aoW,HN.out];exact bZ
  rw[aoW,HN.out];exact oZ
 have HF:=hid (anY Up (anY BZ KZ));clear Up BZ KZ bZ oZ Uz s0 oF L3 K3 hne hka o3 g3 B3 K0 h2 xW c1 b0;go_wp2
 go_end0
 exact⟨rfl,HF.out.1,HF.out.2.1,HF.out.2.2⟩
theorem abq: ∀(x:Nd) (w0 w:World) (lb:Nat) (ts:List Th),fW w0 x->Below w0.heap.size w0 w->LB w w0.heap.size lb ts->ts.length+mD x<=10000->
 Calls prog 280 #[vN x,.func (.func 281) #[] #[.pointer (some ⟨lb,0,none⟩)]] w (Qp w0 w lb (ts++lV x)):=by
 intro x
 induction x using Nd.ind with
 |h x ih=>
 intro w0 w lb ts hI hB hL hl;have hc:=A9 x;have hlb:lb<w.heap.size:=by obtain⟨a,c,h1,h2,h3⟩:=hL;exact h1.lt
 have hne:w.heap.size≠lb:=by omega
 have A:=al w (bN x);have b0:fL (w.alloc (bN x)) w.heap.size (cN x) 28:=fL.new w _ _;have hL:=hL.below A;have hB:=hB.trans (A.mono hB.size);have K:=GA rX (some lb) A;have HI:=hid hI;have qQ:=hid ih;obtain⟨zD,hts⟩:=aj (ts++(if x.kind=2 then[x.th]else[]));have E:=hid (show ts++lV x=zD++iU x.kids by rw[ES,<-anZ,hts]);have qo:zD.length+iG x.kids<=10000:=by rw[<-hts];split<;>simp<;>omega
 clear ih hI A
 by_cases hk:x.kind=2
 ·rw[if_pos hk]at hts
  have zk:(x.kind==2)=true:=by simpa using hk
  have AK:=hid (abp x w0 (w.alloc (bN x)) lb ts hB hL (by omega));rw[hts]at AK;clear hB hL hk hts;go_in;go_wp2_with fail;refine AK.out.mono ?_;rintro e w1 ⟨rfl,hL,hB,K1⟩;have K:=K.trans K1;have b0:=b0.MT K1 hne (by decide);clear K1 AK;have q5:=b0.get 5 _ rfl;go_wp2_with fail;clear q5;have MI:28≠rX:=by decide
  go_loopw [15] (fun i wr=> ∃k:Nat,k<=x.kids.length/\i= .int .i64 k/\Below w0.heap.size w0 wr/\LB wr w0.heap.size lb (zD++iU (x.kids.take k))/\aqm rX (some lb) w wr/\fL wr w.heap.size (cN x) 28) (fun i _=>x.kids.length-(intOf i).toNat)
  ·exact⟨0,apL _,rfl,hB,by rw[aqk,qY,aoQ];exact hL,K,b0⟩
  clear hB hL K b0;obtain⟨k,hk,rfl,hB,hL,K,b0⟩:=hrel
  by_cases hlk:k<x.kids.length
  ·obtain⟨y,hy⟩: ∃y,x.kids[k]? =some y:=⟨_,am9 hlk⟩
   have ou:=anw hy;have iI:=HI.out.keep hB;obtain⟨p0,p1,p2,p3,p4,p5⟩:=iI.els.nd hy;have ix:=iI.els.idx kG kN k hlk x.c;have hkl:=iI.els.len
   have La:(iU (x.kids.take k)).length+mD y<=iG x.kids:=by
    have h1:=vE (x.kids.take (k+1)) (x.kids.drop (k+1));rw[aoT]at h1
    have h2:x.kids.take (k+1)=x.kids.take k++[y]:=by
     obtain⟨hlt,rfl⟩:=anx.1 hy;exact anH hlt
    rw[h2,vE,rq,vF]at h1
    have h3: ∀l:List Nd,(iU l).length<=iG l:=by
     intro l
     induction l with
     |nil=>rw[qY];simp
     |cons z r ih=>rw[uf,rq,aoW];have:=Jp z;omega
    have:=h3 (x.kids.take k);omega
   have A:=al wr (bN y);have Bw:=hL.below A;have Bt:=hB.trans (A.mono hB.size);have KA:=K.trans (GA rX (some lb) A);have AI:=b0.below A;have CY:=hid (qQ.out y ou w0 (wr.alloc (bN y)) lb (zD++iU (x.kids.take k)) (HI.out.jz y ou) Bt Bw (by rw[aoW];omega));have HT:=hid (QS hy);clear hy ou iI hB hL K b0 A Bw Bt La;go_wp2_with fail;refine CY.out.mono ?_;rintro e w2 ⟨rfl,hL,hB,K2⟩;have K:=KA.trans K2;have b0:=AI.MT K2 hne MI;rw[anZ,<-HT.out]at hL;clear K2 p0 p1 p2 p3 p4 p5 ix KA AI CY;go_wp2_with fail
   go_roundw;exact⟨k+1,by omega,by go_num,hB,hL,K,b0⟩;simp[intOf];omega
  obtain rfl:k=x.kids.length:=by omega
  rw[ao0,<-E.out]at hL;go_wp2_with fail
  go_end0
  exact⟨rfl,hL,hB,K⟩
 rw[if_neg hk,aoQ]at hts
 have zk:(x.kind==2)=false:=by simpa using hk
 have h9:=hts.symm;clear hts;subst h9;clear hk;go_in
 go_upto_region 1 with(fail)
 generalize w.alloc (bN x)=W1 at*;have q0:=b0.get 0 _ rfl;have MI:28≠rX:=by decide
 have q5:=b0.get 5 _ rfl;go_wp2_with fail;clear q5
 go_loopw [15] (fun i wr=> ∃k:Nat,k<=x.kids.length/\i= .int .i64 k/\Below w0.heap.size w0 wr/\LB wr w0.heap.size lb (zD++iU (x.kids.take k))/\aqm rX (some lb) w wr/\fL wr w.heap.size (cN x) 28) (fun i _=>x.kids.length-(intOf i).toNat)
 ·exact⟨0,apL _,rfl,hB,by rw[aqk,qY,aoQ];exact hL,K,b0⟩
 clear hB hL K b0;obtain⟨k,hk,rfl,hB,hL,K,b0⟩:=hrel
 by_cases hlk:k<x.kids.length
 ·obtain⟨y,hy⟩: ∃y,x.kids[k]? =some y:=⟨_,am9 hlk⟩
  have ou:=anw hy;have iI:=HI.out.keep hB;obtain⟨p0,p1,p2,p3,p4,p5⟩:=iI.els.nd hy;have ix:=iI.els.idx kG kN k hlk x.c;have hkl:=iI.els.len
  have La:(iU (x.kids.take k)).length+mD y<=iG x.kids:=by
   have h1:=vE (x.kids.take (k+1)) (x.kids.drop (k+1));rw[aoT]at h1
   have h2:x.kids.take (k+1)=x.kids.take k++[y]:=by
    obtain⟨hlt,rfl⟩:=anx.1 hy;exact anH hlt
   rw[h2,vE,rq,vF]at h1
   have h3: ∀l:List Nd,(iU l).length<=iG l:=by
    intro l
    induction l with
    |nil=>rw[qY];simp
    |cons z r ih=>rw[uf,rq,aoW];have:=Jp z;omega
   have:=h3 (x.kids.take k);omega
  have A:=al wr (bN y);have Bw:=hL.below A;have Bt:=hB.trans (A.mono hB.size);have KA:=K.trans (GA rX (some lb) A);have AI:=b0.below A;have CY:=hid (qQ.out y ou w0 (wr.alloc (bN y)) lb (zD++iU (x.kids.take k)) (HI.out.jz y ou) Bt Bw (by rw[aoW];omega));have HT:=hid (QS hy);clear hy ou iI hB hL K b0 A Bw Bt La;go_wp2_with fail;refine CY.out.mono ?_;rintro e w2 ⟨rfl,hL,hB,K2⟩;have K:=KA.trans K2;have b0:=AI.MT K2 hne MI;rw[anZ,<-HT.out]at hL;clear K2 p0 p1 p2 p3 p4 p5 ix KA AI CY;go_wp2_with fail
  go_roundw;exact⟨k+1,by omega,by go_num,hB,hL,K,b0⟩;simp[intOf];omega
 obtain rfl:k=x.kids.length:=by omega
 rw[ao0,<-E.out]at hL;go_wp2_with fail
 go_end0
 exact⟨rfl,hL,hB,K⟩
theorem Rw{α β:Type}[DecidableEq α][DecidableEq β](f:α->β)(hf: ∀a b,f a=f b->a=b): ∀l:List α,cZ (l.map f)=(cZ l).map f
 |[]=>rfl
 |[x]=>rfl
 | x::y::r=>by
   have ih:=Rw f hf (y::r);simp only[List.map_cons]at ih⊢;rw[rj,rj,ih]
   by_cases h:x=y
   ·rw[if_pos h,if_pos (by rw[h])]
   rw[if_neg h,if_neg (fun e=>h (hf _ _ e))];rfl
theorem Ta(d:List gV):flat eV d=flat lW (d.map (·.1)):=by
 unfold flat;rw[List.flatMap_map]
theorem Own.afq(w:World)(E size:Nat):Own (w.alloc (.cells #[] E)) w.heap.size E size (Option.some ⟨w.heap.size,0,none⟩) 0 0 []:=
 World.ownsRow_lit w #[] 0 (anb _) cz (by simp)
def Ez(w:World)(l:List Th)(e:Ending)(w':World):Prop:=
 ∃a c,e= .returned (.slice a l.length c)/\dQ w' w.heap.size a l.length c l/\Below w.heap.size w w'
theorem abg(l:List Th)(a:Option Addr)(c:Nat)(w:World)(h:bK lW w a l)(hl:l.length<=1000000):
 Calls prog 228 #[.slice a l.length c] w (Ez w l):=by
 obtain⟨n,hn⟩:=aj l.length;have HN:=hid hn;rw[hn]at hl;unfold Ez;rw[hn];cases a with
 | none=>
   have hl0:l=[]:=by
    by_cases e:l=[]
    ·exact e
    have:=h.row.head (by intro e2;have:=congrArg List.length e2;rw[iY ep]at this;simp only[List.length_nil]at this;exact e (ane (by omega)))
    cases this
   subst hl0;have hn0:n=0:=hn.symm;subst hn0;have ze: ∀w,(binOp .eql 112 (.slice none 0 c) (.slice none 0 0)).run prog w= .ok (.bool true) w:=fun w=>rfl
   clear hn h;go_in;go_wp2;go_ret;exact⟨none,0,rfl,Own.nil _ _ _ _,anM _ _⟩
 | some p=>
   have ze: ∀w,(binOp .eql 112 (.slice (some p) n c) (.slice none 0 0)).run prog w= .ok (.bool false) w:=fun w=>rfl
   have A:=al w (.cells #[] 25);have o0:=Own.afq w 25 3;have hA:=h.below A;have hrl:(flat lW l).length=n*3:=by rw[iY ep,hn]
   clear hn h;go_in
   go_wp2_with (at_builtin;go_loud(refine OY jR (.tmp 5) (.tmp 6) rfl rfl rfl o0 rfl hA.row hrl (ac3 JA l) A A.size (by omega) cz ?_))
   intro a1 c1 w1 o1 g1 E1;have o2:dQ w1 w.heap.size a1 n c1 l:=by simpa[dQ]using o1
   have HO:=hid (anY o2 E1);clear o0 A hA o1 g1 E1 o2;go_wp2;go_ret;exact⟨a1,c1,rfl,HO.out.1,HO.out.2⟩
theorem acj(x:Nd)(w:World)(hI:fW w x)(ho:gp 2 x)(hc:mD x<=1024):
 Calls prog 229 #[vN x] w (Ez w (mX x)):=by
 have A:=al w (bN x);have b0:=l9.new w x;have L:=al (w.alloc (bN x)) (.cells #[.slice none 0 0] 112)
 have Tz:LB ((w.alloc (bN x)).alloc (.cells #[.slice none 0 0] 112)) (w.alloc (bN x)).heap.size (w.alloc (bN x)).heap.size []:=
  ⟨none,0,fL.new _ _ _,Own.nil _ _ _ _,anb _⟩
 have CA:=abq x (w.alloc (bN x)) _ (w.alloc (bN x)).heap.size [] (hI.keep A) L Tz ah;rw[anu]at CA;have hsz:(w.alloc (bN x)).heap.size=w.heap.size+1:=by simp
 have HV:=Jq ho;have hal:=Jp x;have hval:=Ds (lV x) HV;have hst:=akH ho (fun x y=> !ltOf xJ y x) (fun a b=>by rw[yE]);obtain⟨d,hd⟩:=aj (uV (lV x) HV);rw[hd]at hval hst;have hdl:(lV x).length=d.length:=by rw[<-hval,anL]
 have HQ:=hid (anY hval (anY hst hdl));have CA:=hid CA;rw[hsz]at CA;clear hI hd Tz L A hsz hval hst;go_in;go_wp2_with fail;refine CA.out.mono ?_;rintro e w1 ⟨rfl,hL,hB,K⟩;obtain⟨a,c,bL,oL,hle⟩:=hL;have c0:=bL.get 0 _ rfl;obtain⟨hval,hst, -⟩:=HQ.out;rw[hdl]at c0 oL;have oL:Own w1 (w.alloc (bN x)).heap.size 25 3 a d.length c (flat eV d):=by rw[Ta,hval];exact oL
 have ST:=hid (akF d w1 _ a c oL (by omega));have PI:=hid oL;have zU:=hid bL;have HB:=hid hB;clear oL bL hB K hle CA HQ hval;go_wp2_with fail;refine ST.out.mono ?_;rintro e w2 ⟨rfl,oS,sS⟩;have hka:=Cz PI.out
 have QU:fL w2 (w.heap.size+1) [.slice a (lV x).length c] 112:=by
  have h1:=zU.out;have hl:=h1.lt;unfold fL at h1⊢
  rw[sS.grown.block _ hl (fun e=>by
   obtain⟨cs,fz,hh⟩:=hka _ e.symm;rw[h1]at hh;simp at hh)]
  exact h1
 have c2:=QU.get 0 _ rfl;rw[hdl]at c2;have hlen:((rW d).map (·.1)).length=d.length:=by rw[anL];exact aqp d
 rw[Ta]at oS;have B2:=sS.below PI.out HB.out HB.out.size;have CT:=abm ((rW d).map (·.1)) w2 _ a c (by rw[hlen];exact oS) B2.size (by rw[hlen];omega);rw[Rw _ (fun a b h=>Subtype.ext h),hst,hlen]at CT;have CT:=hid CT;have PJ:=hid oS;have tY:=hid hlen;have xj:=hid B2;clear c0 oS sS hka QU zU ST hst hlen B2;go_wp2_with fail;refine CT.out.mono ?_;rintro e w3 ⟨rfl,o3,s3⟩;have B3:=s3.below PJ.out xj.out xj.out.size;have BZ:Below w.heap.size w w3:=(al w (bN x)).trans (B3.mono (al w (bN x)).size);have oZ:dQ w3 w.heap.size a (mX x).length c (mX x):=Own.mono o3 (by simp);have HZ:=hid (anY oZ BZ);clear o3 s3 B3 BZ oZ c2 CT PJ;go_wp2;go_ret;exact⟨a,c,rfl,HZ.out.1,HZ.out.2⟩
attribute [local go_sem high] xR wH
def xz(w:World)(l:List Th)(r:Int)(e:Ending)(w':World):Prop:=
 ∃a c,e= .returned (.tuple #[.slice a l.length c,.int .i64 r])/\dQ w' w.heap.size a l.length c l/\Below w.heap.size w w'
theorem xz.none{r:Int}{e:Ending}(hl:l=[])(he:e= .returned (.tuple #[.slice Option.none 0 0,.int .i64 r]))(hb:Below w.heap.size w w'):xz w l r e w':=by
 subst hl;exact⟨Option.none,0,he,Own.nil _ _ _ _,hb⟩
theorem ack(q:Int)(x:Nd)(w:World)(hI:fW w x):Calls prog 144 #[vC q x] w (xz w (kY q x) (cV 2 q x)):=by
 have B:=al w (ki q x);have b0:aA (w.alloc (ki q x)) w.heap.size (cC q x):=aA.new w _ _;have CH:=Ff 2 q x (w.alloc (ki q x)) (hI.keep B);obtain⟨r,hr⟩:=aj (cV 2 q x);rw[hr]at CH⊢
 by_cases h0:r=0
 ·subst h0
  obtain⟨-, hq1,lJ,ho,hn⟩:=JS hr;have hT:=hid (show kY q x=mX x by unfold kY;rw[if_pos hr]);have CH:=hid CH;have HI:=hid (hI.keep B);have HO:=hid ho;obtain⟨-, -, -, htl⟩:=Oq ho;clear hr hI ho;go_in;go_wp2_with fail;refine CH.out.mono ?_;rintro e1 w1 ⟨rfl,E1⟩;obtain⟨q0,q1,q2,q3,q4,q5,q6⟩:=(b0.below E1).cC;have hI:=HI.out.keep E1;have B:=B.trans (E1.mono B.size);have TH:=hid (acj x w1 hI HO.out hn);clear E1 CH HI hI;go_wp2_with fail;refine TH.out.mono ?_;rintro e2 w2 ⟨a,c,rfl,o2,E2⟩;have els:=(Own.els o2 ep (by omega) (by omega)).1;have CL:=hid (abg _ a c w2 els (by omega));have B2:=B.trans (E2.mono B.size);clear q0 q1 q2 q3 q4 q5 q6 o2 els TH E2;go_wp2_with fail;refine CL.out.mono ?_;rintro e3 w3 ⟨a3,c3,rfl,o3,E3⟩;have B3:=B2.trans (E3.mono B2.size);have HZ:=hid (anY (Own.mono o3 B2.size) B3);clear o3 E3 B3 CL;go_wp2
  go_ret2
  rw[hT.out];exact⟨a3,c3,rfl,HZ.out.1,HZ.out.2⟩
 have hT:=hid (show kY q x=[] by unfold kY;rw[if_neg (by rw[hr];exact h0)])
 have z:(r != 0)=true:=by simpa using h0
 have CH:=hid CH;clear hr hI h0;go_in;go_wp2_with fail;refine CH.out.mono ?_;rintro e1 w1 ⟨rfl,E1⟩;have B:=B.trans (E1.mono B.size);go_wp2
 go_ret2
 exact xz.none hT.out rfl B
theorem AX: ∀a b:Tx,Op.bytesLess a b=cm a b
 |[],[]=>rfl
 |[],_::_=>rfl
 |_::_,[]=>rfl
 | a::x,b::y=>by
   unfold Op.bytesLess cm
   by_cases h:a<b
   ·rw[if_pos h,decide_eq_true h];rfl
   rw[if_neg h,decide_eq_false h,Bool.false_or]
   by_cases h2:b<a
   ·rw[if_pos h2]
    have:(a==b)=false:=by
     rw[beq_eq_false_iff_ne];intro e;subst e;exact h h2
    rw[this];rfl
   rw[if_neg h2,Dy h h2,beq_self_eq_true,Bool.true_and];exact AX x y
theorem akm(a b:Tx): ∀w,(Op.stringOp .lss (tx a) (tx b)).run prog w= .ok (.bool (cm a b)) w:=fun w=>by
 simp[Op.stringOp,bh,AX]
theorem ahJ(x y:gV)(w:World):Calls prog 334 #[ko x.1,ko y.1] w (aJ w (.bool (dD x.1 y.1))):=by
 have hx:=ng x;have hy:=ng y;obtain⟨⟨t1,r1,l1⟩,p1⟩:=x;obtain⟨⟨t2,r2,l2⟩,p2⟩:=y;simp only at hx hy⊢;clear p1 p2;have B:=eZ (al w (l6 ⟨t1,r1,l1⟩)) (l6 ⟨t2,r2,l2⟩);have FY:=akm l1 l2
 have hc:(t1= -1/\t2= -1/\r1=r2/\dD ⟨t1,r1,l1⟩ ⟨t2,r2,l2⟩=cm l1 l2)\/(t1= -1/\0<=t2/\dD ⟨t1,r1,l1⟩ ⟨t2,r2,l2⟩=false)\/(0<=t1/\t2= -1/\dD ⟨t1,r1,l1⟩ ⟨t2,r2,l2⟩=true)\/(0<=t1/\0<=t2/\t1≠t2/\dD ⟨t1,r1,l1⟩ ⟨t2,r2,l2⟩=decide (t1<t2))\/(0<=t1/\0<=t2/\t1=t2/\r1≠r2/\dD ⟨t1,r1,l1⟩ ⟨t2,r2,l2⟩=decide (r1<r2))\/(0<=t1/\0<=t2/\t1=t2/\r1=r2/\dD ⟨t1,r1,l1⟩ ⟨t2,r2,l2⟩=cm l1 l2):=by
  unfold dD;simp only
  by_cases a1:t1= -1
  ·by_cases b1:t2= -1
   ·left;refine⟨a1,b1,by omega,?_⟩
    rw[if_neg (by simp[a1,b1]),if_neg (by simp[a1,b1]),if_neg (by omega)]
   right;left;refine⟨a1,by omega,?_⟩
   rw[if_pos (by simp[a1,b1])];simpa using b1
  by_cases b1:t2= -1
  ·right;right;left;refine⟨by omega,b1,?_⟩
   rw[if_pos (by simp[a1,b1])];simpa using b1
  right;right;right
  have n1: ¬((t1= -1)≠(t2= -1)):=by simp[a1,b1]
  rw[if_neg (c:=(t1= -1)≠(t2= -1)) n1]
  by_cases h:t1=t2
  ·by_cases h2:r1=r2
   ·right;right;refine⟨by omega,by omega,h,h2,?_⟩;rw[if_neg (by omega),if_neg (by omega)]
   right;left;refine⟨by omega,by omega,h,h2,?_⟩;rw[if_neg (by omega),if_pos h2]
  left;refine⟨by omega,by omega,h,?_⟩;rw[if_pos h]
 clear hx hy;rcases hc with⟨a1,b1,h,e⟩|⟨a1,b1,e⟩|⟨a1,b1,e⟩|⟨a1,b1,h,e⟩|⟨a1,b1,h,h2,e⟩|⟨a1,b1,h,h2,e⟩
 ·rw[e];clear e
  subst a1 b1 h;go_in;go_wp2;go_ret;exact⟨aQ (by rw[bh,bh,AX]),bC⟩
 ·rw[e];clear e
  subst a1;have z2:(t2== -1)=false:=ah;go_in;go_wp2;go_ret;exact⟨rfl,bC⟩
 ·rw[e];clear e
  subst b1;have z2:(t1== -1)=false:=ah;go_in;go_wp2;go_ret;exact⟨rfl,bC⟩
 ·rw[e];clear e
  have z1:(t1== -1)=false:=ah;have z2:(t2== -1)=false:=ah;have z3:(t1 != t2)=true:=by simpa using h
  clear h;go_in;go_wp2;go_ret;exact⟨rfl,bC⟩
 ·rw[e];clear e
  subst h;have z1:(t1== -1)=false:=ah;have z3:(t1 != t1)=false:=by simp
  have z4:(r1 != r2)=true:=by simpa using h2
  clear h2;go_in;go_wp2;go_ret;exact⟨rfl,bC⟩
 rw[e];clear e
 subst h h2;have z1:(t1== -1)=false:=ah;have z3:(t1 != t1)=false:=by simp
 have z4:(r1 != r1)=false:=by simp
 go_in;go_wp2;go_ret;exact⟨aQ (by rw[bh,bh,AX]),bC⟩
abbrev sV(l:List Tx):List Value:=l.map fun x=>Value.string (tx x)
abbrev eP(w:World)(B:Nat)(a:Option Addr)(n c:Nat)(l:List Tx):Prop:=Own w B 9 1 a n c (sV l)
theorem wN(l r:List Tx):sV (l++r)=sV l++sV r:=ao3
theorem eP.lP{l:List Tx}(h:eP w B a n c l)(hl:l.length<=1000000000000000000):bS w a l:=⟨h.row,hl⟩
theorem bS.at{l:List Tx}(h:bS w a l){k:Nat}{y:Tx}(hy:l[k]? =some y):w.cell? ⟨bk a,fo a+k,none⟩=some (.string (tx y)):=by
 obtain⟨hlt,rfl⟩:=anx.1 hy;exact h.cell k hlt
def Qw(B:Nat)(w:World)(l:List Tx)(e:Ending)(w':World):Prop:=
 ∃a c,e= .returned (.slice a l.length c)/\eP w' B a l.length c l/\Below w.heap.size w w'
theorem GJ(s:Tx)(acc:List Tx)(a:Option Addr)(c:Nat)(B:Nat)(w:World)(hB:B<=w.heap.size)
 (h:eP w B a acc.length c acc) (hl:acc.length<=10000):
 Calls prog 245 #[.slice a acc.length c,.string (tx s)] w (Qw B w (ir acc s)):=by
 by_cases hs:s=[]
 ·subst hs
  have z:((tx []).toList==([]:List UInt8))=true:=by rw[bh];rfl
  have HZ:=hid (show ir acc []=acc by unfold ir;rw[if_pos rfl]);have H:=hid h;clear h;go_in;go_wp2;go_ret;rw[HZ.out];exact⟨a,c,rfl,H.out,anM _ _⟩
 have z5:((tx s).toList==([]:List UInt8))=false:=by rw[bh];simpa using hs
 have z6:(tx s).toList.isEmpty=false:=by rw[bh];cases s<;>simp at*
 obtain⟨n,hn⟩:=aj acc.length;have HN:=hid hn;rw[hn]at h hl⊢;have H1:=hid h;have HB:=hid hB;have HS:=hid hs;clear hB h hn hs;go_in;go_wp2_with fail;clear z5 z6
 go_loopw [5,6,7] (fun out put i wr=> ∃(k:Nat) (ao:Option Addr) (co:Nat),k<=n/\i= .int .i64 k/\put= .bool ((acc.take k).any (cm s))/\out= .slice ao (ji s (acc.take k)).length co/\Below w.heap.size w wr/\eP wr w.heap.size ao (ji s (acc.take k)).length co (ji s (acc.take k))/\Hid (s∉acc.take k)) (fun _ _ i _=>n-(intOf i).toNat)
 ·exact⟨0,none,0,apL _,rfl,rfl,rfl,anM _ _,Own.nil _ _ _ _,by simp[Hid]⟩
 obtain⟨k,ao,co,hk,rfl,rfl,rfl,E1,oo,sx⟩:=hrel;have hol:=agw s (acc.take k);obtain⟨L,hL⟩:=aj (ji s (acc.take k));obtain⟨f,hf⟩:=aj ((acc.take k).any (cm s));obtain⟨m,hm⟩:=aj L.length;have jU:=hid (anY hL hf);have HM:=hid hm;rw[hL]at oo hol⊢;rw[hf];rw[hm]at oo hol⊢;rw[ao2]at hol;clear hL hf hm
 by_cases hlt:k<n
 ·obtain⟨y,hy⟩: ∃y,acc[k]? =some y:=⟨_,am9 (by rw[HN.out];exact hlt)⟩
  have HY:=hid hy;have tt:=eP.lP (Own.below H1.out E1) (aI HN.out);have p0:=tt.at hy;have ix:=tt.idx k (by rw[HN.out];exact hlt) c;rw[HN.out]at ix;obtain⟨d,hd⟩:=aj ((tx y).toList==(tx s).toList);obtain⟨g,hg⟩:=aj (Op.bytesLess (tx s).toList (tx y).toList);have HD:=hid (show decide (y=s)=d by rw[<-hd,iQ,Bool.eq_iff_iff];simp);have HG:=hid (show cm s y=g by rw[<-hg,bh,bh,AX]);clear hy tt;cases d with
  | true=>
    have HZ:=hid (show ir acc s=acc/\acc.length=n from⟨by
     unfold ir;rw[if_neg HS.out,if_pos (by rw[<-of_decide_eq_true HD.out];exact anw HY.out)],HN.out⟩)
    go_wp2_with fail
    (try go_simp)
    go_ret;refine⟨a,c,?_,?_,E1⟩
    ·rw[HZ.out.1,HZ.out.2];first|done|rfl
    rw[HZ.out.1,HZ.out.2];exact Own.below H1.out E1
  | false=>
    have TK:=hid (show acc.take (k+1)=acc.take k++[y] by
     obtain⟨hlt,rfl⟩:=anx.1 HY.out;exact anH hlt)
    have NM:=hid (show s∉acc.take k++[y] by
     intro hm;rcases aok.1 hm with h1|h1
     ·exact sx.out h1
     simp at h1;have:=of_decide_eq_false HD.out;exact this h1.symm)
    clear sx;cases f with
    | true=>
      have HT:=hid (show ji s (acc.take (k+1))=L++[y]/\(acc.take (k+1)).any (cm s)=true from⟨by rw[TK.out,agz jU.out.2,jU.out.1],by rw[TK.out];simp[jU.out.2]⟩)
      go_wp2_with (at_builtin;go_loud(refine nU jc (.tmp 38) (.tmp 43) rfl rfl rfl rfl oo rfl rfl jf E1 E1.size (by omega) cz ?_))
      intro a5 c5 w5 o5 g5 B5;have o5:eP w5 w.heap.size a5 (m+1) c5 (L++[y]):=by unfold eP;rw[wN];exact o5
      have E1:=B5;clear g5 B5 p0 ix oo;go_wp2
      go_roundw
      case rel=>
       have hz:(ji s (acc.take (k+1))).length=m+1:=by rw[HT.out.1,aoW,HM.out];rfl
       refine⟨k+1,a5,c5,by omega,by go_num,?_,?_,E1,?_,?_⟩
       ·rw[HT.out.2]
       ·rw[hz]
       ·rw[hz,HT.out.1];exact o5
       rw[TK.out];exact NM.out
      case measure=>simp[intOf];omega
    | false=>
      cases g with
      | true=>
        have HT:=hid (show ji s (acc.take (k+1))=L++[s]++[y]/\(acc.take (k+1)).any (cm s)=true from⟨by rw[TK.out,agy jU.out.2 HG.out,jU.out.1],by rw[TK.out];simp[HG.out]⟩)
        go_wp2_with (at_builtin;go_loud(refine nU jc (.tmp 34) (.tmp 36) rfl rfl rfl rfl oo rfl rfl jf E1 E1.size (by omega) cz ?_))
        intro a3 c3 w3 o3 g3 B3;have o3:eP w3 w.heap.size a3 (m+1) c3 (L++[s]):=by unfold eP;rw[wN];exact o3
        have E1:=B3;have oo:=o3;clear o3 g3 B3 p0 ix;have tt:=eP.lP (Own.below H1.out E1) (aI HN.out);have p0:=tt.at HY.out;have ix:=tt.idx k (by rw[HN.out];exact hlt) c;rw[HN.out]at ix;clear tt
        go_wp2_with (at_builtin;go_loud(refine nU jc (.tmp 38) (.tmp 43) rfl rfl rfl rfl oo rfl rfl jf E1 E1.size (by omega) cz ?_))
        intro a5 c5 w5 o5 g5 B5;have o5:eP w5 w.heap.size a5 (m+1+1) c5 (L++[s]++[y]):=by simpa[eP,sV]using o5
        have E1:=B5;clear g5 B5 p0 ix oo;go_wp2
        go_roundw
        case rel=>
         have hz:(ji s (acc.take (k+1))).length=m+1+1:=by rw[HT.out.1,aoW,aoW,HM.out];rfl
         refine⟨k+1,a5,c5,by omega,by go_num,?_,?_,E1,?_,?_⟩
         ·rw[HT.out.2]
         ·rw[hz]
         ·rw[hz,HT.out.1];exact o5
         rw[TK.out];exact NM.out
        case measure=>simp[intOf];omega
      | false=>
        have HT:=hid (show ji s (acc.take (k+1))=L++[y]/\(acc.take (k+1)).any (cm s)=false from⟨by rw[TK.out,agx jU.out.2 HG.out,jU.out.1],by rw[TK.out];simp only[List.any_append,jU.out.2,aqr,HG.out,List.any_nil,Bool.or_false]⟩)
        go_wp2_with (at_builtin;go_loud(refine nU jc (.tmp 38) (.tmp 43) rfl rfl rfl rfl oo rfl rfl jf E1 E1.size (by omega) cz ?_))
        intro a5 c5 w5 o5 g5 B5;have o5:eP w5 w.heap.size a5 (m+1) c5 (L++[y]):=by unfold eP;rw[wN];exact o5
        have E1:=B5;clear g5 B5 p0 ix oo;go_wp2
        go_roundw
        case rel=>
         have hz:(ji s (acc.take (k+1))).length=m+1:=by rw[HT.out.1,aoW,HM.out];rfl
         refine⟨k+1,a5,c5,by omega,by go_num,?_,?_,E1,?_,?_⟩
         ·rw[HT.out.2]
         ·rw[hz]
         ·rw[hz,HT.out.1];exact o5
         rw[TK.out];exact NM.out
        case measure=>simp[intOf];omega
 obtain rfl:k=n:=by omega
 have hk':acc.take k=acc:=by rw[<-HN.out,ao0]
 have HQ:=hid (show ir acc s=if f then L else L++[s] by
  unfold ir;rw[if_neg HS.out,if_neg (by have:=sx.out;rwa[hk']at this),aem];have h1:=jU.out.1;have h2:=jU.out.2;rw[hk']at h1 h2;rw[h1,h2])
 clear hk' sx;cases f with
 | true=>
   go_wp2_with fail
   (try go_simp)
   go_ret;have pS:=HQ.out;rw[if_pos trivial]at pS;rw[pS];refine⟨ao,co,?_,?_,E1⟩
   ·rw[HM.out];first|done|rfl
   rw[HM.out];exact Own.mono oo HB.out
 | false=>
   go_wp2_with (at_builtin;go_loud(refine nU jc (.tmp 47) (.tmp 49) rfl rfl rfl rfl oo rfl rfl jf E1 E1.size (by omega) cz ?_))
   intro a5 c5 w5 o5 g5 B5;have o5:eP w5 w.heap.size a5 (m+1) c5 (L++[s]):=by unfold eP;rw[wN];exact o5
   have E1:=B5;clear g5 B5 oo;go_wp2_with fail
   (try go_simp)
   go_ret;have pS:=HQ.out;rw[if_neg (by simp)]at pS;rw[pS];refine⟨a5,c5,?_,?_,E1⟩
   ·rw[aoW,HM.out];first|done|rfl
   rw[aoW,HM.out];exact Own.mono o5 HB.out
attribute [local go_sem high] xR wH
theorem L1(t y:Th): ∀l:List Th,jw t (l++[y])=if l.any (dD t)then jw t l++[y]else if dD t y then l++[t,y]else l++[y,t]
 |[]=>by simp[jw]
 | z::r=>by
   rw[List.cons_append,jw,L1 t y r];cases h:dD t z
   ·simp only[aqr,h,Bool.false_or,jw,if_false,Bool.false_eq_true]
    by_cases h2:r.any (dD t)=true
    ·simp[h2]
    by_cases h3:dD t y=true
    ·simp[h2,h3]
    simp[h2,h3]
   simp[h,jw]
def jh(t:Th)(l:List Th):List Th:=if l.any (dD t)then jw t l else l
theorem Ve{t:Th}: ∀{l:List Th},¬l.any (dD t)=true->jw t l=l++[t]
 |[],_=>rfl
 | z::r,h=>by
   simp only[aqr,Bool.or_eq_true,not_or]at h;rw[jw,if_neg h.1,Ve h.2];rfl
theorem Vd(t:Th)(l:List Th):jw t l=if l.any (dD t)then jh t l else jh t l++[t]:=by
 unfold jh
 by_cases h:l.any (dD t)=true
 ·rw[if_pos h,if_pos h]
 rw[if_neg h,if_neg h];exact Ve h
theorem agv(h:l.any (dD t)=true):jh t (l++[y])=jh t l++[y]:=by
 unfold jh;rw[if_pos (by simp[h]),if_pos h,L1,if_pos h]
theorem agu(h:l.any (dD t)=false)(h2:dD t y=true):jh t (l++[y])=jh t l++[t]++[y]:=by
 unfold jh;rw[if_pos (by simp[h2]),if_neg (by simp[h]),L1,if_neg (by simp[h]),if_pos h2];simp
theorem agt(h:l.any (dD t)=false)(h2:dD t y=false):jh t (l++[y])=jh t l++[y]:=by
 unfold jh;rw[if_neg (by simp[h,h2]),if_neg (by simp[h])]
theorem ags(t:Th)(l:List Th):(jh t l).length<=l.length+1:=by
 have h:(jw t l).length<=l.length+1:=by
  induction l with
  |nil=>simp[jw]
  |cons z r ih=>unfold jw;split<;>simp only[List.length_cons]<;>omega
 unfold jh;split<;>omega
def Qs(B:Nat)(w:World)(l:List Th)(e:Ending)(w':World):Prop:=
 ∃a c,e= .returned (.slice a l.length c)/\dQ w' B a l.length c l/\Below w.heap.size w w'
theorem ahL(x:Nd)(hk:x.kind=2)(ho:dI 2 x.th=true)(acc:List Th)(a:Option Addr)(c:Nat)(B:Nat)(w:World)(hB:B<=w.heap.size)
 (h:dQ w B a acc.length c acc) (hv: ∀t∈acc,dI 2 t=true) (hl:acc.length<=10000):
 Calls prog 304 #[vN x,.slice a acc.length c] w (Qs B w (oG x.th acc)):=by
 have A:=al w (bN x);have b0:=l9.new w x;have h1:=Own.below h A;have zk:(x.kind==2)=true:=by simpa using hk
 obtain⟨n,hn⟩:=aj acc.length;have HN:=hid hn;rw[hn]at h1 hl⊢;have H1:=hid h1;have HB:=hid hB;have HV:=hid hv;have HO:=hid ho;have HA:=hid A;have qO:=hid b0;have HF:=hid (fun(hf: ¬x.th∈acc)=>Vd x.th acc);clear hk hB h h1 hv ho hn HF A;go_in
 go_upto_region 1 with(fail)
 generalize w.alloc (bN x)=W1 at*;obtain⟨q0, -⟩:=b0.cells;go_wp2_with fail;clear q0
 go_loopw [5,6,7] (fun out put i wr=> ∃(k:Nat) (ao:Option Addr) (co:Nat),k<=n/\i= .int .i64 k/\put= .bool ((acc.take k).any (dD x.th))/\out= .slice ao (jh x.th (acc.take k)).length co/\Below W1.heap.size W1 wr/\dQ wr W1.heap.size ao (jh x.th (acc.take k)).length co (jh x.th (acc.take k))/\Hid (x.th∉acc.take k)) (fun _ _ i _=>n-(intOf i).toNat)
 ·exact⟨0,none,0,apL _,rfl,rfl,rfl,anM _ _,Own.nil _ _ _ _,by simp[Hid]⟩
 obtain⟨k,ao,co,hk,rfl,rfl,rfl,E1,oo,sx⟩:=hrel;have b0:=b0.below E1;have hol:=ags x.th (acc.take k);obtain⟨L,hL⟩:=aj (jh x.th (acc.take k));obtain⟨f,hf⟩:=aj ((acc.take k).any (dD x.th));obtain⟨m,hm⟩:=aj L.length;have jU:=hid (anY hL hf);have HM:=hid hm;rw[hL]at oo hol⊢;rw[hf];rw[hm]at oo hol⊢;rw[ao2]at hol;clear hL hf hm;have hacc:=Own.below H1.out E1
 by_cases hlt:k<n
 ·obtain⟨y,hy⟩: ∃y,acc[k]? =some y:=⟨_,am9 (by rw[HN.out];exact hlt)⟩
  have HY:=hid hy;have els:=(Own.els hacc ep (by omega) (aI HN.out)).1;obtain⟨p0,p1,p2⟩:=els.th hy;have ix:=els.idx jR ep k (by rw[HN.out];exact hlt) c;rw[HN.out]at ix;obtain⟨q0,q1,q2,q3,q4,q5⟩:=b0.cells;obtain⟨d,hd⟩:=aj (decide (y=x.th));have HD:=hid hd;have BF:=hid (show ∀w,Calls prog 334 #[ko x.th,ko y] w (aJ w (.bool (dD x.th y)))from fun w=>ahJ ⟨x.th,HO.out⟩ ⟨y,HV.out y (anw HY.out)⟩ w);have hsz:W1.heap.size<=wr.heap.size:=E1.size;clear hy els hd hacc;go_wp2_with fail;have p0:=cell_regrown p0;have p1:=cell_regrown p1;have p2:=cell_regrown p2;have q0:=cell_regrown q0;have q1:=cell_regrown q1;have q2:=cell_regrown q2;have q3:=cell_regrown q3;refine wp_region_quiet_below aN aN ?_
  repeat(go_big_quiet_step (fail))
  refine wpQuiet_nil ?_;intro _ hw';obtain⟨⟨dq,cH⟩,hw''⟩:=hw';subst hw'';have EQ:=below_regrown wr dq cH;generalize grow (redrawn wr dq) cH=W7 at*;have b0:=b0.below EQ;have oo:=Own.below oo EQ;have E1:=E1.trans (EQ.mono E1.size);clear EQ p0 p1 p2 q0 q1 q2 q3 q4 q5 ix hsz;have els:=(Own.els (Own.below H1.out E1) ep (by omega) (aI HN.out)).1;obtain⟨p0,p1,p2⟩:=els.th HY.out;have ix:=els.idx jR ep k (by rw[HN.out];exact hlt) c;rw[HN.out]at ix;obtain⟨q0,q1,q2,q3,q4,q5⟩:=b0.cells;clear els;cases d with
  | true=>
    have HZ:=hid (show oG x.th acc=acc/\acc.length=n from⟨by
     unfold oG;rw[if_pos (by rw[<-of_decide_eq_true HD.out];exact anw HY.out)],HN.out⟩)
    rw[HD.out];go_wp2_with fail
    (try go_simp)
    go_ret;have E:=HA.out.trans (E1.mono HA.out.size);refine⟨a,c,?_,?_,E⟩
    ·rw[HZ.out.1,HZ.out.2];first|done|rfl
    rw[HZ.out.1,HZ.out.2];exact Own.below H1.out E1
  | false=>
    have TK:=hid (show acc.take (k+1)=acc.take k++[y] by
     obtain⟨hlt,rfl⟩:=anx.1 HY.out;exact anH hlt)
    have NM:=hid (show x.th∉acc.take k++[y] by
     intro hm;rcases aok.1 hm with h1|h1
     ·exact sx.out h1
     simp at h1;have:=of_decide_eq_false HD.out;exact this h1.symm)
    clear sx;rw[HD.out];cases f with
    | true=>
      have HT:=hid (show jh x.th (acc.take (k+1))=L++[y]/\(acc.take (k+1)).any (dD x.th)=true from⟨by rw[TK.out,agv jU.out.2,jU.out.1],by rw[TK.out];simp[jU.out.2]⟩);go_wp2_with fail;have p0:=cell_regrown p0;have p1:=cell_regrown p1;have p2:=cell_regrown p2;have q0:=cell_regrown q0;have q1:=cell_regrown q1;have q2:=cell_regrown q2;have q3:=cell_regrown q3;refine wp_region_quiet_below aN aN ?_
      repeat(go_big_quiet_step (fail))
      refine wpQuiet_nil ?_;intro _ hw';obtain⟨⟨dq,cH⟩,hw''⟩:=hw';subst hw'';have EQ:=below_regrown W7 dq cH;generalize grow (redrawn W7 dq) cH=W9 at*;have b0:=b0.below EQ;have oo:=Own.below oo EQ;have E1:=E1.trans (EQ.mono E1.size);clear EQ p0 p1 p2 q0 q1 q2 q3 q4 q5 ix;obtain⟨p0,p1,p2⟩:=(Own.els (Own.below H1.out E1) ep (by omega) (aI HN.out)).1.th HY.out;have ix:=(Own.els (Own.below H1.out E1) ep (by omega) (aI HN.out)).1.idx jR ep k (by rw[HN.out];exact hlt) c;rw[HN.out]at ix;obtain⟨q0,q1,q2,q3,q4,q5⟩:=b0.cells
      go_wp2_with (at_builtin;go_loud(refine nU jR (.tmp 42) (.tmp 47) rfl rfl rfl rfl oo rfl rfl (by intro u hu;simp at hu;rcases hu with rfl|rfl|rfl<;>rfl) E1 E1.size (by omega) cz ?_))
      intro a5 c5 w5 o5 g5 B5;have o5:dQ w5 W1.heap.size a5 (m+1) c5 (L++[y]):=by unfold dQ;rw[j9,lG];exact o5
      have E1:=B5;have b0:=qO.out.below E1;clear g5 B5 p0 p1 p2 q0 q1 q2 q3 q4 q5 ix oo;go_wp2_with fail
      go_roundw
      case rel=>
       have hz:(jh x.th (acc.take (k+1))).length=m+1:=by rw[HT.out.1,aoW,HM.out];rfl
       refine⟨k+1,a5,c5,by omega,by go_num,?_,?_,E1,?_,?_⟩
       ·rw[HT.out.2]
       ·rw[hz]
       ·rw[hz,HT.out.1];exact o5
       rw[TK.out];exact NM.out
      case measure=>simp[intOf];omega
    | false=>
      obtain⟨g,hg⟩:=aj (dD x.th y);rw[hg]at BF;go_wp2_with fail;have p0:=cell_regrown p0;have p1:=cell_regrown p1;have p2:=cell_regrown p2;have q0:=cell_regrown q0;have q1:=cell_regrown q1;have q2:=cell_regrown q2;have q3:=cell_regrown q3;have cA:=fun(d:Nat) (os:Array Obj)=>Calls.regrown_of (yY (BF.out (grow (redrawn W7 d) os)))
      refine wp_region_quiet_below aN aN ?_
      repeat(go_big_quiet_step (exact cA _ _))
      refine wpQuiet_nil ?_;intro _ hw';obtain⟨⟨dq,cH⟩,hw''⟩:=hw';subst hw'';have EQ:=below_regrown W7 dq cH;generalize grow (redrawn W7 dq) cH=W9 at*;have b0:=b0.below EQ;have oo:=Own.below oo EQ;have E1:=E1.trans (EQ.mono E1.size);clear EQ p0 p1 p2 q0 q1 q2 q3 q4 q5 ix;obtain⟨p0,p1,p2⟩:=(Own.els (Own.below H1.out E1) ep (by omega) (aI HN.out)).1.th HY.out;have ix:=(Own.els (Own.below H1.out E1) ep (by omega) (aI HN.out)).1.idx jR ep k (by rw[HN.out];exact hlt) c;rw[HN.out]at ix;obtain⟨q0,q1,q2,q3,q4,q5⟩:=b0.cells;clear cA;cases g with
      | true=>
        have HT:=hid (show jh x.th (acc.take (k+1))=L++[x.th]++[y]/\(acc.take (k+1)).any (dD x.th)=true from⟨by rw[TK.out,agu jU.out.2 hg,jU.out.1],by rw[TK.out];simp[hg]⟩);clear hg
        go_wp2_with (at_builtin;go_loud(refine nU jR (.tmp 37) (.tmp 40) rfl rfl rfl rfl oo rfl rfl (by intro u hu;simp at hu;rcases hu with rfl|rfl|rfl<;>rfl) E1 E1.size (by omega) cz ?_))
        intro a3 c3 w3 o3 g3 B3;have o3:dQ w3 W1.heap.size a3 (m+1) c3 (L++[x.th]):=by unfold dQ;rw[j9,lG];exact o3
        have E1:=B3;have b0:=qO.out.below E1;have oo:=o3;clear o3 g3 B3 p0 p1 p2 q0 q1 q2 q3 q4 q5 ix;obtain⟨p0,p1,p2⟩:=(Own.els (Own.below H1.out E1) ep (by omega) (aI HN.out)).1.th HY.out;have ix:=(Own.els (Own.below H1.out E1) ep (by omega) (aI HN.out)).1.idx jR ep k (by rw[HN.out];exact hlt) c;rw[HN.out]at ix;obtain⟨q0,q1,q2,q3,q4,q5⟩:=b0.cells
        go_wp2_with (at_builtin;go_loud(refine nU jR (.tmp 42) (.tmp 47) rfl rfl rfl rfl oo rfl rfl (by intro u hu;simp at hu;rcases hu with rfl|rfl|rfl<;>rfl) E1 E1.size (by omega) cz ?_))
        intro a5 c5 w5 o5 g5 B5;have o5:dQ w5 W1.heap.size a5 (m+1+1) c5 (L++[x.th]++[y]):=by unfold dQ;rw[j9,lG];exact o5
        have E1:=B5;have b0:=qO.out.below E1;clear g5 B5 p0 p1 p2 q0 q1 q2 q3 q4 q5 ix oo;go_wp2_with fail
        go_roundw
        case rel=>
         have hz:(jh x.th (acc.take (k+1))).length=m+1+1:=by rw[HT.out.1,aoW,aoW,HM.out];rfl
         refine⟨k+1,a5,c5,by omega,by go_num,?_,?_,E1,?_,?_⟩
         ·rw[HT.out.2]
         ·rw[hz]
         ·rw[hz,HT.out.1];exact o5
         rw[TK.out];exact NM.out
        case measure=>simp[intOf];omega
      | false=>
        have HT:=hid (show jh x.th (acc.take (k+1))=L++[y]/\(acc.take (k+1)).any (dD x.th)=false from⟨by rw[TK.out,agt jU.out.2 hg,jU.out.1],by rw[TK.out];simp only[List.any_append,jU.out.2,aqr,hg,List.any_nil,Bool.or_false]⟩);clear hg
        go_wp2_with (at_builtin;go_loud(refine nU jR (.tmp 42) (.tmp 47) rfl rfl rfl rfl oo rfl rfl (by intro u hu;simp at hu;rcases hu with rfl|rfl|rfl<;>rfl) E1 E1.size (by omega) cz ?_))
        intro a5 c5 w5 o5 g5 B5;have o5:dQ w5 W1.heap.size a5 (m+1) c5 (L++[y]):=by unfold dQ;rw[j9,lG];exact o5
        have E1:=B5;have b0:=qO.out.below E1;clear g5 B5 p0 p1 p2 q0 q1 q2 q3 q4 q5 ix oo;go_wp2_with fail
        go_roundw
        case rel=>
         have hz:(jh x.th (acc.take (k+1))).length=m+1:=by rw[HT.out.1,aoW,HM.out];rfl
         refine⟨k+1,a5,c5,by omega,by go_num,?_,?_,E1,?_,?_⟩
         ·rw[HT.out.2]
         ·rw[hz]
         ·rw[hz,HT.out.1];exact o5
         rw[TK.out];exact NM.out
        case measure=>simp[intOf];omega
 obtain rfl:k=n:=by omega
 have hk':acc.take k=acc:=by rw[<-HN.out,ao0]
 have HQ:=hid (show oG x.th acc=if f then L else L++[x.th] by
  unfold oG;rw[if_neg (by have:=sx.out;rwa[hk']at this),Vd];have h1:=jU.out.1;have h2:=jU.out.2;rw[hk']at h1 h2;rw[h1,h2])
 obtain⟨q0,q1,q2,q3,q4,q5⟩:=b0.cells;clear hacc hk' sx;cases f with
 | true=>
   go_wp2_with fail
   (try go_simp)
   go_ret;have E:=HA.out.trans (E1.mono HA.out.size);have pS:=HQ.out;rw[if_pos trivial]at pS;rw[pS];refine⟨ao,co,?_,?_,E⟩
   ·rw[HM.out];first|done|rfl
   rw[HM.out];exact Own.mono oo (by have:=HA.out.size;have:=HB.out;omega)
 | false=>
   go_wp2_with (at_builtin;go_loud(refine nU jR (.tmp 51) (.tmp 54) rfl rfl rfl rfl oo rfl rfl (by intro u hu;simp at hu;rcases hu with rfl|rfl|rfl<;>rfl) E1 E1.size (by omega) cz ?_))
   intro a5 c5 w5 o5 g5 B5;have o5:dQ w5 W1.heap.size a5 (m+1) c5 (L++[x.th]):=by unfold dQ;rw[j9,lG];exact o5
   have E1:=B5;clear g5 B5 q0 q1 q2 q3 q4 q5 oo;go_wp2_with fail
   (try go_simp)
   go_ret;have E:=HA.out.trans (E1.mono HA.out.size);have pS:=HQ.out;rw[if_neg (by simp)]at pS;rw[pS];refine⟨a5,c5,?_,?_,E⟩
   ·rw[aoW,HM.out];first|done|rfl
   rw[aoW,HM.out];exact Own.mono o5 (by have:=HA.out.size;have:=HB.out;omega)
theorem ahK: ∀(x:Nd) (acc:List Th) (a:Option Addr) (c:Nat) (B:Nat) (w:World),gp 2 x->fW w x->B<=w.heap.size->
 dQ w B a acc.length c acc->(∀t∈acc,dI 2 t=true)->nu acc->acc.length+mD x<=10000->
 Calls prog 304 #[vN x,.slice a acc.length c] w (Qs B w (lX x acc)):=by
 intro x
 induction x using Nd.ind with
 |h x ih=>
 intro acc a c B w ho hI hB h hv hr hl
 by_cases hk:x.kind=2
 ·rw[Kc,if_pos hk]
  exact ahL x hk (ho.Oo hk).1 acc a c B w hB h hv (by omega)
 rw[Kc,if_neg hk]
 have hc:=A9 x;have A:=al w (bN x);have b0:=l9.new w x;have h1:=Own.below h A;have zk:(x.kind==2)=false:=by simpa using hk
 have HI:=hid (hI.keep A);have HA:=hid A;have qQ:=hid ih;have HO:=hid ho;have xW:B<=(w.alloc (bN x)).heap.size:=Nat.le_trans hB A.size;have HVR:=hid (anY hv hr);clear hk ih hB h hI ho hv hr A;go_in
 go_upto_region 1 with(fail)
 generalize w.alloc (bN x)=W1 at*;obtain⟨q0,q1,q2,q3,q4,q5⟩:=b0.cells;go_wp2_with fail;clear q0 q1 q2 q3 q4 q5
 go_loopw [1,8] (fun ls i wr=> ∃(k:Nat) (a1:Option Addr) (c1:Nat),k<=x.kids.length/\i= .int .i64 k/\ls= .slice a1 (fZ (x.kids.take k) acc).length c1/\Below W1.heap.size W1 wr/\dQ wr B a1 (fZ (x.kids.take k) acc).length c1 (fZ (x.kids.take k) acc)/\Hid ((∀z∈fZ (x.kids.take k) acc,dI 2 z=true)/\nu (fZ (x.kids.take k) acc))/\(fZ (x.kids.take k) acc).length<=acc.length+iG (x.kids.take k)) (fun _ i _=>x.kids.length-(intOf i).toNat)
 ·exact⟨0,a,c,apL _,rfl,by rw[aqk,vK],anM _ _,by rw[aqk,vK];exact h1,by rw[aqk,vK];exact HVR,by rw[aqk,vK];omega⟩
 clear h1;obtain⟨k,a1,c1,hk,rfl,rfl,E,oo,HK,hlen⟩:=hrel;have b0:=b0.below E;obtain⟨q0,q1,q2,q3,q4,q5⟩:=b0.cells;obtain⟨l,qo⟩:=aj (fZ (x.kids.take k) acc);have Pw:=hid qo;rw[qo]at oo HK hlen⊢;clear qo
 by_cases hlt:k<x.kids.length
 ·obtain⟨y,hy⟩: ∃y,x.kids[k]? =some y:=⟨_,am9 hlt⟩
  have ou:=anw hy;have iI:=HI.out.keep E;obtain⟨p0,p1,p2,p3,p4,p5⟩:=iI.els.nd hy;have ix:=iI.els.idx kG kN k hlt x.c;have hle:=iI.els.len
  have hT:x.kids.take (k+1)=x.kids.take k++[y]:=by
   obtain⟨hlt,rfl⟩:=anx.1 hy;exact anH hlt
  have hc1:iG (x.kids.take (k+1))=iG (x.kids.take k)+mD y:=by rw[hT,vE,rq,vF];rfl
  have sZ:iG x.kids=iG (x.kids.take (k+1))+iG (x.kids.drop (k+1)):=by rw[<-vE,aoT]
  have GN:=Tm (HO.out.jz y ou) HK.out.1 HK.out.2;have A:=al wr (bN y);have CY:=hid (qQ.out y ou l a1 c1 B wr (HO.out.jz y ou) (iI.jz y ou) (Nat.le_trans xW E.size) oo HK.out.1 HK.out.2 (by omega));have HT:=hid (show fZ (x.kids.take (k+1)) acc=lX y l by rw[adb hy,Pw.out]);have HG:=hid (anY (anY GN.1 GN.2.1) (show(lX y l).length<=acc.length+iG (x.kids.take (k+1)) by have:=GN.2.2.2;omega));clear hy ou iI GN hT hc1 sZ;go_wp2_with fail;refine CY.out.mono ?_;rintro e w2 ⟨a2,c2,rfl,o2,E2⟩;have E2:=E.trans (E2.mono E.size);clear oo E b0 CY A q0 q1 q2 q3 q4 q5 p0 p1 p2 p3 p4 p5 ix;go_wp2_with fail
  go_roundw
  case rel=>
   refine⟨k+1,a2,c2,by omega,by go_num,?_,E2,?_,?_,?_⟩
   ·rw[HT.out]
   ·rw[HT.out];exact o2
   ·rw[HT.out];exact HG.out.1
   rw[HT.out];exact HG.out.2
  case measure=>simp[intOf];omega
 obtain rfl:k=x.kids.length:=by omega
 have HE:=hid (show fZ x.kids acc=l by rw[<-Pw.out,ao0]);go_wp2_with fail
 (try go_simp)
 go_ret;rw[HE.out];exact⟨a1,c1,rfl,oo,HA.out.trans (E.mono HA.out.size)⟩
theorem Yb(q:Int)(x:Nd)(w:World)(hI:fW w x):Calls prog 244 #[vC q x] w (xz w (kY q x) (cV 2 q x)):=by
 have B:=al w (ki q x);have b0:aA (w.alloc (ki q x)) w.heap.size (cC q x):=aA.new w _ _;have CH:=Nf 2 q x (w.alloc (ki q x)) (hI.keep B);obtain⟨r,hr⟩:=aj (cV 2 q x);rw[hr]at CH⊢
 by_cases h0:r=0
 ·subst h0
  obtain⟨-, hq1,lJ,ho,hn⟩:=JS hr;have hT:=hid (show kY q x=mX x by unfold kY;rw[if_pos hr]);have CH:=hid CH;have HI:=hid (hI.keep B);have HO:=hid ho;clear hr hI ho;go_in;go_wp2_with fail;refine CH.out.mono ?_;rintro e1 w1 ⟨rfl,E1⟩;obtain⟨q0,q1,q2,q3,q4,q5,q6⟩:=(b0.below E1).cC;have hI:=HI.out.keep E1;have B:=B.trans (E1.mono B.size);have TH:=hid (ahK x [] none 0 w.heap.size w1 HO.out hI B.size (Own.nil _ _ _ _) (by simp) List.Pairwise.nil ah);clear E1 CH HI hI;go_wp2_with fail;refine TH.out.mono ?_;rintro e2 w2 ⟨a,c,rfl,o2,E2⟩;have B2:=B.trans (E2.mono B.size);have HZ:=hid (anY o2 B2);clear q0 q1 q2 q3 q4 q5 q6 o2 TH E2 B2;go_wp2
  go_ret2
  rw[hT.out];exact⟨a,c,rfl,HZ.out.1,HZ.out.2⟩
 have hT:=hid (show kY q x=[] by unfold kY;rw[if_neg (by rw[hr];exact h0)])
 have z:(r != 0)=true:=by simpa using h0
 have CH:=hid CH;clear hr hI h0;go_in;go_wp2_with fail;refine CH.out.mono ?_;rintro e1 w1 ⟨rfl,E1⟩;have B:=B.trans (E1.mono B.size);go_wp2
 go_ret2
 exact xz.none hT.out rfl B
theorem Hi(q:Int)(x:Nd):(kY q x).length<=1024:=by
 unfold kY;split
 ·rename_i h
  obtain⟨-, -, -, ho,hn⟩:=JS h;have:=(Oq ho).2.2.2;omega
 simp
theorem air(t:aG)(hi:t.init.length<=1024)(hc:t.code.length<=16)(hr: ∀x∈t.code,x.l.length<=256)(w:World)(h:iT w t):
 Calls prog 170 #[vT t] w (Qw w.heap.size w (jO t)):=by
 have A:=al w (cq t);have b0:=fF.new w t;have HI:=hid (h.keep A);have HA:=hid A;have HR:=hid hr;clear h A hr;go_in
 go_upto_region 1 with(fail)
 generalize w.alloc (cq t)=W1 at*;go_wp2_with fail
 go_loopw [3,4] (fun o i wr=> ∃(k:Nat) (a:Option Addr) (c:Nat) (L:List Tx),k<=t.init.length/\i= .int .i64 k/\o= .slice a L.length c/\Below W1.heap.size W1 wr/\eP wr W1.heap.size a L.length c L/\L.length<=2*k/\Hid (L=fO [] (oH (t.init.take k)))) (fun _ i _=>t.init.length-(intOf i).toNat)
 ·exact⟨0,none,0,[],by omega,rfl,rfl,anM _ _,Own.nil _ _ _ _,by simp,rfl⟩
 obtain⟨k,a,c,L,hk,rfl,rfl,E,o,hl,HL⟩:=hrel;obtain⟨c0,c1,c2,c3,c4,c5,c6,c7,c8,c9,c10,c11⟩:=(b0.below E).cells
 by_cases hlt:k<t.init.length
 ·obtain⟨x,hx⟩: ∃x,t.init[k]? =some x:=⟨_,am9 hlt⟩
  obtain⟨p0,p1,p2,p3,p4⟩:=(HI.out.init.below E).ow hx;have ix:=HI.out.init.idx pF mC k hlt t.ic;have P1:=hid (GJ x.loc L a c W1.heap.size wr E.size o (by omega));have kC:=GG L x.loc;have hl3:=GG (ir L x.loc) x.aT;have HT:=hid (show ir (ir L x.loc) x.aT=fO [] (oH (t.init.take (k+1))) by rw[aiW hx,<-HL.out]);have HX:=hid hx;clear hx;go_wp2_with fail;refine P1.out.mono ?_;rintro e w2 ⟨a2,lB,rfl,o2,E2⟩;have E:=E.trans (E2.mono E.size);clear c0 c1 c2 c3 c4 c5 c6 c7 c8 c9 c10 c11 p0 p1 p2 p3 p4 o E2 P1;obtain⟨c0,c1,c2,c3,c4,c5,c6,c7,c8,c9,c10,c11⟩:=(b0.below E).cells;obtain⟨p0,p1,p2,p3,p4⟩:=(HI.out.init.below E).ow HX.out;have P1:=hid (GJ x.aT (ir L x.loc) a2 lB W1.heap.size w2 E.size o2 (by omega));go_wp2_with fail;refine P1.out.mono ?_;rintro e w3 ⟨a3,c3',rfl,o3,E3⟩;have E:=E.trans (E3.mono E.size);clear c0 c1 c2 c3 c4 c5 c6 c7 c8 c9 c10 c11 p0 p1 p2 p3 p4 o2 E3 P1 ix;go_wp2_with fail
  go_roundw;exact⟨k+1,a3,c3',_,by omega,by go_num,rfl,E,o3,by omega,HT⟩;simp[intOf];omega
 obtain rfl:k=t.init.length:=by omega
 have HL:=hid (show L=fO [] (oH t.init) by rw[HL.out,ao0]);have hl:L.length<=2048:=by omega
 clear hlt hk;go_wp2_with fail;clear c0 c1 c2 c3 c4 c5 c6 c7 c8 c9 c10 c11
 go_loopw [3,5] (fun o i wr=> ∃(k:Nat) (a:Option Addr) (c:Nat) (M:List Tx),k<=t.code.length/\i= .int .i64 k/\o= .slice a M.length c/\Below W1.heap.size W1 wr/\eP wr W1.heap.size a M.length c M/\M.length<=2048+256*k/\Hid (M=fO L (mm (t.code.take k)))) (fun _ i _=>t.code.length-(intOf i).toNat)
 ·exact⟨0,a,c,L,by omega,rfl,rfl,E,o,by omega,rfl⟩
 clear E o;obtain⟨k,a,c,M,hk,rfl,rfl,E,o,hm,HM⟩:=hrel;obtain⟨c0,c1,c2,c3,c4,c5,c6,c7,c8,c9,c10,c11⟩:=(b0.below E).cells
 by_cases hlt:k<t.code.length
 ·obtain⟨x,hx⟩: ∃x,t.code[k]? =some x:=⟨_,am9 hlt⟩
  have iy:=HI.out.code.sO k hlt t.cc;have k7:=hid (HI.out.rows x (anw hx));have adY:=HR.out x (anw hx);have HX:=hid hx;have HT:=hid (show fO M (x.l.map (·.loc))=fO L (mm (t.code.take (k+1))) by rw[aiU hx,<-HM.out]);clear hx;go_wp2_with fail;clear c0 c1 c2 c3 c4 c5 c6 c7 c8 c9 c10 c11
  go_loopw [3,6] (fun o i wr=> ∃(j:Nat) (a:Option Addr) (c:Nat) (N:List Tx),j<=x.l.length/\i= .int .i64 j/\o= .slice a N.length c/\Below W1.heap.size W1 wr/\eP wr W1.heap.size a N.length c N/\N.length<=M.length+j/\Hid (N=fO M ((x.l.take j).map (·.loc)))) (fun _ i _=>x.l.length-(intOf i).toNat)
  ·exact⟨0,a,c,M,by omega,rfl,rfl,E,o,by omega,rfl⟩
  clear E o;obtain⟨j,a,c,N,hj,rfl,rfl,E,o,fk,HN⟩:=hrel;obtain⟨c0,c1,c2,c3,c4,c5,c6,c7,c8,c9,c10,c11⟩:=(b0.below E).cells;have p0:=(HI.out.code.below E).cd HX.out
  by_cases hjt:j<x.l.length
  ·obtain⟨i,hi⟩: ∃i,x.l[j]? =some i:=⟨_,am9 hjt⟩
   obtain⟨q0,q1,q2,q3,q4,q5,q6,q7⟩:=(k7.out.is.below E).cells hi;have ix:=(k7.out.is.below E).idx j hjt x.c;have P1:=hid (GJ i.loc N a c W1.heap.size wr E.size o (by omega));have kC:=GG N i.loc;have gm:=hid (show ir N i.loc=fO M ((x.l.take (j+1)).map (·.loc)) by rw[Wa (·.loc) hi,<-HN.out]);clear hi;go_wp2_with fail;refine P1.out.mono ?_;rintro e w2 ⟨a2,lB,rfl,o2,E2⟩;have E:=E.trans (E2.mono E.size);clear c0 c1 c2 c3 c4 c5 c6 c7 c8 c9 c10 c11 p0 q0 q1 q2 q3 q4 q5 q6 q7 o E2 P1 ix;go_wp2_with fail
   go_roundw;exact⟨j+1,a2,lB,_,by omega,by go_num,rfl,E,o2,by omega,gm⟩;simp[intOf];omega
  obtain rfl:j=x.l.length:=by omega
  have gm:=hid (show N=fO L (mm (t.code.take (k+1))) by rw[<-HT.out,HN.out,ao0]);go_wp2_with fail
  go_roundw;exact⟨k+1,a,c,N,by omega,by go_num,rfl,E,o,by omega,gm⟩;simp[intOf];omega
 obtain rfl:k=t.code.length:=by omega
 have HM:=hid (show M=fO L (mm t.code) by rw[HM.out,ao0]);have hm:M.length<=6144:=by omega
 have TH:=hid (Yb t.q t.node wr (HI.out.node.keep E));have htl:=Hi t.q t.node;clear hlt hk;obtain⟨T,hT⟩:=aj (kY t.q t.node);rw[hT]at TH htl;have IK:=hid hT;clear hT;go_wp2_with fail;refine TH.out.mono ?_;rintro e w2 ⟨a2,lB,rfl,o2,E2⟩;have els:=(Own.els o2 ep (by omega) (by omega)).1;have HEL:=hid els;have o:=Own.below o E2;have Py:=hid E2.size;have E:=E.trans (E2.mono E.size);have E3:=hid E;clear c0 c1 c2 c3 c4 c5 c6 c7 c8 c9 c10 c11 o2 E2 TH els;go_wp2_with fail;obtain⟨W3,Kv⟩:=aj w2
 go_loopw [3,9] (fun o i wr=> ∃(j:Nat) (a:Option Addr) (c:Nat) (N:List Tx),j<=T.length/\i= .int .i64 j/\o= .slice a N.length c/\Below W1.heap.size W1 wr/\bK lW wr a2 T/\eP wr W1.heap.size a N.length c N/\N.length<=M.length+j/\Hid (N=fO M ((T.take j).map (·.loc)))) (fun _ i _=>T.length-(intOf i).toNat)
 ·exact⟨0,a,c,M,by omega,rfl,rfl,E,HEL.out,o,by omega,rfl⟩
 clear E o;obtain⟨j,a,c,N,hj,rfl,rfl,E,els,o,fk,HN⟩:=hrel
 by_cases hjt:j<T.length
 ·obtain⟨x,hx⟩: ∃x,T[j]? =some x:=⟨_,am9 hjt⟩
  obtain⟨q0,q1,q2⟩:=els.th hx;have ix:=els.idx jR ep j hjt lB;have P1:=hid (GJ x.loc N a c W1.heap.size wr E.size o (by omega));have kC:=GG N x.loc;have gm:=hid (show ir N x.loc=fO M ((T.take (j+1)).map (·.loc)) by rw[Wa (·.loc) hx,<-HN.out]);clear hx;go_wp2_with fail;refine P1.out.mono ?_;rintro e w4 ⟨a4,c4',rfl,o4,E4⟩;have E:=E.trans (E4.mono E.size);have els:=els.below E4;clear q0 q1 q2 o E4 P1 ix;go_wp2_with fail
  go_roundw;exact⟨j+1,a4,c4',_,by omega,by go_num,rfl,E,els,o4,by omega,gm⟩;simp[intOf];omega
 obtain rfl:j=T.length:=by omega
 have HZ:=hid (show N=jO t by
  rw[aga,<-HL.out,<-HM.out,HN.out,ao0];unfold lu;rw[IK.out])
 go_wp2_with fail
 (try go_simp)
 go_ret;rw[<-HZ.out];exact⟨a,c,rfl,Own.mono o HA.out.size,HA.out.trans (E.mono HA.out.size)⟩
def lq(t:aG):Int:=if cV t.af t.q t.node≠0 then cV t.af t.q t.node else if(lu t).any fun x=>decide ((t.code.length:Int)<=x.thread)then 80 else 0
theorem aih(t:aG)(hn:t.code.length<=1000)(w:World)(h:iT w t):Calls prog 169 #[vT t] w (aJ w (.int .i64 (lq t))):=by
 have A:=al w (cq t);have b0:=fF.new w t;have HI:=hid (h.keep A);have HA:=hid A;have CH:=Nf t.af t.q t.node _ (h.keep A).node;obtain⟨r,hr⟩:=aj (cV t.af t.q t.node);rw[hr]at CH;have CH:=hid CH;have nr:=hid (show lq t=if r≠0 then r else if(lu t).any fun x=>decide ((t.code.length:Int)<=x.thread)then 80 else 0 by unfold lq;rw[hr]);clear h A hr;go_in
 go_upto_region 1 with(fail)
 generalize w.alloc (cq t)=W1 at*;obtain⟨c0,c1,c2,c3,c4,c5,c6,c7,c8,c9,c10,c11⟩:=b0.cells;go_wp2_with fail;refine CH.out.mono ?_;rintro e w2 ⟨rfl,E⟩;clear c0 c1 c2 c3 c4 c5 c6 c7 c8 c9 c10 c11 CH
 by_cases h0:r=0
 ·subst h0
  have nr:=hid (show lq t=if(lu t).any fun x=>decide ((t.code.length:Int)<=x.thread)then 80 else 0 by rw[nr.out,if_neg (by omega)]);obtain⟨c0,c1,c2,c3,c4,c5,c6,c7,c8,c9,c10,c11⟩:=(b0.below E).cells;have TH:=hid (Yb t.q t.node w2 (HI.out.node.keep E));have htl:(kY t.q t.node).length<=1024:=Hi t.q t.node;obtain⟨T,hT⟩:=aj (kY t.q t.node);rw[hT]at TH htl;have nr:=hid (show lq t=if T.any fun x=>decide ((t.code.length:Int)<=x.thread)then 80 else 0 by rw[nr.out];unfold lu;rw[hT]);clear hT;go_wp2_with fail;refine TH.out.mono ?_;rintro e w3 ⟨a2,lB,rfl,o2,E2⟩;have els:=(Own.els o2 ep (by omega) (by omega)).1;have E:=E.trans (E2.mono E.size);clear c0 c1 c2 c3 c4 c5 c6 c7 c8 c9 c10 c11 o2 E2 TH;go_wp2_with fail
  go_loopw [6] (fun i wr=> ∃j:Nat,j<=T.length/\i= .int .i64 j/\Below W1.heap.size W1 wr/\bK lW wr a2 T/\Hid (∀(m:Nat) (x:Th),m<j->T[m]? =some x->x.thread<t.code.length)) (fun i _=>T.length-(intOf i).toNat)
  ·exact⟨0,by omega,rfl,E,els,fun m x hm=>absurd hm (Nat.not_lt_zero m)⟩
  clear E els;obtain⟨j,hj,rfl,E,els,HJ⟩:=hrel
  by_cases hjt:j<T.length
  ·obtain⟨x,hx⟩: ∃x,T[j]? =some x:=⟨_,am9 hjt⟩
   obtain⟨q0,q1,q2⟩:=els.th hx;have ix:=els.idx jR ep j hjt lB;obtain⟨c0,c1,c2,c3,c4,c5,c6,c7,c8,c9,c10,c11⟩:=(b0.below E).cells;have HX:=hid hx;clear hx;go_wp2_with fail;have q0:=cell_regrown q0;have c4:=cell_regrown c4;refine wp_region_quiet_below aN aN ?_
   repeat(go_big_quiet_step (fail))
   refine wpQuiet_nil ?_;intro _ hw';obtain⟨⟨dq,cH⟩,hw''⟩:=hw';subst hw'';have EQ:=below_regrown wr dq cH;generalize grow (redrawn wr dq) cH=W5 at*;have E:=E.trans (EQ.mono E.size);have els:=els.below EQ;clear q0 q1 q2 c0 c1 c2 c3 c4 c5 c6 c7 c8 c9 c10 c11 EQ ix
   by_cases mJ:(t.code.length:Int)<=x.thread
   ·have HZ:=hid (show lq t=80 by rw[nr.out,if_pos];rw[an1];exact⟨x,anw HX.out,by simpa using mJ⟩)
    go_wp2_with fail;go_ret;rw[HZ.out];exact⟨rfl,HA.out.trans (E.mono HA.out.size)⟩
   have Lz:x.thread<t.code.length:=by omega
   have gT: ∀(m:Nat) (y:Th),m<j+1->T[m]? =some y->y.thread<t.code.length:=fun m y hm hy=>by
    rcases Nat.lt_succ_iff_lt_or_eq.1 hm with h|h
    ·exact HJ.out m y h hy
    subst h;rw[HX.out]at hy;cases hy;exact Lz
   have gT:=hid gT;clear HJ;go_wp2_with fail
   go_roundw;exact⟨j+1,by omega,by go_num,E,els,gT⟩;simp[intOf];omega
  obtain rfl:j=T.length:=by omega
  have HZ:=hid (show lq t=0 by
   rw[nr.out,if_neg];rw[an1];rintro⟨x,hx,h2⟩;obtain⟨k,hk⟩:=List.mem_iff_getElem?.1 hx;have:=HJ.out k x (anx.1 hk).1 hk;simp at h2;omega)
  go_wp2_with fail;go_ret;rw[HZ.out];exact⟨rfl,HA.out.trans (E.mono HA.out.size)⟩
 have z:(r != 0)=true:=by simpa using h0
 have HZ:=hid (show lq t=r by rw[nr.out,if_pos h0]);clear h0;go_wp2_with fail;go_ret;rw[HZ.out];exact⟨rfl,HA.out.trans (E.mono HA.out.size)⟩
theorem Zr{os:Array Obj}(d:Array (List UInt8)):Step w (grow (putRow encStr (aqq w n) g 0 d) os) (some ⟨g,0,none⟩) (some ⟨g,0,none⟩):=
 ⟨grownBy_sorted d,.inl rfl⟩
theorem akE(l:List Tx)(w:World)(B:Nat)(a:Option Addr)(c:Nat)(h:eP w B a l.length c l)(hl:l.length<=1000000):
 Calls prog 145 #[.slice a l.length c] w fun e w'=>e= .returned (.tuple #[])/\eP w' B a (nS l).length c (nS l)/\Step w w' a a:=by
 have hlen:(nS l).length=l.length:=aqp l;rcases h.2 with⟨h2,h0⟩|⟨g,cap,cur,hv,hg,hh,hn,hc,hs,hx⟩
 ·simp only[aqo]at h2
  obtain⟨rfl,-, rfl⟩:=h2;have hz:l=[]:=ane h0;subst hz;refine(Any.slices_Sort_string_none Tryz.VD none 0 w).mono fun e w' ⟨he,hw⟩=>?_
  subst hw;exact⟨he,by rw[show nS []=[]from ane hlen];exact h,Step.refl _ _⟩
 cases hv
 have hH:Holds encStr w g 0 l.toArray:=holds_of_block hh (by rw[Nat.mul_one]at hx;exact hx);refine(Any.slices_Sort_string Tryz.VD g 0 c l w hH (aqn.1 hh).1 (by omega)).mono fun e w' ⟨he,n,os,hw⟩=>?_
 subst hw;refine⟨he,?_,Zr _⟩;have:=ownsRow_sorted (n:=n) (os:=os) (ss:=l) (ts:=nS l) hlen hg hh hn hc hs;rw[hlen];exact this
theorem abl(l:List Tx)(w:World)(B:Nat)(a:Option Addr)(c:Nat)(h:eP w B a l.length c l)(hl:l.length<=1000000):
 Calls prog 146 #[.slice a l.length c] w fun e w'=>e= .returned (.slice a (cZ l).length c)/\eP w' B a (cZ l).length c (cZ l)/\Step w w' a a:=by
 rcases h.2 with⟨h2,h0⟩|⟨g,cap,cur,hv,hg,hh,hn,hc,hs,hx⟩
 ·simp only[aqo]at h2
  obtain⟨rfl,-, rfl⟩:=h2;have hz:l=[]:=ane h0;subst hz;refine(Any.slices_Compact_string_empty Tryz.VE none 0 w).mono fun e w' ⟨he,hw⟩=>?_
  subst hw;exact⟨he,h,Step.refl _ _⟩
 cases hv
 have hH:Holds encStr w g 0 l.toArray:=holds_of_block hh (by rw[Nat.mul_one]at hx;exact hx);refine(Any.slices_Compact_string Tryz.VE g 0 c l w hH (by omega) hn).mono fun e w' ⟨he,n,hw⟩=>?_
 rw[abn]at he hw;have hle:=Rv l;have e1:(cZ l++aop (l.length-(cZ l).length) []).length=l.length:=ah;have o:=ownsRow_sorted (n:=n) (os:=#[]) (ss:=l) (ts:=cZ l++aop (l.length-(cZ l).length) []) e1 hg hh hn hc hs;have st:=Zr (w:=w) (g:=g) (n:=n) (os:=#[]) (cZ l++aop (l.length-(cZ l).length) []).toArray;rw[grow_empty]at o st;rw[<-hw]at o st;refine⟨he,?_,st⟩;rw[ao3]at o;obtain⟨m,hm⟩: ∃m,l.length=(cZ l).length+m:=⟨l.length-(cZ l).length,by omega⟩;rw[hm]at o;exact Own.front o (by simp)
theorem SM(t:aG)(w:World)(h:fW w t.node):Calls prog 72 #[vT t] w (Ez w (lu t)):=by
 have A:=al w (cq t);have b0:=fF.new w t;obtain⟨c0,c1,c2,c3,c4,c5,c6,c7,c8,c9,c10,c11⟩:=b0.cells;have TH:=hid (ack t.q t.node _ (h.keep A));have HA:=hid A;clear A h;go_in;go_wp2_with fail;refine TH.out.mono ?_;rintro e w1 ⟨a,c,rfl,o,E⟩;have HO:=hid (anY o E);clear o E TH c0 c1 c2 c3 c4 c5 c6 c7 c8 c9 c10 c11;go_wp2_with fail
 (try go_simp)
 go_ret;exact⟨a,c,rfl,Own.mono HO.out.1 HA.out.size,HA.out.trans (HO.out.2.mono HA.out.size)⟩
end Go.Proofs.YtkbbgjloifmmbaaGreatDoor
