/-
  Laws on walking, and the functions walked, each once: what this claim comes to.
-/
import Derived.Test.YtpgldfafbpkofaaGreatZQ1
set_option linter.unusedVariables false
set_option linter.unusedSimpArgs false
set_option maxHeartbeats 8000000
open Array renaming getElem?_eq_some_iff->ø,getElem?_toList->Ş,length_toList->Ĩ
open Bool renaming false->â,not_and->ř,not_eq_false'->Ú,or_assoc->ĸ,true->ã,true_and->Þ
open Decidable renaming em->Ē
open Go renaming Addr->ô,Oper->ą,Operand->Â,Program->Æ,TypeId->ì,Value->è,World->ä,execOp->À,maxLen->Ë,run_underlying->þ
open Go.Instr renaming findNow->ň,mapUpdate->D?
open Go.Lib renaming compareBytes->Ė
open Go.MapKept renaming run_checkKey->E?,run_findKey->U?,run_getObj_map->Ĺ,run_setObj_map->g?
open Go.Proofs.Tryz renaming func26->Ĥ,func57->Ĳ,prog->ê,underlying0->L?,underlying111->Ŵ,underlying133->ŵ,underlying136->Ŷ,underlying148->ŷ,underlying182->Ÿ,underlying2->M?,underlying205->Ź,underlying207->ź,underlying208->Ż,underlying212->ż,underlying215->Ž,underlying217->ž,underlying22->k?,underlying227->ſ,underlying231->a?,underlying237->b?,underlying238->c?,underlying25->l?,underlying27->m?,underlying28->n?,underlying29->o?,underlying3->N?,underlying31->p?,underlying33->q?,underlying4->O?,underlying5->P?,underlying53->r?,underlying54->s?,underlying57->t?,underlying76->u?,underlying87->v?,underlying9->Q?,underlying90->w?,underlying92->x?,underlying93->y?
open Go.Value renaming int->é
open Inhabited renaming default->à
open List renaming all_eq_true->û,any_cons->Ū,any_eq_false->ē,any_eq_true->ī,append_assoc->Î,append_nil->Į,cons_append->R?,drop_zero->ě,eq_nil_of_length_eq_zero->í,ext_getElem?->ĉ,filter_eq_nil_iff->ċ,find?_some->T?,flatMap_cons->Œ,flatten_append->ŧ,getD_eq_getElem?_getD->ï,getElem?_drop->Ñ,getElem?_eq_getElem->Ã,getElem?_eq_none->Í,getElem?_eq_some_iff->ñ,getElem?_map->A?,getElem?_set_self->ÿ,getElem_drop->Ĵ,getElem_of_mem->ð,map_append->Û,map_cons->Ï,mem_append_left->Ó,mem_cons_of_mem->Đ,mem_cons_self->ď,mem_filter->Ģ,mem_map_of_mem->Ũ,mem_of_find?_eq_some->ņ,mem_of_getElem?->æ,nodup_cons->ù,range->õ,range_succ->č,replicate->å,set_set->Ò,size_toArray->ĵ,take_add_one->ĥ,take_length->ö,take_of_length_le->Ĕ
open Nat renaming beq->î,blt->ò,le_succ->S?,zero_le->ý
open Option renaming none->ç,some->á
open Prod renaming snd->Ł
open UInt8 renaming not_lt->Ű,xor_assoc->Ö
namespace Go.Wk
open Rp (sz own)
variable {z:Wld}{M:Nat->Prop}{E I:List (List UInt8)}{k i a j V H:Nat}{C:List View}{J F:List Rsc}{row q:Int}{N O:ä}{Q:Post}{P:Æ}{S U l A l2:List Ac}{T:Array ą}{f:Nat->UInt8}{X:Array Edge}{b:Block}{L:Env}{Y:ì}{s:Bool}{p:String}{c:UInt8}{y:Int × Int × Int}{R:è->ä->Prop}{ft:List Nat}{o:ą}
section
variable {d:Type}
theorem Cl{l:List d}{b:Nat}(h:b<=a):seg l a b=[]:=by
  unfold seg;apply í;rw[bZ,aY];omega
end
section
variable {d:Type}[Inhabited d] {l l2 ws:List d}{b:Nat}
theorem mQ{x y:List d}{a b:Nat}(H:b<=x.length)(c:b<=y.length)(h:∀j,a<=j->j<b->x.getD j à=y.getD j à):seg x a b=seg y a b:=
  js (by rw[iX H,iX c]) λj e=>by
    rw[iX H] at e
    rw[kQ ω,kQ ω]
    exact h _ ω ω
theorem qg{l:List d}{a:Nat}(h:a<l.length):seg l a (a+1)=[l.getD a à]:=by
  apply js
  · rw[iX ω];simp
  · intro j H
    rw[iX ω] at H
    obtain rfl:j=0:=by omega
    rw[kQ ω];rfl
theorem mz{l:List d}{a b:Nat}{x:d}(H:b<=l.length)(h:x∈seg l a b):∃j,a<=j/\j<b/\l.getD j à=x:=by
  obtain⟨j,c,e⟩:=ð h
  rw[iX H] at c
  refine⟨a+j,ω,ω,?_⟩
  rw[<- kQ (b:=b) ω,bX (by rw[iX H];omega)];exact e
theorem Hi{l:List d}{a b j:Nat}(H:b<=l.length)(h:a<=j)(c:j<b):l.getD j à∈seg l a b:=by
  have e:=kQ (l:=l) (a:=a) (b:=b) (j:=j-a) ω
  rw[show a+(j-a)=j by omega] at e
  rw[<- e,bX (by rw[iX H];omega)]
  exact bx _
end
section
variable {b:Nat}
def SortSeg (w l:List Ac) (a b:Nat):Prop:=l.length=w.length/\(∀q,q<a\/b<=q->l.getD q à=w.getD q à)/\Stable kLt gD (seg w a b) (seg l a b)
def InsInv (w l:List Ac) (a i j:Nat):Prop:=a<=j/\j<=i/\l.length=w.length/\(∀q,q<a\/i+1<=q->l.getD q à=w.getD q à)/\Stable kLt gD (seg w a i) (seg l a j++seg l (j+1) (i+1)) /\
  l.getD j à=w.getD i à/\∀q,j<q->q<=i->kLt (gD (w.getD i à)) (gD (l.getD q à))
theorem J7(h:a+1<=A.length):SortSeg A A a (a+1):=
  ⟨rfl,λ_ _=>rfl,by rw[qg ω];exact .cons σ .nil,.refl⟩
theorem FL(h:b<=a):SortSeg A A a b:=⟨rfl,λ_ _=>rfl,by rw[Cl h];exact .nil,.refl⟩
theorem Fw(h:SortSeg A l a i)(H:a<=i):InsInv A l a i i:=by
  obtain⟨E,e,b⟩:=h
  refine⟨H,aN _,E,λq f=>e q ω,?_,e i ω,λq c d=>by omega⟩
  rw[Cl (aN (i+1)),Į];exact b
theorem DK(h:InsInv A l a i j)(v:a<j)(w:i<A.length)(o:cfR (l.getD j à).r (l.getD (j-1) à).r<0):
    InsInv A ((l.set j (l.getD (j-1) à)).set (j-1) (l.getD j à)) a i (j-1):=by
  obtain⟨t,u,g,k,m,E,n⟩:=h
  have H:∀q,((l.set j _).set (j-1) _).getD q à=if q=j-1 then l.getD j à else if q=j then l.getD (j-1) à else l.getD q default:=λq=>by
    rw[d8,d8,bE]
    by_cases C:q=j-1
    · rw[ae ⟨C,ω⟩,ae C]
    · rw[ac (λh=>C h.1),ac C]
      by_cases d:q=j
      · rw[ae ⟨d,ω⟩,ae d]
      · rw[ac (λh=>d h.1),ac d]
  have p:((l.set j (l.getD (j-1) à)).set (j-1) (l.getD j à)).length=A.length:=by rw[bE,bE];exact g
  refine⟨ω,ω,p,λq r=>?_,?_,?_,λq f e=>?_⟩
  · rw[H,ac ω,ac ω];exact k q r
  · have s:seg ((l.set j (l.getD (j-1) à)).set (j-1) (l.getD j à)) a (j-1)=seg l a (j-1):=mQ ω ω λq f e=>by rw[H,ac ω,ac ω]
    have S:seg ((l.set j (l.getD (j-1) à)).set (j-1) (l.getD j à)) (j-1+1) (i+1)=seg l (j-1) j++seg l (j+1) (i+1):=by
      rw[show j-1+1=j by omega,<- fP (b:=j+1) ω ω,qg ω]
      congr 1
      · have:=qg (l:=l) (a:=j-1) ω
        rw[show j-1+1=j by omega] at this
        rw[this,H,ac ω,ae rfl]
      · exact mQ ω ω λq f e=>by rw[H,ac ω,ac ω]
    rw[s,S,<- Î,fP ω ω];exact m
  · rw[H,ae rfl];exact E
  · rw[H,ac ω]
    by_cases c:q=j
    · rw[ae c]
      have:=(ww).1 o
      rw[E] at this;exact this
    · rw[ac c];exact n q ω e
theorem Gr(h:InsInv A l a i j)(v:i<A.length)(H:j=a\/¬ cfR (l.getD j à).r (l.getD (j-1) à).r<0):SortSeg A l a (i+1):=by
  obtain⟨r,u,g,k,e,E,m⟩:=h
  refine⟨g,k,?_⟩
  have s:seg l a (i+1)=seg l a j++l.getD j à::seg l (j+1) (i+1):=by
    rw[<- fP ω ω,<- fP (b:=j+1) (c:=i+1) ω ω,qg ω];rfl
  have S:seg A a (i+1)=seg A a i++[A.getD i à]:=by rw[<- fP (b:=i) ω ω,qg ω]
  rw[s,S,E]
  refine lf su e (λy d=>?_) λy d=>?_
  · obtain⟨q,f,n,rfl⟩:=mz ω d
    exact m q ω ω
  · obtain⟨q,f,n,rfl⟩:=mz ω d
    rcases H with H|H
    · omega
    · rw[ww,E] at H
      by_cases c:q=j-1
      · rw[c];exact H
      · have p:Ord kLt gD (seg l a (j-1)++seg l (j-1) j):=by rw[fP ω ω];exact e.1.left
        have o:=p.le _ (Hi ω f ω) _ (Hi (j:=j-1) ω ω ω)
        intro t
        rcases su.tot _ _ with C|C|C
        · exact H (su.tr _ _ _ t C)
        · rw[C] at t;exact H t
        · exact o C
def InsO (w l:List Ac) (a b i:Nat):Prop:=(b<=a/\l=w)\/(a<b/\i<=b/\SortSeg w l a i)
theorem JV(h:b<=A.length):InsO A A a b (a+1):=by
  by_cases c:b<=a
  · exact .inl ⟨c,rfl⟩
  · exact .inr ⟨ω,ω,J7 ω⟩
theorem Pp(h:InsO A l a b i)(H:a<i)(c:i<b):SortSeg A l a i:=by
  rcases h with ⟨h,_⟩|⟨_,_,h⟩
  · omega
  · exact h
theorem FJ(h:SortSeg A l a (i+1))(H:a<i)(c:i<b):InsO A l a b (i+1) := .inr ⟨ω,ω,h⟩
theorem OG(h:InsO A l a b i)(c:¬ i<b):SortSeg A l a b:=by
  rcases h with ⟨h,e⟩|⟨_,H,h⟩
  · rw[e];exact FL h
  · rwa[show b=i by omega]
end
def kAt (l:List Ac) (q:Nat):Int × Int × Int:=gD (l.getD q à)
section
variable {l3:List Ac}{b m s r p h e:Nat}
theorem kU(o:Ord kLt gD (seg A a b))(e:b<=A.length){x y:Nat}(h:a<=x)(H:x<y)(c:y<b):¬ kLt (kAt A y) (kAt A x):=by
  have d:Ord kLt gD (seg A a y++seg A y b):=by rw[fP ω ω];exact o
  exact d.le _ (Hi ω h H) _ (Hi e (aN _) c)
theorem Uf(d:b<=A.length)(e:∀x y,a<=x->x<y->y<b->¬ kLt (kAt A y) (kAt A x)):Ord kLt gD (seg A a b):=by
  have k:∀n,∀a,b-a<=n->(∀x y,a<=x->x<y->y<b->¬ kLt (kAt A y) (kAt A x))->Ord kLt gD (seg A a b):=by
    intro n
    induction n with
    | zero=>intro a H _;rw[Cl ω];exact .nil
    | succ n i=>
      intro a H h
      by_cases c:a<b
      · rw[<- fP (b:=a+1) ω ω,qg ω]
        refine .cons (λy f=>?_) (i (a+1) ω λx y g Q j=>h x y ω Q j)
        obtain⟨q,g,Q,rfl⟩:=mz d f
        exact h a q (aN _) ω Q
      · rw[Cl ω];exact .nil
  exact k _ a (aN _) e
theorem vf(H:Ord kLt gD (seg A a b))(h:b<=A.length){x y:Nat}(c:a<=x)(d:y<=b):Ord kLt gD (seg A x y):=
  Uf ω λp q e Q f=>kU H h ω Q ω
theorem NQ{x z:Int × Int × Int}(a:¬ kLt y x)(h:¬ kLt z y):¬ kLt z x:=λH=>by
  rcases su.tot x y with c|c|c
  · exact h (su.tr _ _ _ H c)
  · rw[<- c] at h;exact h H
  · exact a c
theorem xP{x z:Int × Int × Int}(h:kLt x y)(H:¬ kLt z y):kLt x z:=by
  rcases su.tot y z with c|c|c
  · exact su.tr _ _ _ h c
  · rw[<- c];exact h
  · exact absurd c H
theorem Gg{x z:Int × Int × Int}(H:¬ kLt y x)(h:kLt y z):kLt x z:=by
  rcases su.tot x y with c|c|c
  · exact su.tr _ _ _ c h
  · rw[c];exact h
  · exact absurd c H
def LoInv (w:List Ac) (a m b i j:Nat):Prop:=m<=i/\i<=j/\j<=b/\(∀q,m<=q->q<i->kLt (kAt w q) (kAt w a))/\∀q,j<=q->q<b->¬ kLt (kAt w q) (kAt w a)
theorem PV(h:m<=b):LoInv A a m b m b:=⟨aN _,h,aN _,λq H c=>by omega,λq H c=>by omega⟩
theorem Tx(I:LoInv A a m b i j)(d:b<=A.length)(o:Ord kLt gD (seg A m b))(n:i<=h)(p:h<j)(f:cfR (A.getD h à).r (A.getD a à).r<0):LoInv A a m b (h+1) j:=by
  obtain⟨g,k,e,l,E⟩:=I
  have H:kLt _ _:=ww.1 f
  refine⟨ω,ω,e,λq Q r=>?_,E⟩
  by_cases c:q=h
  · rw[c];exact H
  · exact Gg (kU o d Q ω ω) H
theorem U2(I:LoInv A a m b i j)(f:b<=A.length)(o:Ord kLt gD (seg A m b))(d:i<=h)(p:h<j)(g:¬ cfR (A.getD h à).r (A.getD a à).r<0):LoInv A a m b i h:=by
  obtain⟨e,k,l,E,n⟩:=I
  have H:¬ kLt _ _:=λx=>g (ww.2 x)
  refine⟨e,d,ω,E,λq r Q=>?_⟩
  by_cases c:q=h
  · rw[c];exact H
  · exact NQ H (kU o f ω ω Q)
def UpInv (w l:List Ac) (a k:Nat):Prop:=a<=k/\k<w.length/\l.length=w.length/\(∀q,q<a\/k<q->l.getD q à=w.getD q à)/\(∀q,a<=q->q<k->l.getD q à=w.getD (q+1) à)/\l.getD k à=w.getD a à
theorem Oe(h:a<A.length):UpInv A A a a:=⟨aN _,h,rfl,λ_ _=>rfl,λq H b=>by omega,rfl⟩
theorem Ls(I:UpInv A l a k)(g:k+1<A.length):UpInv A ((l.set k (l.getD (k+1) à)).set (k+1) (l.getD k à)) a (k+1):=by
  obtain⟨i,j,E,e,d,f⟩:=I
  have H:∀q,((l.set k _).set (k+1) _).getD q à=if q=k+1 then l.getD k à else if q=k then l.getD (k+1) à else l.getD q default:=λq=>by
    rw[d8,d8,bE]
    by_cases C:q=k+1
    · rw[ae ⟨C,ω⟩,ae C]
    · rw[ac (λh=>C h.1),ac C]
      by_cases b:q=k
      · rw[ae ⟨b,ω⟩,ae b]
      · rw[ac (λh=>b h.1),ac b]
  refine⟨ω,g,by rw[bE,bE];exact E,λq m=>?_,λq Q n=>?_,by rw[H,ae rfl];exact f⟩
  · rw[H,ac ω,ac ω];exact e q ω
  · rw[H,ac ω]
    by_cases c:q=k
    · rw[ae c,c];exact e _ ω
    · rw[ac c];exact d q Q ω
theorem TR(I:UpInv A l a k)(L:LoInv A a (a+1) b (k+1) (k+1))(H:b<=A.length)(o:Ord kLt gD (seg A (a+1) b)):SortSeg A l a b:=by
  obtain⟨C,D,m,g,n,p⟩:=I
  obtain⟨G,J,t,F,u⟩:=L
  have S:seg l a k=seg A (a+1) (k+1):=js (d:=à) Gb λq j=>by
    rw[iX ω] at j
    rw[kQ ω,kQ ω,n _ ω ω]
    congr 1;omega
  have z:seg l (k+1) b=seg A (k+1) b:=mQ ω H λq Q e=>g q ω
  have s:seg l a b=seg A (a+1) (k+1)++A.getD a à::seg A (k+1) b:=by
    rw[<- fP (b:=k) ω ω,<- fP (l:=l) (a:=k) (b:=k+1) (c:=b) ω ω,qg ω,S,z,p];rfl
  have B:seg A a b=[A.getD a à]++(seg A (a+1) (k+1)++seg A (k+1) b):=by
    rw[fP ω ω,<- fP (l:=A) (a:=a) (b:=a+1) (c:=b) ω ω,qg ω]
  refine⟨m,λq j=>g q ω,?_,?_⟩
  · rw[s]
    refine(vf o H (aN _) t).app (.cons (λy h=>?_) (vf o H ω (aN _))) λx f y h=>?_
    · obtain⟨q,Q,e,rfl⟩:=mz H h
      exact u q Q e
    · obtain⟨q,Q,e,rfl⟩:=mz ω f
      rcases aM.1 h with rfl|h
      · exact λv=>su.irr _ (su.tr _ _ _ v (F q Q e))
      · obtain⟨K,M,w,rfl⟩:=mz H h
        exact kU o H Q ω w
  · rw[s,B]
    have:fw gD _ (seg A (a+1) (k+1)++[A.getD a à]):=fw.swap λx f y h r=>by
      rw[aD] at f
      subst f
      obtain⟨q,Q,e,rfl⟩:=mz ω h
      have:=F q Q e
      unfold kAt at this
      rw[r] at this
      exact su.irr _ this
    have i:=this.app (fw.refl (xs:=seg A (k+1) b))
    rw[Î,Î] at i
    exact i
def HiInv (w:List Ac) (a m i j:Nat):Prop:=a<=i/\i<=j/\j<=m/\(∀q,a<=q->q<i->¬ kLt (kAt w m) (kAt w q))/\∀q,j<=q->q<m->kLt (kAt w m) (kAt w q)
theorem QF(h:a<=m):HiInv A a m a m:=⟨aN _,h,aN _,λq H b=>by omega,λq H b=>by omega⟩
theorem TQ(I:HiInv A a m i j)(b:m<=A.length)(o:Ord kLt gD (seg A a m))(l:i<=h)(n:h<j)(d:¬ cfR (A.getD m à).r (A.getD h à).r<0):HiInv A a m (h+1) j:=by
  obtain⟨f,g,e,k,E⟩:=I
  have H:¬ kLt _ _:=λx=>d (ww.2 x)
  refine⟨ω,ω,e,λq Q p=>?_,E⟩
  by_cases c:q=h
  · rw[c];exact H
  · exact NQ (kU o b Q (show q<h by omega) ω) H
theorem UN(I:HiInv A a m i j)(d:m<=A.length)(o:Ord kLt gD (seg A a m))(b:i<=h)(n:h<j)(f:cfR (A.getD m à).r (A.getD h à).r<0):HiInv A a m i h:=by
  obtain⟨e,g,k,E,l⟩:=I
  have H:kLt _ _:=ww.1 f
  refine⟨e,b,ω,E,λq p Q=>?_⟩
  by_cases c:q=h
  · rw[c];exact H
  · exact xP H (kU o d ω (show h<q by omega) Q)
def DnInv (w l:List Ac) (a m i k:Nat):Prop:=i<=k/\InsInv w l a m k/\∀q,q<k->l.getD q à=w.getD q à
theorem Pv(h:HiInv A a m i i)(H:Ord kLt gD (seg A a m)):DnInv A A a m i m:=
  ⟨h.2.2.1,Fw ⟨rfl,λ_ _=>rfl,H,.refl⟩ (by have:=h.1;have:=h.2.2.1;omega),λ_ _=>rfl⟩
theorem Mf(I:DnInv A l a m i k)(h:HiInv A a m i i)(d:i<k)(H:m<A.length):DnInv A ((l.set k (l.getD (k-1) à)).set (k-1) (l.getD k à)) a m i (k-1):=by
  obtain⟨b,e,E⟩:=I
  have g:=e.2.1
  have f:=h.1
  have c:cfR (l.getD k à).r (l.getD (k-1) à).r<0:=by
    rw[ww,e.2.2.2.2.2.1,E (k-1) ω]
    exact h.2.2.2.2 (k-1) ω ω
  refine⟨ω,DK e ω H c,λq j=>?_⟩
  rw[d8,d8,ac ω,ac ω]
  exact E q ω
theorem T4(I:DnInv A l a m i i)(b:HiInv A a m i i)(H:m<A.length):SortSeg A l a (m+1):=by
  obtain⟨d,e,E⟩:=I
  refine Gr e H ?_
  by_cases c:i=a
  · exact .inl c
  · refine .inr λh=>?_
    have f:=e.1
    rw[ww,e.2.2.2.2.2.1,E (i-1) ω] at h
    exact b.2.2.2.1 (i-1) ω ω h
end
section
variable {t:List Ac}{b m s r p n g h e:Nat}
theorem rG(h:Ord kLt gD (seg A a b)):SortSeg A A a b:=⟨rfl,λ_ _=>rfl,h,.refl⟩
def MidInv (w:List Ac) (p S R s r:Nat):Prop:=S<=s/\s<=r/\r<=R/\(∀c,S<=c->c<s->¬ kLt (kAt w (p-c)) (kAt w c))/\∀c,r<=c->c<R->kLt (kAt w (p-c)) (kAt w c)
theorem N2(h:n<=g):MidInv A p n g n g:=⟨aN _,h,aN _,λq H a=>by omega,λq H a=>by omega⟩
def MidOK (w:List Ac) (a m b p s r:Nat):Prop:=a<=s/\r<=m/\m+r<=p+1/\p<b+s/\b<=w.length/\Ord kLt gD (seg w a m)/\Ord kLt gD (seg w m b)/\m<=b
theorem ST(I:MidInv A p n g s r)(k:MidOK A a m b p n g)(q:s<=h)(t:h<r)(d:¬ cfR (A.getD (p-h) à).r (A.getD h à).r<0):MidInv A p n g (h+1) r:=by
  obtain⟨j,l,e,o,E⟩:=I
  obtain⟨u,v,w,y,K,f,i,z⟩:=k
  have H:¬ kLt _ _:=λx=>d (ww.2 x)
  refine⟨ω,ω,e,λc Q B=>?_,E⟩
  by_cases C:c=h
  · rw[C];exact H
  · exact NQ (kU f ω ω (show c<h by omega) ω) (NQ H (kU i K ω (show p-h<p-c by omega) ω))
theorem TA(I:MidInv A p n g s r)(k:MidOK A a m b p n g)(d:s<=h)(t:h<r)(f:cfR (A.getD (p-h) à).r (A.getD h à).r<0):MidInv A p n g s h:=by
  obtain⟨e,l,o,E,q⟩:=I
  obtain⟨u,v,w,x,K,i,j,y⟩:=k
  have H:kLt _ _:=ww.1 f
  refine⟨e,d,ω,E,λc Q z=>?_⟩
  by_cases C:c=h
  · rw[C];exact H
  · exact Gg (kU j K ω (show p-c<p-h by omega) ω) (xP H (kU i ω ω (show h<c by omega) ω))
def SymL (w l:List Ac) (a s m e b:Nat):Prop:=l.length=w.length/\(∀q,q<a\/b<=q->l.getD q à=w.getD q à)/\fw gD (seg w a b) (seg l a b) /\
  (∀x,a<=x->x<m->∀y,m<=y->y<b->¬ kLt (kAt l y) (kAt l x))/\Ord kLt gD (seg l a s)/\Ord kLt gD (seg l s m)/\Ord kLt gD (seg l m e)/\Ord kLt gD (seg l e b)
theorem IJ(W:MidInv A p n g s s)(X:MidOK A a m b p n g)(G:n=a\/p+1=b+n)(B:g=m\/p+1=m+g)(e_:H+m=p+1)(he:e+s=p+1):SymL A (kT A s m e) a s H e b:=by
  obtain⟨e1,e2,e3,T,U⟩:=W
  obtain⟨k1,k2,k3,k4,k,K,o,k8⟩:=X
  have u:s<=m:=by omega
  have j:m<=e:=by omega
  have J:e<=b:=by omega
  have d_:H=s+(e-m):=by omega
  have Y:=oU (l:=A) u j ω
  have f:∀q,(kT A s m e).getD q à=A.getD (if q<s then q else if q<H then m+(q-s) else if q<e then s+(q-H) else q) default:=λq=>by
    rw[tF u j ω]
    congr 1
    (repeat' split)<;>omega
  have M:∀q,kAt (kT A s m e) q=kAt A (if q<s then q else if q<H then m+(q-s) else if q<e then s+(q-H) else q):=λq=>congrArg gD (f q)
  have hx:∀x,a<=x->x<s->∀y,e<=y->y<b->¬ kLt (kAt A y) (kAt A x):=λx D E y F I=>by
    by_cases c:n<s
    · have h:=T (s-1) ω ω
      rw[show p-(s-1)=e by omega] at h
      have i:¬ kLt (kAt A e) (kAt A x):=by
        by_cases C:x=s-1
        · rw[C];exact h
        · exact NQ (kU K ω D (show x<s-1 by omega) ω) h
      by_cases z:y=e
      · rw[z];exact i
      · exact NQ i (kU o k j (show e<y by omega) I)
    · rcases G with G|G<;>omega
  have L:∀x,s<=x->x<m->∀y,m<=y->y<e->kLt (kAt A y) (kAt A x):=λx D E y F I=>by
    by_cases c:s<g
    · have h:=U s (aN _) c
      have i:kLt (kAt A y) (kAt A s):=by
        by_cases C:y=p-s
        · rw[C];exact h
        · exact Gg (kU o k F (show y<p-s by omega) ω) h
      by_cases z:x=s
      · rw[z];exact i
      · exact xP i (kU K ω ω (show s<x by omega) E)
    · rcases B with B|B<;>omega
  have S:seg (kT A s m e) a s=seg A a s:=mQ ω ω λq Q r=>by rw[f,ae ω]
  have O:seg (kT A s m e) s H=seg A m e:=js (d:=à) Gb λq t=>by
    rw[iX ω] at t
    rw[kQ ω,kQ ω,f,ac ω,ae ω];congr 1;omega
  have P:seg (kT A s m e) H e=seg A s m:=js (d:=à) Gb λq t=>by
    rw[iX ω] at t
    rw[kQ ω,kQ ω,f,ac ω,ac ω,ae ω];congr 1;omega
  have R:seg (kT A s m e) e b=seg A e b:=mQ ω ω λq Q r=>by rw[f,ac ω,ac ω,ac ω]
  refine⟨Y,λq t=>?_,?_,λx Q r y N v=>?_,?_,?_,?_,?_⟩
  · rw[f]
    by_cases c:q<s
    · rw[ae c]
    · rw[ac c,ac ω,ac ω]
  · have t1:seg (kT A s m e) a b=seg A a s++((seg A m e++seg A s m)++seg A e b):=by
      rw[<- fP (b:=s) ω ω,<- fP (l:=kT A s m e) (a:=s) (b:=e) (c:=b) ω ω,<- fP (l:=kT A s m e) (a:=s) (b:=H) (c:=e) ω ω,S,O,P,R]
    have t2:seg A a b=seg A a s++((seg A s m++seg A m e)++seg A e b):=by
      rw[fP (a:=s) u j,fP ω J,fP ω ω]
    rw[t1,t2]
    refine fw.refl.app ((fw.swap λx b_ y c_ V=>?_).app .refl)
    obtain⟨q,Q,r,rfl⟩:=mz ω b_
    obtain⟨q',N,v,rfl⟩:=mz ω c_
    have:=L q Q r q' N v
    unfold kAt at this
    rw[V] at this
    exact su.irr _ this
  · rw[M,M,ac (show ¬ y<s by omega),ac (show ¬ y<H by omega)]
    by_cases w:x<s
    · rw[ae w]
      by_cases C:y<e
      · rw[ae C];exact kU K ω Q ω ω
      · rw[ac C];exact hx x Q w y ω v
    · rw[ac w,ae r]
      by_cases C:y<e
      · rw[ae C]
        exact λa_=>su.irr _ (su.tr _ _ _ a_ (L _ ω ω _ ω ω))
      · rw[ac C];exact kU o k ω ω v
  · rw[S];exact vf K ω (aN _) u
  · rw[O];exact vf o k (aN _) J
  · rw[P];exact vf K ω ω (aN _)
  · rw[R];exact vf o k j (aN _)
theorem Ic(h:s=m\/e=m)(b:s<=m)(a:m<=e)(H:e<=A.length):kT A s m e=A:=
  yA (oU b a H) λj=>by
    rw[tF b a H]
    congr 1
    (repeat' split)<;>omega
theorem Ec(S:SymL A l a s H e b)(n:SortSeg l l2 a H)(o:SortSeg l2 t H b)(h:a<=H)(m:H<=b)(J:b<=A.length):SortSeg A t a b:=by
  obtain⟨C,E,d,i,_⟩:=S
  obtain⟨D,f,j,F⟩:=n
  obtain⟨I,G,k,g⟩:=o
  have T:seg t a H=seg l2 a H:=mQ ω ω λq Q c=>G q ω
  have B:seg l2 H b=seg l H b:=mQ ω ω λq Q c=>f q ω
  rw[B] at g
  refine⟨ω,λq p=>by rw[G q ω,f q ω,E q p],?_,?_⟩
  · rw[<- fP (b:=H) h m,T]
    refine j.app k λx r y u=>?_
    obtain⟨q,Q,c,rfl⟩:=mz (l:=l) ω (F.mem r)
    obtain⟨v,w,z,rfl⟩:=mz (l:=l) ω (g.mem u)
    exact i q Q c v w z
  · refine d.trans ?_
    rw[<- fP (l:=l) (b:=H) h m,<- fP (l:=t) (b:=H) h m,T]
    exact F.app g
end
theorem Cy{x y:Nat}(h:SortSeg l l2 a H)(c:H<=x)(b:y<=l.length):seg l2 x y=seg l x y:=
  mQ (by have:=h.1;omega) b λq Q _=>h.2.1 q ω
section
variable {n:Nat}{w:ä}{d:Option Tmp}{g:Option (Nat × Bool)}
theorem yi{xt t:ì}{x y:Â}{k K:IntKind}{m:Nat}(a:evL L x=á (.int k (m:Nat)))(b:evL L y=á (.int K 1))(H:k = .u64):Py P n L w ⟨d,.binOp .shr xt x y t,Y,p,X,g⟩ (.int k ((m / 2:Nat):Int)):=by
  subst H
  have h:=KK (P:=P) (n:=n) (w:=w) (d:=d) (B:=Y) (p:=p) (r:=X) (g:=g) (b:=xt) (G:=t) a b ω
  have e:(m:Int).fdiv (2^min (1:Int).toNat IntKind.u64.bits)=((m / 2:Nat):Int):=by
    show(m:Int).fdiv (2^1)=_
    rw[Int.fdiv_eq_ediv_of_nonneg _ ω]
    omega
  rw[e] at h
  exact h
end
section
variable {b d c e x y:Nat}
theorem Fh{l:List Ac}(h:SortSeg l S a b)(c:a<=b)(i:b<=l.length):fw gD l S:=by
  obtain⟨f,H,g⟩:=h
  have e:l=seg l 0 a++(seg l a b++seg l b l.length):=by
    rw[fP c i,fP (ý _) ω];unfold seg;rw[ö,ě]
  have d:S=seg l 0 a++(seg S a b++seg l b l.length):=by
    rw[mQ ω ω (λj _ q=>(H j (.inl q)).symm),mQ (aN _) ω (λj q _=>(H j (.inr q)).symm)]
    rw[fP c ω,fP (ý _) ω];unfold seg;rw[<- f,ö,ě]
  intro k
  have:=(fw.app (fw.refl (xs:=seg l 0 a)) (fw.app g.2 (fw.refl (xs:=seg l b l.length)))) k
  rw[d];conv=>rhs;rw[e]
  exact this
theorem MY{l:List Ac}(h:SortSeg l S a b)(c:y<=a\/b<=x)(H:y<=l.length):seg S x y=seg l x y:=
  mQ (by have:=h.1;omega) H λj q Q=>h.2.1 j ω
def OrdAt (l:List Ac) (b c:Nat):Prop:=Ord kLt gD (seg l c (min (c+b) l.length))
def Ai (w l:List Ac) (b a:Nat):Prop:=l.length=w.length/\fw gD w l/\b ∣ a/\a<=w.length/\∀c,b ∣ c->c<a->OrdAt l b c
def AllB (w l:List Ac) (b:Nat):Prop:=l.length=w.length/\fw gD w l/\∀c,b ∣ c->c<w.length->OrdAt l b c
theorem GH{b c a:Nat}(H:b ∣ c)(d:b ∣ a)(h:c<a):c+b<=a:=by
  obtain⟨x,rfl⟩:=H;obtain⟨y,rfl⟩:=d
  have:=Nat.lt_of_mul_lt_mul_left h
  calc b*x+b=b*(x+1):=by rw[Nat.mul_add,Nat.mul_one]
    _<=b*y:=Nat.mul_le_mul_left _ this
theorem OI:Ai A A d 0:=⟨rfl,.refl,Nat.dvd_zero _,ý _,λc _ h=>by omega⟩
theorem GE{l:List Ac}(H:SortSeg l S a b)(e:c+d<=a\/b<=c)(h:OrdAt l d c):OrdAt S d c:=by
  unfold OrdAt at h ⊢
  rw[H.1,MY H ω ω];exact h
theorem LO{l:List Ac}(I:Ai A l d a)(k:0<d)(h:a+d<=A.length)(H:SortSeg l S a (a+d)):Ai A S d (a+d):=by
  obtain⟨m,g,b,n,i⟩:=I
  have e:=H.1
  refine⟨ω,g.trans (Fh H ω ω),Nat.dvd_add b (Nat.dvd_refl _),h,λc q Q=>?_⟩
  by_cases f:c<a
  · exact GE H (.inl (GH q b f)) (i c q f)
  · have:c=a:=by
      by_cases j:c=a
      · exact j
      · have:=GH b q ω;omega
    subst this
    unfold OrdAt;rw[show min (c+d) S.length=c+d by omega];exact H.2.2.1
theorem Lr{l:List Ac}(I:Ai A l d a)(h:A.length<a+d)(H:SortSeg l S a A.length):AllB A S d:=by
  obtain⟨k,g,b,m,i⟩:=I
  have e:=H.1
  refine⟨ω,g.trans (Fh H ω ω),λc q Q=>?_⟩
  by_cases f:c<a
  · exact GE H (.inl (GH q b f)) (i c q f)
  · have:c=a:=by
      by_cases j:c=a
      · exact j
      · have:=GH b q ω;omega
    subst this
    unfold OrdAt;rw[show min (c+d) S.length=A.length by omega];exact H.2.2.1
def TwoB (w l:List Ac) (b a:Nat):Prop:=Ai w l (2*b) a/\∀c,b ∣ c->a<=c->c<w.length->OrdAt l b c
theorem MM(h:AllB A l d):TwoB A l d 0:=⟨⟨h.1,h.2.1,Nat.dvd_zero _,ý _,λc _ q=>by omega⟩,λc q _=>h.2.2 c q⟩
theorem CT{b c:Nat}(h:2*b ∣ c):b ∣ c:=Nat.dvd_trans (Nat.dvd_mul_left _ _) h
theorem Ta(h:TwoB A l d a)(b:a+d<=A.length)(H:0<d):Ord kLt gD (seg l a (a+d)):=by
  have:=h.2 a (CT h.1.2.2.1) (aN _) ω
  unfold OrdAt at this
  rwa[show min (a+d) l.length=a+d by have:=h.1.1;omega] at this
theorem S7(h:TwoB A l d a)(H:a+d<A.length)(b:e=min (a+d+d) A.length):Ord kLt gD (seg l (a+d) e):=by
  have:=h.2 (a+d) (Nat.dvd_add (CT h.1.2.2.1) (Nat.dvd_refl _)) ω H
  unfold OrdAt at this
  rw[h.1.1] at this
  rw[b];exact this
theorem Oq{l:List Ac}(H:TwoB A l d a)(e:0<d)(h:a+2*d<=A.length)(s:SortSeg l S a (a+2*d)):TwoB A S d (a+2*d):=
  ⟨LO H.1 ω h s,λc q Q b=>GE s (.inr Q) (H.2 c q ω b)⟩
theorem Hs{l:List Ac}(H:TwoB A l d a)(h:A.length<a+2*d)(s:SortSeg l S a A.length):AllB A S (2*d):=Lr H.1 h s
theorem PJ(H:TwoB A l d a)(c:0<d)(h:A.length<=a+d):AllB A l (2*d):=by
  have e:=H.1.1
  refine Hs H ω ?_
  by_cases b:a<A.length
  · have:=H.2 a (CT H.1.2.2.1) (aN _) b
    unfold OrdAt at this
    rw[show min (a+d) l.length=A.length by omega] at this
    exact rG this
  · exact FL ω
theorem Ri(h:AllB A l d)(c:A.length<=d)(H:0<A.length):SortSeg A l 0 A.length:=by
  have:=h.2.2 0 (Nat.dvd_zero _) H
  unfold OrdAt at this
  rw[show min (0+d) l.length=A.length by have:=h.1;omega] at this
  refine⟨h.1,λq f=>?_,this,?_⟩
  · have b:=h.1
    rw[ï,ï,Í ω,Í ω]
  · have e:∀(x:List Ac),x.length=A.length->seg x 0 A.length=x:=λx a=>by unfold seg;rw[<- a,ö,ě]
    rw[e l h.1,e A rfl];exact h.2.1
theorem Pe(h:SortSeg A l 0 A.length):Stable kLt gD A l:=by
  have e:∀(x:List Ac),x.length=A.length->seg x 0 A.length=x:=λx H=>by unfold seg;rw[<- H,ö,ě]
  have:=h.2.2;rw[e l h.1,e A rfl] at this;exact this
end
def RdV (w:ä) (F:List Nat) (V:List Ac):Prop:=∀v∈V,∃f,own â w v.cs v.r f/\∀b∈f,b∈F
section
variable {w:ä}{f:List Nat}{d:List Ac}
theorem RdV.to(h:RdV w ft d)(e:Ext No w O):RdV O ft d:=λv hv=>by
  obtain⟨f,H,a⟩:=h v hv
  exact⟨f,Rp.st H λb c=>e.block b (Rp.lt H b c) id,a⟩
theorem RdV.sub(h:RdV w ft d)(H:∀v∈U,v∈d):RdV w ft U:=λv hv=>h v (H v hv)
theorem RdV.wide(h:RdV w f d)(s:∀b∈f,b∈ft):RdV w ft d:=λv hv=>by
  obtain⟨f,H,a⟩:=h v hv
  exact⟨f,H,λb c=>s b (a b c)⟩
theorem RdV.nil:RdV w ft []:=λv hv=>by simp at hv
theorem RdV.app(h:RdV w ft d)(k:RdV w ft U):RdV w ft (d++U):=λv hv=>by
  rcases aI.1 hv with hv|hv
  · exact h v hv
  · exact k v hv
theorem RdV.at(h:RdV w ft d)(H:k<d.length):RdV w ft [d.getD k à]:=λv hv=>by
  rw[aD] at hv
  rw[hv,bX H]
  exact h _ (bx _)
theorem E9:∀ {d:List Ac}{c F},dg â w c d F->RdV w ft d->∃f,dg â w c (d.map Ac.r) f/\∀b∈f,b∈ft
  | [],_,_,h,_=>⟨[],rfl,σ⟩
  | v::d,c,F,⟨G,n,l,⟨E,m,o⟩,g⟩,r=>by
    obtain⟨a,k,K⟩:=r v σ
    obtain⟨e,R,j⟩:=E9 g (r.sub λx i=>by simp[i])
    refine⟨a++e,⟨a,e,rfl,?_,R⟩,λb H=>?_⟩
    · rw[show c.take (sz Rec)=v.cs from E];exact k
    · rcases aI.1 H with H|H
      · exact K b H
      · exact j b H
theorem JC{a n c}{F}(h:own s w [.slice a n c] d F)(u:RdV w ft d):∃f,own â w [.slice a n c] (d.map Ac.r) f/\∀b∈f,b∈F\/b∈ft:=by
  have el:(d.map Ac.r).length=d.length:=aS _
  rcases aJ h with ⟨z,A,C,e,rfl,rfl⟩|⟨e,rfl,rfl⟩|⟨b,o,i,r,T,j,y,h1,k,l,m,h5,p,q,t⟩
  · exact⟨[],.inl ⟨rfl,A,C,e,rfl,rfl⟩,σ⟩
  · exact⟨[],.inr (.inl ⟨e,rfl,rfl⟩),σ⟩
  · obtain⟨g,K,v⟩:=E9 t u
    refine⟨b::g,.inr (.inr ⟨b,o,i,r,T,j,g,Dn,rfl,l,m,zx,p,q,K⟩),λx H=>?_⟩
    rcases aM.1 H with rfl|H
    · rw[k];simp
    · exact .inr (v x H)
theorem RdV.Ae{v:Ac}(h:RdV w ft d)(hv:v∈d):v.r.Ok/\Ag w [.slice v.A6 v.r.Rows.length v.C6] v.r.Rows/\Ag w [.slice v.A7 v.r.Data.length v.C7] v.r.Data/\Ag w [.slice v.A8 v.r.Ad.length v.C8] v.r.Ad:=by
  obtain⟨f,H,_⟩:=h v hv
  obtain⟨F,b,c,_,k,o,O,a⟩:=me H
  exact⟨k,⟨_,o⟩,⟨_,O⟩,⟨_,a⟩⟩
end
theorem Sh{V:List Ac}(h:Ord kLt gD V):Ord kLt eQ (V.map Ac.r):=by
  induction h with
  | nil=>exact .nil
  | cons H b i=>exact .cons (λy a=>by obtain⟨v,hv,rfl⟩:=bY.1 a;exact H v hv) i
theorem Pq{v:List Ac}(h:fw gD v U):fw eQ (v.map Ac.r) (U.map Ac.r):=λk=>by
  rw[List.filter_map,List.filter_map]
  exact congrArg _ (h k)
theorem JW{v:List Ac}(h:Stable kLt gD v U):Stable kLt eQ (v.map Ac.r) (U.map Ac.r):=⟨Sh h.1,Pq h.2⟩
theorem SK{Y:List Rec}(x:Rec)(h:Ord kLt eQ Y):∃A B,Y=A++B/\(∀y∈B,kLt (eQ x) (eQ y))/\∀y∈A,¬ kLt (eQ x) (eQ y):=by
  induction h with
  | nil=>exact⟨[],[],rfl,σ,σ⟩
  | cons a f i=>
    rename_i y l
    by_cases c:kLt (eQ x) (eQ y)
    · refine⟨[],y::l,rfl,λz H=>?_,σ⟩
      rcases aM.1 H with rfl|H
      · exact c
      · exact xP c (a z H)
    · obtain⟨A,B,e,d,b⟩:=i
      refine⟨y::A,B,by rw[e];rfl,d,λz H=>?_⟩
      rcases aM.1 H with rfl|H
      · exact c
      · exact b z H
theorem Ju(X:List Rec)(x:Rec)(h:∃I,Stable kLt eQ X I):∃I,Stable kLt eQ (X++[x]) I:=by
  obtain⟨I,H⟩:=h
  obtain⟨A,B,rfl,b,a⟩:=SK x H.1
  exact⟨_,lf su H b a⟩
theorem vJ(x:List Rec):∃I,Stable kLt eQ x I:=by
  have:∀(n:Nat),∃I,Stable kLt eQ (x.take n) I:=λn=>by
    induction n with
    | zero=>exact⟨[],by simp;exact⟨.nil,.refl⟩⟩
    | succ n i=>
      by_cases h:n<x.length
      · rw[ĥ,Ã h];exact Ju _ _ i
      · rw[Ĕ ω] at i ⊢;exact i
  have:=this x.length
  rwa[ö] at this
noncomputable def UZ (x:List Rec):List Rec:=(vJ x).choose
theorem Gm{x y:List Rec}(h:Stable kLt eQ x y):y=UZ x:=wy su h (vJ x).choose_spec
noncomputable def ddR (o:List Rec) (r:Rec):List Rec:=if r∈o then o else o++[r]
noncomputable def allR (z:Wld) (k:Nat):List Rec:=((z.A3.take k).map Tape.Ah).flatten
noncomputable def dds (r:List Rec):List Rec:=r.foldl ddR []
noncomputable def cI (z:Wld):List Rec:=UZ (dds (allR z z.A3.length))
noncomputable def iG (z:Wld) (k j:Nat):List Rec:=dds (allR z k++(z.A3.getD k à).Ah.take j)
theorem xy:iG z 0 0=[]:=by simp[iG,allR,dds]
theorem nr(h:j<(z.A3.getD k à).Ah.length):iG z k (j+1)=ddR (iG z k j) ((z.A3.getD k à).Ah.getD j à):=by
  unfold iG dds
  rw[ĥ,Ã h,bX h,<- Î,List.foldl_append]
  rfl
theorem w9(h:k<z.A3.length):iG z k (z.A3.getD k à).Ah.length=iG z (k+1) 0:=by
  unfold iG allR
  rw[ö,ĥ,Ã h,bX h,List.take_zero,Û,ŧ]
  simp
theorem AG{y:List Rec}(h:Stable kLt eQ (iG z z.A3.length 0) y):y=cI z:=by
  unfold cI
  rw[<- Gm]
  unfold iG at h
  simpa using h
theorem zZ{o:List Rec}{r:Rec}(h:r∈o):ddR o r=o:=ae h
theorem Bq{o:List Rec}{r:Rec}(h:¬ r∈o):ddR o r=o++[r]:=ac h
theorem lF{x y:List Rec}(h:Stable kLt eQ x y)(r:Rec):r∈y↔r∈x:=⟨λq=>h.2.mem q,λq=>h.2.symm.mem q⟩
theorem Ng:∀ {k j:Nat},(iG z k j).length<=(allR z k).length+j:=by
  intro k j
  have K:∀(R o:List Rec),(R.foldl ddR o).length<=o.length+R.length:=by
    intro R
    induction R with
    | nil=>intro o;simp
    | cons r R i=>
      intro o
      have:=i (ddR o r)
      have h:(ddR o r).length<=o.length+1:=by unfold ddR;split<;>simp
      simp
      omega
  have:=K (allR z k++(z.A3.getD k à).Ah.take j) []
  unfold iG dds
  simp only[aV,aO,aY] at this
  omega
def orI:List Int->Int
  | []=>0
  | x::E=>if x=0 then orI E else x
theorem QZ:∀ {E:List Int}{k:Nat},k<E.length->(∀i,i<k->E.getD i 0=0)->E.getD k 0≠0->orI E=E.getD k 0
  | [],k,h,_,_=>by simp at h
  | x::E,0,_,_,H=>ac H
  | x::E,k+1,h,a,H=>by
    have b:x=0:=a 0 ω
    show(if x=0 then orI E else x)=_
    rw[ae b,QZ lN (λi c=>a (i+1) ω) H]
    rfl
theorem SW:∀ {E:List Int},(∀i,i<E.length->E.getD i 0=0)->orI E=0
  | [],_=>rfl
  | x::E,h=>by
    have H:x=0:=h 0 σ
    show(if x=0 then orI E else x)=_
    rw[ae H]
    exact SW λi hi=>h (i+1) uq
theorem U0{x y:Rec}:orI [rW x.Seq y.Seq,rW x.Kind y.Kind,rW x.Group y.Group]=cfR x y:=by
  unfold cfR orI orI orI orI
  by_cases a:rW x.Seq y.Seq=0<;>by_cases b:rW x.Kind y.Kind=0<;>by_cases c:rW x.Group y.Group=0<;>simp[b,c]
def jC (p:Rec->Bool) (r:List Rec):Nat->Int
  | 0 => -1
  | k+1=>if p (r.getD k à)=ã then(k:Int) else jC p r k
def jz (p:Rec->Bool) (r:List Rec):Int:=jC p r r.length
section
variable {p:Rec->Bool}{d:List Rec}
theorem sx(h:p (d.getD k à)=ã):jC p d (k+1)=k:=ae h
theorem yW(h:p (d.getD k à)=â):jC p d (k+1)=jC p d k:=ac wZ
theorem Fk:∀(k:Nat),-1<=jC p d k/\jC p d k<k
  | 0=>by simp[jC]
  | k+1=>by
    have:=Fk k
    rw[jC]
    split<;>omega
theorem yD : -1<=jz p d/\jz p d<d.length:=Fk d.length
theorem EF(h:p (d.getD k à)=ã):∀ {n:Nat},k<n->(∀j,k<j->j<n->p (d.getD j à)=â)->jC p d n=k
  | 0,c,_=>by omega
  | n+1,c,H=>by
    by_cases e:n=k
    · subst e;exact sx h
    · rw[yW (H n ω ω)]
      exact EF h ω λj a b=>H j a ω
theorem Qt(H:k<d.length)(h:p (d.getD k à)=ã)(a:∀j,k<j->j<d.length->p (d.getD j à)=â):jz p d=k:=EF h H a
theorem wO:∀ {n:Nat},0<=jC p d n->p (d.getD (jC p d n).toNat à)=ã
  | 0,h=>by simp[jC] at h
  | n+1,h=>by
    rw[jC] at h ⊢
    split
    · next e=>simpa using e
    · next e=>rw[ac e] at h;exact wO h
end
def shP (g R:Int) (r:Rec):Bool:=decide (r.Kind=4) && (decide (r.Group=g) && decide (r.Row=R))
def spS (r x:Rec):Bool:=(decide (x.Kind=3) && decide (x.Seq=r.Seq)) || (decide (x.Kind=4) && (decide (x.Group=r.Group) && (decide (x.Row=r.Row) && decide (r.Seq<x.Seq))))
noncomputable def mB (z:Wld) (g r:Int):Int:=jz (shP g r) (cI z)
noncomputable def opR (z:Wld) (g r:Int):Rec:=if 0<=mB z g r then(cI z).getD (mB z g r).toNat à else à
noncomputable def qZ (z:Wld) (g r:Int):Bool:=decide (0<=mB z g r) && !((cI z).any (spS (opR z g r)))
noncomputable def mT (z:Wld) (g r:Int):Int:=if qZ z g r=ã then mB z g r else -1
section
variable {g:Int}
theorem Iy{r:Rec}(h:shP g row r=ã):r.Kind=4/\r.Group=g/\r.Row=row:=by
  unfold shP at h;simp at h;exact h
theorem TM(h:mB z g row=k):opR z g row=(cI z).getD k default:=by unfold opR;rw[h];rfl
theorem St : -1<=mT z g row/\mT z g row<(cI z).length:=by
  have:=yD (p:=shP g row) (d:=cI z)
  unfold mT mB
  split<;>omega
theorem Ld:qZ z g row=decide (0<=mT z g row):=by
  unfold mT
  cases h:qZ z g row
  · simp
  · unfold qZ at h
    simp at h
    simp[h.1]
theorem TZ(h:0<=mT z g row):opR z g row=(cI z).getD (mT z g row).toNat default:=by
  unfold mT at h ⊢
  split
  · next e=>rw[ae e] at h;unfold opR;rw[ae h]
  · next e=>rw[ac e] at h;omega
end
def opI (x:List Rec) (g r:Int):Int:=if 0<=jz (shP g r) x then(if x.any (spS (x.getD (jz (shP g r) x).toNat à))=ã then -1 else jz (shP g r) x) else -1
section
variable {d:List Rec}{g:Int}{p:Rec->Bool}
theorem PF(h:¬ 0<=jz (shP g row) d):opI d g row = -1:=by rw[opI,ac h]
theorem Nh(h:0<=jz (shP g row) d)(H:d.any (spS (d.getD (jz (shP g row) d).toNat à))=ã):opI d g row = -1:=by rw[opI,ae h,ae H]
theorem OO(h:0<=jz (shP g row) d)(H:d.any (spS (d.getD (jz (shP g row) d).toNat à))=â):opI d g row=jz (shP g row) d:=by rw[opI,ae h,ac (by rw[H];simp)]
theorem Jy(h:k<d.length)(e:p (d.getD k à)=ã):d.any p=true:=by
  rw[bX h] at e
  exact ī.2 ⟨_,bx _,e⟩
theorem EO(h:∀i,i<d.length->p (d.getD i à)=â):d.any p=false:=by
  rw[ē]
  intro x a
  obtain⟨i,H,e⟩:=ð a
  have:=h i H
  rw[bX H,e] at this
  simp[this]
theorem LB:opI (cI z) g row=mT z g row:=by
  unfold opI mT qZ
  by_cases h:0<=mB z g row
  · have H:opR z g row=(cI z).getD (mB z g row).toNat default:=by unfold opR;rw[ae h]
    rw[ae (show 0<=jz _ (cI z) from h),aU h,H]
    unfold mB
    cases(cI z).any _<;>simp
  · rw[ac (show ¬ 0<=jz _ (cI z) from h),a8 h];simp
end
section
variable {w:ä}{f:List Nat}{d:List Ac}
theorem RdV.back(h:RdV O ft d)(e:Ext No w O)(l:∀b∈ft,b<w.heap.size):RdV w ft d:=λv hv=>by
  obtain⟨f,a,H⟩:=h v hv
  exact⟨f,Rp.st a λb c=>(e.block b (l b (H b c)) id).symm,H⟩
def InF {a:Type}[Rp a] (w:ä) (F:List Nat) (c:List è) (x:a):Prop:=∃f,own â w c x f/\∀b∈f,b∈F
theorem RdV.inF{v:Ac}(h:RdV w ft d)(hv:v∈d):InF w ft v.cs v.r:=h v hv
theorem RdV.Bi(h:RdV w ft d)(hk:k<d.length):InF w ft (d.getD k à).cs (d.getD k à).r:=h _ Gs
theorem InF.to{a:Type}[Rp a]{c:List è}{x:a}(h:InF w ft c x)(e:Ext No w O):InF O ft c x:=by
  obtain⟨f,H,d⟩:=h
  exact⟨f,Rp.st H λb g=>e.block b (Rp.lt H b g) id,d⟩
theorem InF.back{a:Type}[Rp a]{cs:List è}{x:a}(h:InF O ft cs x)(e:Ext No w O)(l:∀b∈ft,b<w.heap.size):InF w ft cs x:=by
  obtain⟨f,c,H⟩:=h
  exact⟨f,Rp.st c λb d=>(e.block b (l b (H b d)) id).symm,H⟩
theorem InF.rdv{v:Ac}(h:InF w ft v.cs v.r):RdV w ft [v]:=λu H=>by
  rw[aD] at H;subst H;exact h
theorem Qw:InF w ft (Ac.mk à ç 0 ç 0 ç 0).cs (à:Rec):=⟨[],aJ Ix,σ⟩
theorem InF.ok{v:Ac}(h:InF w ft v.cs v.r):v.r.Ok:=by
  obtain⟨f,H,_⟩:=h
  obtain⟨F,a,b,_,o,_⟩:=me H
  exact o
theorem InF.Ae{v:Ac}(h:InF w ft v.cs v.r):Ag w [.slice v.A6 v.r.Rows.length v.C6] v.r.Rows/\Ag w [.slice v.A7 v.r.Data.length v.C7] v.r.Data/\Ag w [.slice v.A8 v.r.Ad.length v.C8] v.r.Ad:=by
  obtain⟨f,H,_⟩:=h
  obtain⟨F,b,c,_,k,o,O,a⟩:=me H
  exact⟨⟨_,o⟩,⟨_,O⟩,⟨_,a⟩⟩
theorem Sep.recF{i:Type}[Rp i](h:Sep M N J F w)(j:Nat){C:List è}{y:i}(t:F[j]? = á (Wk.Ab s C y ft)){x:Rec}{A6:Option ô}{C6:Nat}{A7:Option ô}{C7:Nat}{A8:Option ô}{C8:Nat}(u:InF w ft (Ac.mk x A6 C6 A7 C7 A8 C8).cs x):
    ∃a c d,x.Ok/\x.Rows.length<=Ë/\x.Data.length<=Ë/\x.Ad.length<=Ë/\Sep M N J (F++[Wk.Ab â [.slice A6 x.Rows.length C6] x.Rows a,Wk.Ab â [.slice A7 x.Data.length C7] x.Data c,Wk.Ab â [.slice A8 x.Ad.length C8] x.Ad d]) w:=by
  obtain⟨f,p,q⟩:=u
  obtain⟨a,c,d,e,v,o,O,g⟩:=me p
  have k:=λb H=>h.ap _ (æ t) b (q b H)
  have l:=h.look (r:=Wk.Ab â [.slice A6 x.Rows.length C6] x.Rows a) o λb H=>k b (by rw[e];simp[show b∈a from H])
  have m:=l.look (r:=Wk.Ab â [.slice A7 x.Data.length C7] x.Data c) O λb H=>k b (by rw[e];simp[show b∈c from H])
  have n:=m.look (r:=Wk.Ab â [.slice A8 x.Ad.length C8] x.Ad d) g λb H=>k b (by rw[e];simp[show b∈d from H])
  refine⟨a,c,d,v,kw o,kw O,kw g,?_⟩
  simpa using n
theorem Mut.none{a:Type}[Rp a]{c:List è}{x:a}{f:List Nat}(e:Ext No w O)(h:own ã w c x f)(n:f.Nodup):Mut w O f c x:=
  ⟨e.no,f,Rp.st h λb H=>e.block b (Rp.lt h b H) id,n,λb H => .inl H⟩
theorem Ke:Stable kLt gD ([]:List Ac) []:=⟨.nil,.refl⟩
theorem RdV.stable(h:RdV w ft d)(H:Stable kLt gD d U):RdV w ft U:=h.sub λv hv=>H.2.mem hv
theorem RdV.snoc{v:Ac}(h:RdV w ft d)(hv:InF w ft v.cs v.r):RdV w ft (d++[v]):=h.app hv.rdv
theorem RdV.list{a n c}{F:List Nat}(r:RdV w ft d)(h:own s w [.slice a n c] d F):Ag w [.slice a n c] (d.map Ac.r):=by
  obtain⟨f,H,_⟩:=JC h r
  exact⟨f,H⟩
end
theorem Hf{a b:Int}: -1<=rW a b/\rW a b<=1:=by unfold rW;split<;>(try split)<;>omega
instance (a b:Int × Int × Int):Decidable (kLt a b):=by unfold kLt;infer_instance
instance:Flat Ac where
  flat h:=⟨h.2.1,λ_ _=>⟨h.1,rfl,h.2.2⟩⟩
theorem T1{X:List Rec}{r:Rec}:X.any (λx=>decide (x=r))=decide (r∈X):=by
  rw[Bool.eq_iff_iff];simp
theorem SS{x:List Rec}{r:Rec}(h:k<x.length)(e:x.getD k à=r):ã=decide (r∈x):=by
  rw[eq_comm,ab,<- e,bX h];exact bx _
theorem TU{x:List Rec}{r:Rec}(h:∀i,i<x.length->decide (x.getD i à=r)=â):â=decide (r∈x):=by
  rw[eq_comm,aa]
  intro m
  obtain⟨i,H,e⟩:=ð m
  have:=h i H
  rw[aa,bX H] at this
  exact this e
theorem ey{v:List Ac}{r:List Rec}(e:v.map Ac.r=r)(h:k<v.length):(v.getD k à).r=r.getD k default:=by
  rw[<- e];simp[h]
theorem Si{v:List Ac}(h:v.map Ac.r=iG z z.A3.length 0)(H:Stable kLt gD v U):U.map Ac.r=cI z:=
  AG (by rw[<- h];exact JW H)
theorem Jq{B:Nat}(h:∀k,(z.A3.getD k à).Ah.length<=B):∀k,k<=z.A3.length->(allR z k).length<=k*B
  | 0,_=>by simp[allR]
  | k+1,a=>by
    have i:=Jq h k ω
    have H:=h k
    unfold allR at i ⊢
    rw[ĥ,Ã ω,Û,ŧ,aO]
    simp only[Option.toList_some,Ï,List.map_nil,List.flatten_cons,List.flatten_nil,Į]
    rw[<- bX ω (d:=à)]
    rw[b8];omega
theorem uB(T:z.A3.length=2)(h:∀k,(z.A3.getD k à).Ah.length<=200000)(c:k<=2)(b:j<=200000):(iG z k j).length<=600000:=by
  have H:=Ng (z:=z) (k:=k) (j:=j)
  have a:=Jq h k ω
  omega
theorem jY(H:z.A3.length=2)(h:∀k,(z.A3.getD k à).Ah.length<=200000):(cI z).length<=600000:=by
  have b:=uB H h (k:=2) (j:=0) ω ω
  have a:Stable kLt eQ (iG z z.A3.length 0) (cI z):=by
    unfold cI iG
    simp
    exact(vJ _).choose_spec
  have:=a.2.len
  rw[H] at this
  omega
theorem nF(h:c7 z=0):∀k,(z.A3.getD k à).Ah.length<=200000:=λk=>by
  have T:=(c5 h).2.2.2.1
  obtain⟨H,a⟩:=Cc h
  by_cases e:k<2
  · have:k=0\/k=1:=by omega
    rcases this with rfl|rfl<;>omega
  · have:z.A3.getD k à=default:=by simp[Í (show z.A3.length<=k by omega)]
    rw[this];exact ý _
section
variable {d:List Ac}{r:Rec}
theorem R6{r:List Rec}(h:Ord kLt eQ r):∀ {i q:Nat},i<=q->q<r.length->¬ kLt (eQ (r.getD q à)) (eQ (r.getD i à)):=by
  induction h with
  | nil=>intro i q _ h;simp at h
  | cons a c I=>
    rename_i y l
    intro i q d H
    cases i with
    | zero=>
      cases q with
      | zero=>exact su.irr _
      | succ q=>
        have b:q<l.length:=by simpa using H
        show ¬ kLt (eQ (l.getD q à)) (eQ y)
        rw[bX b]
        exact a _ (bx _)
    | succ i=>
      cases q with
      | zero=>omega
      | succ q=>exact I ω (by simpa using H)
theorem T3{R:List Rec}(o:Ord kLt eQ R)(d:a<=R.length)(h:a=0\/¬ kLt (eQ r) (eQ (R.getD (a-1) à))):∀y∈R.take a,¬ kLt (eQ r) (eQ y):=by
  intro y c
  obtain⟨i,b,e⟩:=ð c
  rw[aY] at b
  rw[List.getElem_take] at e
  rcases h with h|h
  · omega
  · intro t
    have H:=R6 o (i:=i) (q:=a-1) ω ω
    rw[bX (by omega:i<R.length),e] at H
    exact h (xP t H)
theorem Tu{R:List Rec}(h:∀i,a<=i->i<R.length->kLt (eQ r) (eQ (R.getD i à))):∀y∈R.drop a,kLt (eQ r) (eQ y):=by
  intro y b
  obtain⟨i,H,e⟩:=ð b
  rw[bZ] at H
  rw[Ĵ] at e
  have:=h (a+i) ω ω
  rwa[bX ω,e] at this
theorem BW{x R:List Rec}(h:Stable kLt eQ x R)(b:a<=R.length)(H:a=0\/¬ kLt (eQ r) (eQ (R.getD (a-1) à)))(B:∀i,a<=i->i<R.length->kLt (eQ r) (eQ (R.getD i à))):
    Stable kLt eQ (x++[r]) (R.take a++r::R.drop a):=
  lf su G9 (Tu B) (T3 h.1 b H)
theorem LF{l h:Nat}:(cut d l h).map Ac.r=cut (d.map Ac.r) l h:=by unfold cut;rw[List.map_take,List.map_drop]
theorem rS{v:Ac}(e:v.r=r)(h:a<=d.length):(cut d 0 a++[v]++cut d a d.length).map Ac.r=(d.map Ac.r).take a++r::(d.map Ac.r).drop a:=by
  rw[Û,Û,LF,LF]
  unfold cut
  rw[Nat.sub_zero,Ĕ (by simp:((d.map Ac.r).drop a).length<=d.length-a)]
  simp[e]
theorem fN{l h:Nat}:∀v∈cut d l h,v∈d:=λv hv=>by
  exact List.mem_of_mem_drop (List.mem_of_mem_take hv)
end
section
variable {n:Nat}{w:ä}{d:Tmp}{g:Option (Nat × Bool)}
theorem sJ{l:Nat}{r:List (Nat × Bool)}{S:ä->Prop}{t e:ì}{j:Array (Nat × Â)}{a_:è}(s:List Int)(B:T.toList[l]? = á ⟨á d,.buildSlice t s.length j,Y,p,X,g⟩)(R:Wn T n L ⟨á d,.buildSlice t s.length j,Y,p,X,g⟩)(A:ò d n=ã)(G:P.underlying t=á (.slice e))(q:Ty P e a_ 1 V)
    (y:j.toList.map (·.1)=õ s.length) (hv:kX L (j.toList.map (·.2))=á (s.map (é .i64))) (z:∀x∈s,Ak x) (m:0<s.length) (hl:s.length<=1000) (H:Sep M N J F w) (o:∀O,S w->Ext No w O->S O)
    (k:∀b O,Ext No w O->w.heap.size<=b->Sep M N (J++[A4 [.slice (á ⟨b,0,ç⟩) s.length s.length] s [b]]) F O->DL P n T Q S r ((d,.slice (á ⟨b,0,ç⟩) s.length s.length)::L) O) :
    DL P n T Q S ((l,â)::r) L w:=by
  have E:∀a,Good n a L->(j.map λ(i,x)=>(i,a.eval x)).toList=((s.map _).zipIdx 0).map λx=>_:=λa u=>by
    have W:∀(l:List (Nat × Â)) (C:List è) (k:Nat),l.map (·.1)=List.range' k C.length->kX L (l.map (·.2))=á C->l.map (λx=>(x.1,a.eval x.2))=(C.zipIdx k).map λx=>(x.2,x.1):=by
      intro l
      induction l with
      | nil=>intro C k f c;simp[kX] at c;subst c;rfl
      | cons x l I=>
        intro C k f c
        simp at f c ⊢
        unfold kX at c
        split at c
        · rename_i v U hv K
          cases c
          rw[aR,List.range'_succ] at f
          simp at f
          rw[List.zipIdx_cons,Ï,<- I U (k+1) f.2 K,u.eval hv,f.1]
        · cases c
    rw[Array.toList_map]
    refine W j.toList _ 0 ?_ hv
    rw[y,aS,List.range_eq_range']
  have D:=zr (w:=w) (C:=Y) (p:=p) (D:=X) (g:=g) (d:=á d) G q ω σ E Hl m ω
  refine tO B R rfl A D (λh _=>o _ h (Ext.refl.alloc _)) (k _ _ (Ext.refl.alloc _) (aN _) ?_)
  refine H.add (Ext.refl.alloc _) (.inr (.inr ⟨w.heap.size,0,_,_,e,(0,0),[],rfl,rfl,heap_alloc_new w _,λ_=>rfl,aN _,db,?_,?_⟩)) q8 q8
  · have:∀l:List Int,(l.map (é .i64)).flatMap (λv=>v.cells.toList)=l.map (é .i64):=by
      intro l;induction l with
      | nil=>rfl
      | cons x l I=>simp only[Ï,Œ,I];rfl
    simp[this,sz]
  · have:∀l:List Int,(l.map (é .i64)).flatMap (λv=>v.cells.toList)=l.map (é .i64):=by
      intro l;induction l with
      | nil=>rfl
      | cons x l I=>simp only[Ï,Œ,I];rfl
    simp only[this]
    exact C4 z
end
theorem MO{x:List Rec}{g:Int}(h:¬ 0<=jz (shP g row) x):opI x g row=jz (shP g row) x:=by
  have:=yD (p:=shP g row) (d:=x)
  rw[PF h];omega
def nodef (l:List ą):Bool:=l.all λo=>match o.op with
  | .defer _=>â
  | _=>ã
theorem QA{l:List ą}(h:nodef l=ã)(H:o∈l):∀c,o.op ≠ .defer c:=by
  have:=û.1 h o H
  intro c e
  rw[e] at this
  cases this
section
variable {d:Option Nat}{n m:Nat}{w:ä}
theorem RV{b:String}{a:Array è}(h:Rows P b a w R):RowsIn (inF d) m P b a w R:=
  λc C _=>let ⟨v,O,r,s⟩:=h c C;⟨v,O,r,stepsIn_wide.2 s⟩
theorem UT(H:∀c,o.op ≠ .defer c){a:Act}{K:Act->ä->Prop}{Q:Exit->Act->ä->Prop}(h:o.wp P a w K Q):o.wpIn (inF d) m P a w K Q:=by
  refine⟨λ_ _=>trivial,?_⟩
  rw[Oper.semAt_eq _ _ _ H]
  unfold Oper.wp at h
  generalize (À a.eval o).run P w=r at *
  cases r with
  | ok x O=>
    cases x with
    | enter f A=>exact⟨λh=>(by cases h),callsIn_wide.2 h⟩
    | row r A=>exact⟨λh=>(by cases h),RV h⟩
    | _=>first|exact h|exact h.elim
  | halt x O=>cases x<;>exact h
theorem Up:¬ LetsOut (lift n Q):=λ⟨_,_,h⟩=>h
theorem G7:∀ {l:List ą},nodef l=ã->∀ {a:Act}{w:ä},wpList P T (lift n Q) l a w->wpListIn (inF d) m P T (lift n Q) l a w
  | [],_,_,_,h=>h
  | o::l,H,a,w,h=>by
    have c:nodef l=true:=by unfold nodef at H ⊢;simp only[List.all_cons,aP] at H;exact H.2
    unfold wpListIn
    unfold wpList at h
    split
    · next b=>
      rw[ae b] at h
      rcases h with h|h
      · exact UT (QA H σ) (Oper.wp_mono (λa w=>G7 c) h)
      · exact absurd h.2 Up
    · next b=>
      rw[ac b] at h
      exact⟨λ_ _=>trivial,G7 c h⟩
theorem Rm{e:Exit}{a:Act}(h:lift n Q e a w):Io [] n Q e a w:=by
  cases e<;>first|exact h|(obtain⟨L,H,q⟩:=h;exact⟨L,⟨by have:=H;cases a;have:=this.defers;simp only at this;subst this;exact H,H.defers⟩,q⟩)
theorem RU{a:Act}(h:GoodD [] n a L):Good n a L:=by
  obtain⟨H,b⟩:=h
  cases a;subst b;exact H
theorem vd{i:Nat}{l:List ą}(b:nodef l=ã)(h:RL P n l.toArray Q l L w):WF d [] P n (.region i l.toArray â) Q L w:=λa H=>
  wpIn_mono (wpIn_region_lit (G7 b (h a (RU H)))) λ_ _ _ h=>Rm h
end
section
variable {r:Rec}{g:Int}
theorem QY{r:Rec}:∀ {rs o:List Rec},r∈rs.foldl ddR o->r∈o\/r∈rs
  | [],_,h => .inl h
  | x::rs,o,h=>by
    rcases QY (rs:=rs) h with h|h
    · unfold ddR at h
      split at h
      · exact .inl h
      · rcases aI.1 h with h|h
        · exact .inl h
        · exact .inr (by rw[aD] at h;simp[h])
    · exact .inr (Đ _ h)
theorem D1:Stable kLt eQ (dds (allR z z.A3.length)) (cI z):=(vJ _).choose_spec
theorem F7(h:r∈cI z):∃k j,k<z.A3.length/\j<(z.A3.getD k à).Ah.length/\(z.A3.getD k à).Ah.getD j à=r:=by
  have d:=D1.2.mem h
  rcases QY d with H|H
  · cases H
  · unfold allR at H
    rw[ö] at H
    obtain⟨l,f,g⟩:=List.mem_flatten.1 H
    obtain⟨t,i,rfl⟩:=bY.1 f
    obtain⟨k,b,e⟩:=ð i
    obtain⟨j,a,c⟩:=ð g
    have E:z.A3.getD k à=t:=by rw[bX b];exact e
    exact⟨k,j,b,by rw[E];exact a,by rw[E,bX a];exact c⟩
theorem JS(h:r∈cI z):fH r<=fY z:=by
  obtain⟨k,j,b,a,e⟩:=F7 h
  have c:=(lr (f:=ou) (aN _) k b).1
  have H:=(lr (f:=fH) (aN _) j a).1
  rw[e] at H
  have d:ou _=szL fH (z.A3.getD k à).Ah:=rfl
  unfold fY
  omega
theorem R2(h:0<=mB z g row):opR z g row∈cI z:=by
  have H:=yD (p:=shP g row) (d:=cI z)
  unfold opR
  rw[ae h,bX (by unfold mB at *;omega)]
  exact bx _
end
section
variable {r:Rec}{g:Int}
theorem Mp(h:qZ z g row=ã):0<=mB z g row:=by
  unfold qZ at h;simp at h;exact h.1
theorem xQ(h:qZ z g row=ã):(opR z g row).Kind=4/\(opR z g row).Group=g/\(opR z g row).Row=row:=by
  have H:=Mp h
  unfold opR;rw[ae H]
  exact Iy (wO H)
theorem pT(h:c7 z=0)(l:r∈cI z):recF z.A0 r=0:=by
  obtain⟨k,j,g,d,e⟩:=F7 l
  have t:=(c5 h).2.2.2.2
  rcases Ē (recF z.A0 r=0) with c|c
  · exact c
  · exfalso
    have b:gV z.A0 z.A3 z.A3.length=0:=by
      unfold il at t
      split at t
      · cases t
      · split at t
        · next C=>exact absurd t C
        · omega
    have H:gV z.A0 z.A3 (k+1)=0:=by
      rcases Ē (gV z.A0 z.A3 (k+1)=0) with C|C
      · exact C
      · rw[py C _ g] at b;exact absurd b C
    have i:gV z.A0 z.A3 k=0:=by
      rcases Ē (gV z.A0 z.A3 k=0) with C|C
      · exact C
      · rw[py C _ (S? k)] at H;exact absurd H C
    rw[ks i] at H
    have a:ij z.A0 (z.A3.getD k à).Ah (j+1)=0:=by
      rcases Ē (ij z.A0 (z.A3.getD k à).Ah (j+1)=0) with C|C
      · exact C
      · rw[pE C _ d] at H;exact absurd H C
    have f:ij z.A0 (z.A3.getD k à).Ah j=0:=by
      rcases Ē (ij z.A0 (z.A3.getD k à).Ah j=0) with C|C
      · exact C
      · rw[pE C _ (S? j)] at a;exact absurd a C
    rw[kG f,e] at a
    exact c a
theorem De{s:A0}(h:recF s r=0)(H:r.Kind=4):gT s r=true:=by
  have i:ins r.Kind 1 4=true:=by rw[H];rfl
  unfold recF at h
  rw[ae i] at h
  split at h
  · split at h
    · next c=>exact absurd h c
    · have C:fm s r=0:=by omega
      rw[g9 H] at C
      split at C
      · next e=>exact e
      · cases C
  · cases h
end
section
variable {w:ä}
theorem Sep.shareB(h:Sep M N J F w)(i:Nat){b:Nat}{o:Obj}(a:J[i]? = á (Wk.box b o)):Sep M N (J.set i gone) (F++[Wk.box b o]) w:=by
  have m:=kr a h.nd
  have d:Sep M N (J.set i gone) F w:=by
    refine⟨h.ext,λp c=>?_,nc a h.nd df df,λb H=>?_,h.fs,λp c b H x=>?_⟩
    · rcases kN a h.nd p c with rfl|⟨c,_⟩
      · trivial
      · exact h.rs p c
    · rcases fR a b H with H|H
      · simp[gone] at H
      · exact h.new b H
    · rcases fR a b x with x|x
      · simp[gone] at x
      · exact h.ap p c b H x
  exact d.look (h.box i a) m
end
section
variable {α:Type}[Inhabited α] {f:α->Nat}{d:List α}{y:α}
theorem PR(h:i<d.length):mkL f (d.set i y)+f (d.getD i à)=mkL f d+f y:=by
  unfold mkL
  rw[bE]
  have E:my (λj=>f ((d.set i y).getD j à)+(if j=i then f (d.getD i à) else 0)) d.length=my (λj=>f (d.getD j à)+(if j=i then f y else 0)) d.length:=
    wJ λj H=>by
      rw[d8]
      by_cases e:j=i
      · subst e;rw[ae ⟨rfl,h⟩,ae rfl,ae rfl];omega
      · rw[ac (λq=>e q.1),ac e,ac e]
  rw[yV,yV,Dq,Dq,ae h,ae h] at E
  exact E
end
def kA (s g:Int):Rec:=⟨3,s,⟨#[]⟩,0,g,0,[],[],[]⟩
def mg (z:Wld) (r:Rec):Int:=if dI z=ã then 2 else if jL z r=ã then 0 else 9
def layZ (z:Wld) (r:Rec):Wld:=if dI z=ã then z else lj z r
section
variable {r:Rec}{rs:List Rec}{t:Nat}
theorem FP:mg z r=0\/mg z r=2\/mg z r=9:=by
  unfold mg;split
  · exact .inr (.inl rfl)
  · split
    · exact .inl rfl
    · exact .inr (.inr rfl)
theorem iR(h:dI z=ã):mg z r=2/\layZ z r=z:=⟨ae h,ae h⟩
theorem fM(h:dI z=â):mg z r=(if jL z r=ã then 0 else 9)/\layZ z r=lj z r:=⟨ac gX,ac gX⟩
theorem Fu(h:mg z r=0):dI z=â/\jL z r=true:=by
  unfold mg at h
  split at h
  · cases h
  · next c=>
    split at h
    · next d=>exact⟨by simpa using c,d⟩
    · cases h
theorem LG(h:t<z.A3.length):qD (gc t r z)<=qD z+AZ r:=by
  unfold gc pk;split
  · have:=Q0 (z:=z);omega
  · have H:=PR (f:=C0) (y:=⟨â,(z.A3.getD t à).Ah++[r]⟩) h
    have a:C0 ⟨â,(z.A3.getD t à).Ah++[r]⟩=C0 (z.A3.getD t à)+AZ r:=by
      unfold C0;rw[OK];omega
    unfold qD kR layT;dsimp only;omega
theorem Rr(h:z.A3.length=2):qD (lj z r)<=qD z+2*AZ r:=by
  unfold lj;split
  · have:=Q0 (z:=z);omega
  · have H:=LG (t:=0) (r:=r) (z:=z) ω
    have a:=LG (t:=1) (r:=r) (z:=gc 0 r z) (by rw[kL];omega)
    omega
theorem JK:(lj z r).A3.length=z.A3.length:=by
  unfold lj;split
  · rfl
  · rw[kL,kL]
theorem Ij:z.Aa<=(lj z r).Aa/\(lj z r).Aa<=z.Aa+2:=by
  unfold lj;split
  · show z.Aa<=z.Aa/\z.Aa<=z.Aa+2;omega
  · have h:=lW (t:=0) (r:=r) (z:=z)
    have H:=lW (t:=1) (r:=r) (z:=gc 0 r z)
    omega
theorem MG(h:jL z r=ã):(lj z r).Down=z.Down:=by
  unfold jL at h
  simp at h
  rw[(nW h.1).1,vH h.2,vH h.1]
theorem Pz(h:z.Ok)(H:z.Aa<=1500000000):(lj z r).Ok:=by
  unfold lj;split
  · exact Cb h
  · have:=lW (t:=0) (r:=r) (z:=z)
    exact Ln (Ln h ω) ω
theorem IX{s g:Int}(H:Ak s)(a:Ak g):(kA s g).Ok:=by
  have h:Ak 0:=by unfold Ak;omega
  exact⟨by show Ak 3;unfold Ak;omega,H,Gq,h,a,h⟩
theorem Ej(h:z.A3.length=2):(layZ z r).A3.length=2/\(layZ z r).Aa<=z.Aa+2/\z.Aa<=(layZ z r).Aa/\qD (layZ z r)<=qD z+2*AZ r:=by
  unfold layZ;split
  · exact⟨h,ω,ω,ω⟩
  · have H:=Ij (z:=z) (r:=r)
    exact⟨by rw[JK,h],ω,ω,Rr h⟩
theorem RO(h:z.Ok)(H:z.Aa<=1500000000):(layZ z r).Ok:=by
  unfold layZ;split
  · exact h
  · exact Pz h H
end
theorem I1{s g:Int}:fH (kA s g)=0:=rfl
section
variable {r:Rec}
theorem rX:eU z 1=dI z:=rfl
end
theorem N7{w:ä}{x:Bool}:own ã w [.bool x] x []:=⟨rfl,rfl⟩
theorem y6{s w a n c}{x:List Bool}{F}(h:own s w [.slice a n c] x F)(k:Nat)(H:k<x.length):
    ∃b o,a=á ⟨b,o,ç⟩/\w.cell? ⟨b,o+k*1,ç⟩=á (.bool (x.getD k â)):=by
  obtain⟨b,o,C,f,d,e,h3,_⟩:=gh h k H
  rw[show x.getD k â=x[k] from by simp[H]]
  exact⟨b,o,d,e 0 _ zT⟩
def itP (n:ByteArray) (x:Rec):Bool:=decide (x.Kind=1) && (x.Name.toList == n.toList)
def dnP (q g:Int) (x:Rec):Bool:=decide (x.Kind=3) && (decide (x.Seq=q) && decide (x.Group=g))
def qT (x:List Rec):Int:=(x.getD (x.length-1) à).Seq
section
variable {s:A0}{r:Rec}{d:List Rec}{n:Nat}{g:Int}
theorem JA{p:Rec->Bool}(h:a<d.length)(l:p (d.getD a à)=ã):(d.drop (a+1)).any p = !decide (jz p d=(a:Int)):=by
  by_cases e:(d.drop (a+1)).any p=ã
  · rw[e]
    obtain⟨x,o,m⟩:=ī.1 e
    obtain⟨i,k,E⟩:=ð o
    rw[bZ] at k
    rw[Ĵ] at E
    rw[a8]
    · rfl
    intro b
    have g:p (d.getD (a+1+i) à)=true:=by rw[bX ω,E];exact m
    have j:∀ {n},a+1+i<n->(a+1+i:Int)<=jC p d n:=by
      intro n
      induction n with
      | zero=>intro q;omega
      | succ n I=>
        intro q
        rw[jC]
        split
        · omega
        · next c=>
          by_cases f:n=a+1+i
          · subst f;exact absurd g c
          · exact I ω
    have s:=j (n:=d.length) ω
    unfold jz at b
    omega
  · rw[Bool.not_eq_true] at e
    rw[e,aU]
    · rfl
    refine Qt h l λi r H=>?_
    rw[ē] at e
    have:=e (d.getD i à) (by
      rw[bX H]
      have:d[i]=(d.drop (a+1))[i-(a+1)]'(by rw[bZ];omega):=by rw[Ĵ];congr 1;omega
      rw[this];exact bx _)
    simpa using this
end
section
variable {m K:Type}{g:K->K->Prop}{d:m->K}
theorem Ord.at[Inhabited m]{x:List m}(h:Ord g d x):∀ {i j:Nat},i<j->j<x.length->¬ g (d (x.getD j à)) (d (x.getD i à)):=by
  induction h with
  | nil=>intro i j _ h;simp at h
  | cons H b I=>
    intro i j c a
    obtain⟨j,rfl⟩:∃k,j=k+1:=⟨j-1,ω⟩
    rw[aR] at a
    rcases Nat.eq_zero_or_pos i with e|e
    · subst e
      rw[List.getD_cons_zero,bX ω]
      exact H _ (bx _)
    · obtain⟨i,rfl⟩:∃k,i=k+1:=⟨i-1,ω⟩
      exact I ω ω
end
theorem vD{w:ä}{c:Int}(h:Ak c):Res w O [.int .i64 c,.slice ç 0 0] (⟨c,[]⟩:BytesResult):=
  ⟨[],BytesResult.own_mk (x:=⟨c,[]⟩) (A1:=ç) (C1:=0) h (.inr (.inl ⟨rfl,rfl,rfl⟩)),.nil,σ⟩
section
variable {w:ä}{d:Type}[Rp d]
theorem Sep.rowApp(h:Sep M N J F w)(j e:Nat){x:List (List d)}{g}(k:F[j]? = á (rows C x g)){s a c}{y:List d}{f}(i:F[e]? = á (Wk.Ab s [.slice a y.length c] y f))(l:C.length=x.length):
    ∃G,Sep M N J (F.set j (rows (C++[⟨a,y.length,c⟩]) (x++[y]) G)) w/\∀b∈G,b∈g\/b∈f:=
  ⟨g++f,h.fset j (M9 (h.fs _ (æ k)) l (h.Ab e i)) λb H=>(aI.1 H).elim (h.ap _ (æ k) b) (h.ap _ (æ i) b),λb H=>aI.1 H⟩
theorem Sep.noRows(h:Sep M N J F w):Sep M N J (F++[rows ([]:List View) ([]:List (List d)) []]) w:=h.look rfl (by simp[rows])
theorem Sep.viewsIn(h:Sep M N J F w)(i j:Nat){v:è}{x:List (List d)}{f g}(e:J[i]? = á (Wk.A4 [v] C f))(k:F[j]? = á (rows C x g))(n:C.length=x.length):
    ∃p,Sep M N (J.set i gone) (F++[Wk.Ab â [v] x p]) w/\∀b∈p,b∈f\/b∈g:=by
  obtain⟨p,o,s⟩:=yP (h.A4 i e) (h.rowsAt j k) n
  have a:=h.Ba i e
  have c:=a.fto λq l=>⟨a.fs q (Ó _ l),a.ap q (Ó _ l)⟩
  refine⟨p,c.look o λb H m=>?_,s⟩
  rcases s b H with H|H
  · exact a.ap (Wk.Ab ã [v] C f) (List.mem_append_right _ σ) b H m
  · exact c.ap _ (æ k) b H m
end
def cW (x:List (List UInt8)) (n:Nat):Nat->List Int
  | 0=>[]
  | k+1=>if 0<(x.getD k []).length/\(cW x n k).length<n then cW x n k++[(k:Int)] else cW x n k
def thereTo (x:List (List UInt8)) (n:Nat):Nat->List (List UInt8)
  | 0=>[]
  | k+1=>if 0<(x.getD k []).length/\(cW x n k).length<n then thereTo x n k++[x.getD k []] else thereTo x n k
theorem li{x n k}(h:0<(x.getD k []).length/\(cW x n k).length<n):cW x n (k+1)=cW x n k++[(k:Int)]/\thereTo x n (k+1)=thereTo x n k++[x.getD k []]:=by
  rw[cW,thereTo,ae h,ae h];exact⟨rfl,rfl⟩
theorem lz{x n k}(h:¬ (0<(x.getD k []).length/\(cW x n k).length<n)):cW x n (k+1)=cW x n k/\thereTo x n (k+1)=thereTo x n k:=by
  rw[cW,thereTo,ac h,ac h];exact⟨rfl,rfl⟩
theorem kP{x n}:∀ {k},(thereTo x n k).length=(cW x n k).length
  | 0=>rfl
  | k+1=>by
    by_cases h:0<(x.getD k []).length/\(cW x n k).length<n
    · rw[(li h).1,(li h).2,aO,aO,kP];rfl
    · rw[(lz h).1,(lz h).2,kP]
theorem vu{x n}:∀ {k},(cW x n k).length<=n/\(cW x n k).length<=k
  | 0=>⟨ý _,aN _⟩
  | k+1=>by
    have:=vu (x:=x) (n:=n) (k:=k)
    by_cases h:0<(x.getD k []).length/\(cW x n k).length<n
    · rw[(li h).1];simp;omega
    · rw[(lz h).1];omega
theorem NN{x n k}(h:(cW x n k).length=n):∀m,k<=m->cW x n m=cW x n k/\thereTo x n m=thereTo x n k:=by
  intro m a
  induction m with
  | zero=>have e:k=0:=(by omega);rw[e];exact⟨rfl,rfl⟩
  | succ m i=>
    by_cases e:k=m+1
    · rw[e];exact⟨rfl,rfl⟩
    · have i:=i ω
      have H:=lz (by rw[i.1];omega)
      rw[H.1,H.2];exact i
theorem qk{X n}:∀ {k} (i:Nat),i<(cW X n k).length->0<=(cW X n k).getD i 0/\(cW X n k).getD i 0<k/\(0<i->(cW X n k).getD (i-1) 0<(cW X n k).getD i 0) /\
    0<(X.getD ((cW X n k).getD i 0).toNat []).length/\(thereTo X n k).getD i []=X.getD ((cW X n k).getD i 0).toNat []
  | 0,i,H=>by simp[cW] at H
  | k+1,i,H=>by
    by_cases h:0<(X.getD k []).length/\(cW X n k).length<n
    · rw[(li h).1] at H
      rw[(li h).1,(li h).2]
      have t:=kP (x:=X) (n:=n) (k:=k)
      have g:∀ {a:Type}{l:List a}{x d:a}{j:Nat},j<l.length->(l++[x]).getD j d=l.getD j d:=λc=>by simp[List.getElem?_append_left c]
      have G:∀ {a:Type}{l:List a}{x d:a},(l++[x]).getD l.length d=x:=by intros;simp
      by_cases b:i<(cW X n k).length
      · have I:=qk i b
        rw[g b,g ω,g ω]
        exact⟨I.1,ω,I.2.2.1,I.2.2.2⟩
      · obtain rfl:i=(cW X n k).length:=by simp at H;omega
        rw[G,<- t]
        refine⟨ω,ω,λp=>?_,by simpa using h.1,σ⟩
        rw[t] at p ⊢
        rw[g ω]
        have I:=qk (X:=X) (n:=n) (k:=k) ((cW X n k).length-1) ω
        exact I.2.1
    · rw[(lz h).1] at H ⊢
      rw[(lz h).2]
      have I:=qk i H
      exact⟨I.1,ω,I.2.2⟩
theorem CK{x n k}:rises (cW x n k) ((k:Int)-1)=true:=vI λi h=>by
  have:=qk i h
  simp only[kz,aP,bJ,ab]
  omega
def jq (n:Nat) (x:List (List UInt8)):Bool:=decide (n<=(cW x n x.length).length)
def decAt (n:Nat) (x:List (List UInt8)) (p:Int):List UInt8:=mixTo (thereTo x n x.length) (betw n (cW x n x.length) p 0) 4 (thereTo x n x.length).length
def tM (n:Nat) (x:List (List UInt8)) (k:Nat):List UInt8:=((õ k).map λi:Nat=>decAt n x (i:Int)).flatten
def yu (n:Nat) (x:List (List UInt8)):List UInt8:=if jq n x=ã then tM n x n else[]
def G1 (n:Nat) (x:List (List UInt8)) (p:Int):List UInt8:=if jq n x=ã then decAt n x p else[]
theorem wC{n x k}:tM n x k++mixTo (thereTo x n x.length) (betw n (cW x n x.length) (k:Nat) 0) 4 (thereTo x n x.length).length=tM n x (k+1):=by
  simp[tM,č,decAt]
theorem KJ{n x}(h:(cW x n x.length).length<n):jq n x=â/\yu n x=[]/\∀p,G1 n x p=[]:=by
  have:jq n x=false:=by rw[jq,a8 ω]
  exact⟨this,by rw[yu,this];rfl,λp=>by rw[G1,this];rfl⟩
theorem BZ{n x}(h:¬ (cW x n x.length).length<n):jq n x=ã/\yu n x=tM n x n/\∀p,G1 n x p=decAt n x p:=by
  have:jq n x=true:=by rw[jq,aU ω]
  exact⟨this,by rw[yu,ae this],λp=>by rw[G1,ae this]⟩
def Part (x:List (List UInt8)):Prop:=∀i,i<x.length->(x.getD i []).length=4\/(x.getD i []).length=0
theorem GG{n:Nat}(h:Part E):∀i,i<(thereTo E n E.length).length->((thereTo E n E.length).getD i []).length=4:=λi a=>by
  have H:=qk i (by rw[<- kP];exact a)
  rw[H.2.2.2.2]
  have b:=h ((cW E n E.length).getD i 0).toNat ω
  omega
theorem AP{n p}(h:Part E):(decAt n E p).length=4:=lS (GG h) (aN _)
theorem vA{n}(h:Part E):∀k,(tM n E k).length=k*4
  | 0=>rfl
  | k+1=>by
    rw[<- wC,aO,vA h k]
    have:=AP (n:=n) (p:=(k:Int)) h
    rw[decAt] at this
    omega
def EU:Nat->List (List Int)
  | 1=>[[0],[1],[2]]
  | 2=>[[0,1],[0,2],[0,3],[1,2],[1,3],[2,3]]
  | 3=>[[0,1,2],[0,1,3],[0,1,4],[0,2,3],[0,2,4],[0,3,4],[1,2,3],[1,2,4],[1,3,4],[2,3,4]]
  | _=>[]
def xorN (f:Nat->UInt8):Nat->UInt8
  | 0=>0
  | k+1=>xorN f k ^^^ f k
def ivT:List (UInt8 × UInt8):=[(1,1),(23,102),(27,128),(29,131),(84,129),(128,27),(129,84),(130,161),(131,29),(143,245),(161,130),(225,63),(239,106)]
set_option maxRecDepth 100000 in
theorem TN:(ivT.all λe=>decide (pm e.1=e.2))=true:=by decide +kernel
def ivL (p:UInt8):UInt8:=match ivT.find? (λe=>decide (e.1=p)) with
  | some e=>e.2
  | none=>pm p
theorem P7:ivL=pm:=by
  funext p
  unfold ivL
  split
  · rename_i e a
    have h:=T? a
    have b:=ņ a
    have H:=û.1 TN e b
    simp at h H
    rw[<- h,H]
  · rfl
def Ut (i:UInt8->UInt8) (m:Mat) (c r a:Nat):Mat:=(m.set a (m.getD r [])).set r (cK (m.getD a []) (i (entry m a c)))
def Vb (i:UInt8->UInt8) (m:Mat) (c r:Nat):Mat × Nat:=if m.length<=rr m c r then(m,r) else(eX (Ut i m c r (rr m c r)) c r m.length,r+1)
def N4 (i:UInt8->UInt8) (m:Mat):Nat->Mat × Nat
  | 0=>(m,0)
  | c+1=>Vb i (N4 i m c).1 c (N4 i m c).2
theorem Mb(m:Mat):∀n,N4 pm m n=jW m n
  | 0=>rfl
  | n+1=>by rw[N4,Mb m n];rfl
def Ua (I:UInt8->UInt8) (n:Nat) (p:Int) (i:Nat):UInt8:=if(n:Int)<=p then I (GI (128+(0+p-n)) ^^^ GI i) else if(i:Int)=p then 1 else 0
def Q2 (i:UInt8->UInt8) (n:Nat) (p:Int):List UInt8:=(õ n).map (Ua i n p)
structure Way where
  n:Nat
  hs:List Int
  x:Int
  g:List UInt8
  m:Mat
  steps:List (Mat × Nat)
  w:List UInt8
structure Wy where
  n:Nat
  hs:List Int
  x:Int
  g:List UInt8
  w:List UInt8
def wyM (i:UInt8->UInt8) (e:Wy):Mat:=trF (λt=>Q2 i e.n (e.hs.getD t 0)) e.n e.n 0
def wyR (i:UInt8->UInt8) (e:Wy):Mat × Nat:=N4 i (aug (wyM i e) (Q2 i e.n e.x)) e.n
def Oa (i:UInt8->UInt8) (e:Wy):Bool:=decide (Q2 i e.n e.x=e.g) && decide ((wyM i e).length=e.n) && decide (e.n<=(wyR i e).2) && decide (wx (wyR i e).1 e.n e.n=e.w)
theorem Sr{e:Wy}(h:Oa ivL e=ã):betw e.n e.hs e.x 0=e.w:=by
  rw[P7] at h
  unfold Oa wyR at h
  simp only[aP,ab,Mb] at h
  obtain⟨⟨⟨f,H⟩,b⟩,c⟩:=h
  have E:wo e.n e.hs 0=wyM pm e:=rfl
  have a:kY e.n e.x 0=Q2 pm e.n e.x:=rfl
  rw[betw,E,a]
  have d:¬ (jW (aug (wyM pm e) (Q2 pm e.n e.x)) (wyM pm e).length).2<(wyM pm e).length:=by rw[H];exact Nat.not_lt.2 b
  rw[(F9 d).2,H]
  exact c
def ways:List Wy:=[
  ⟨1,[0],0,[1],[1]⟩,
  ⟨1,[0],1,[27],[27]⟩,
  ⟨1,[0],2,[84],[84]⟩,
  ⟨1,[1],0,[1],[128]⟩,
  ⟨1,[1],1,[27],[1]⟩,
  ⟨1,[1],2,[84],[85]⟩,
  ⟨1,[2],0,[1],[129]⟩,
  ⟨1,[2],1,[27],[26]⟩,
  ⟨1,[2],2,[84],[1]⟩,
  ⟨2,[0,1],0,[1,0],[1,0]⟩,
  ⟨2,[0,1],1,[0,1],[0,1]⟩,
  ⟨2,[0,1],2,[27,84],[27,84]⟩,
  ⟨2,[0,1],3,[84,27],[84,27]⟩,
  ⟨2,[0,2],0,[1,0],[1,0]⟩,
  ⟨2,[0,2],1,[0,1],[26,129]⟩,
  ⟨2,[0,2],2,[27,84],[0,1]⟩,
  ⟨2,[0,2],3,[84,27],[23,26]⟩,
  ⟨2,[0,3],0,[1,0],[1,0]⟩,
  ⟨2,[0,3],1,[0,1],[85,128]⟩,
  ⟨2,[0,3],2,[27,84],[143,85]⟩,
  ⟨2,[0,3],3,[84,27],[0,1]⟩,
  ⟨2,[1,2],0,[1,0],[85,128]⟩,
  ⟨2,[1,2],1,[0,1],[1,0]⟩,
  ⟨2,[1,2],2,[27,84],[0,1]⟩,
  ⟨2,[1,2],3,[84,27],[143,85]⟩,
  ⟨2,[1,3],0,[1,0],[26,129]⟩,
  ⟨2,[1,3],1,[0,1],[1,0]⟩,
  ⟨2,[1,3],2,[27,84],[23,26]⟩,
  ⟨2,[1,3],3,[84,27],[0,1]⟩,
  ⟨2,[2,3],0,[1,0],[245,102]⟩,
  ⟨2,[2,3],1,[0,1],[102,245]⟩,
  ⟨2,[2,3],2,[27,84],[1,0]⟩,
  ⟨2,[2,3],3,[84,27],[0,1]⟩,
  ⟨3,[0,1,2],0,[1,0,0],[1,0,0]⟩,
  ⟨3,[0,1,2],1,[0,1,0],[0,1,0]⟩,
  ⟨3,[0,1,2],2,[0,0,1],[0,0,1]⟩,
  ⟨3,[0,1,2],3,[27,84,161],[27,84,161]⟩,
  ⟨3,[0,1,2],4,[84,27,29],[84,27,29]⟩,
  ⟨3,[0,1,3],0,[1,0,0],[1,0,0]⟩,
  ⟨3,[0,1,3],1,[0,1,0],[0,1,0]⟩,
  ⟨3,[0,1,3],2,[0,0,1],[55,253,130]⟩,
  ⟨3,[0,1,3],3,[27,84,161],[0,0,1]⟩,
  ⟨3,[0,1,3],4,[84,27,29],[77,229,28]⟩,
  ⟨3,[0,1,4],0,[1,0,0],[1,0,0]⟩,
  ⟨3,[0,1,4],1,[0,1,0],[0,1,0]⟩,
  ⟨3,[0,1,4],2,[0,0,1],[169,44,131]⟩,
  ⟨3,[0,1,4],3,[27,84,161],[28,18,160]⟩,
  ⟨3,[0,1,4],4,[84,27,29],[0,0,1]⟩,
  ⟨3,[0,2,3],0,[1,0,0],[1,0,0]⟩,
  ⟨3,[0,2,3],1,[0,1,0],[26,255,129]⟩,
  ⟨3,[0,2,3],2,[0,0,1],[0,1,0]⟩,
  ⟨3,[0,2,3],3,[27,84,161],[0,0,1]⟩,
  ⟨3,[0,2,3],4,[84,27,29],[23,225,26]⟩,
  ⟨3,[0,2,4],0,[1,0,0],[1,0,0]⟩,
  ⟨3,[0,2,4],1,[0,1,0],[85,38,128]⟩,
  ⟨3,[0,2,4],2,[0,0,1],[0,1,0]⟩,
  ⟨3,[0,2,4],3,[27,84,161],[143,22,85]⟩,
  ⟨3,[0,2,4],4,[84,27,29],[0,0,1]⟩,
  ⟨3,[0,3,4],0,[1,0,0],[1,0,0]⟩,
  ⟨3,[0,3,4],1,[0,1,0],[245,192,177]⟩,
  ⟨3,[0,3,4],2,[0,0,1],[106,76,63]⟩,
  ⟨3,[0,3,4],3,[27,84,161],[0,1,0]⟩,
  ⟨3,[0,3,4],4,[84,27,29],[0,0,1]⟩,
  ⟨3,[1,2,3],0,[1,0,0],[85,94,128]⟩,
  ⟨3,[1,2,3],1,[0,1,0],[1,0,0]⟩,
  ⟨3,[1,2,3],2,[0,0,1],[0,1,0]⟩,
  ⟨3,[1,2,3],3,[27,84,161],[0,0,1]⟩,
  ⟨3,[1,2,3],4,[84,27,29],[143,239,85]⟩,
  ⟨3,[1,2,4],0,[1,0,0],[26,59,129]⟩,
  ⟨3,[1,2,4],1,[0,1,0],[1,0,0]⟩,
  ⟨3,[1,2,4],2,[0,0,1],[0,1,0]⟩,
  ⟨3,[1,2,4],3,[27,84,161],[23,190,26]⟩,
  ⟨3,[1,2,4],4,[84,27,29],[0,0,1]⟩,
  ⟨3,[1,3,4],0,[1,0,0],[143,160,103]⟩,
  ⟨3,[1,3,4],1,[0,1,0],[1,0,0]⟩,
  ⟨3,[1,3,4],2,[0,0,1],[95,174,106]⟩,
  ⟨3,[1,3,4],3,[27,84,161],[0,1,0]⟩,
  ⟨3,[1,3,4],4,[84,27,29],[0,0,1]⟩,
  ⟨3,[2,3,4],0,[1,0,0],[239,245,102]⟩,
  ⟨3,[2,3,4],1,[0,1,0],[65,102,245]⟩,
  ⟨3,[2,3,4],2,[0,0,1],[1,0,0]⟩,
  ⟨3,[2,3,4],3,[27,84,161],[0,1,0]⟩,
  ⟨3,[2,3,4],4,[84,27,29],[0,0,1]⟩]
set_option maxRecDepth 100000 in
theorem Rt:(ways.all λe=>Oa ivL e)=true:=by decide +kernel
def wayW (n:Nat) (h:List Int) (x:Nat):List UInt8:=match ways.find? (λe=>decide (e.n=n) && decide (e.hs=h) && decide (e.x=(x:Int))) with
  | some e=>e.w
  | none=>[]
def O9 (n:Nat) (x:Nat):List UInt8:=match ways.find? (λe=>decide (e.n=n) && decide (e.x=(x:Int))) with
  | some e=>e.g
  | none=>[]
def Qr (n:Nat) (h:List Int):Bool:=
  (õ (n+2)).all λx=>decide (ways.find? (λe=>decide (e.n=n) && decide (e.hs=h) && decide (e.x=(x:Int)))≠ç) && decide ((wayW n h x).length=n) &&
    ((õ n).all λt=>decide (xorN (λj=>eN ((O9 n (h.getD j 0).toNat).getD t 0) ((wayW n h x).getD j 0)) n=(O9 n x).getD t 0)) &&
    ((õ n).all λj=>decide (xorN (λi=>eN ((wayW n h i).getD j 0) ((O9 n x).getD i 0)) n=(wayW n h x).getD j 0))
set_option maxRecDepth 100000 in
theorem Sf:([1,2,3].all λn=>(EU n).all (Qr n))=true:=by decide +kernel
theorem L1{n s:Nat}{H:List Int}(k:1<=n/\n<=3)(j:s<=2)(h:rises H ((n:Int)+s-1)=ã)(l:H.length=n):H∈EU n:=by
  rw[rises,û] at h
  simp only[kz,aP,bJ,ab] at h
  have i:n=1\/n=2\/n=3:=by omega
  rcases i with rfl|rfl|rfl
  · match H,l with
    | [a],_=>
      have d:=h 0 σ
      simp at d
      have:a=0\/a=1\/a=2:=by omega
      rcases this with rfl|rfl|rfl<;>simp[EU]
  · match H,l with
    | [a,b],_=>
      have d:=h 0 σ
      have e:=h 1 σ
      simp at d e
      have f:a=0\/a=1\/a=2:=by omega
      have g:b=1\/b=2\/b=3:=by omega
      rcases f with rfl|rfl|rfl<;>rcases g with rfl|rfl|rfl<;>first|(exfalso;omega)|simp[EU]
  · match H,l with
    | [a,b,c],_=>
      have d:=h 0 σ
      have e:=h 1 σ
      have j:=h 2 σ
      simp at d e j
      have f:a=0\/a=1\/a=2:=by omega
      have g:b=1\/b=2\/b=3:=by omega
      have i:c=2\/c=3\/c=4:=by omega
      rcases f with rfl|rfl|rfl<;>rcases g with rfl|rfl|rfl<;>rcases i with rfl|rfl|rfl<;>first|(exfalso;omega)|simp[EU]
theorem OP{n:Nat}{H:List Int}(b:1<=n/\n<=3)(h:H∈EU n):Qr n H=true:=by
  have a:=û.1 Sf n (by have c:n=1\/n=2\/n=3:=(by omega);rcases c with rfl|rfl|rfl<;>simp)
  exact û.1 a H h
theorem GK{n:Nat}{s:List Int}(h:Qr n s=ã){x:Nat}(o:x<n+2):betw n s x 0=wayW n s x/\kY n x 0=O9 n x:=by
  have d:=û.1 h x (by simpa using o)
  simp only[aP,ab] at d
  have l:=d.1.1.1
  have k:∀e∈ways,Oa ivL e=true:=û.1 Rt
  cases H:ways.find? (λe=>decide (e.n=n) && decide (e.hs=s) && decide (e.x=(x:Int))) with
  | none=>exact absurd H l
  | some e=>
    have E:=T? H
    simp only[aP,ab] at E
    obtain⟨⟨b,j⟩,c⟩:=E
    have m:=ņ H
    refine⟨?_,?_⟩
    · have:=Sr (k e m)
      rw[b,j,c] at this
      rw[this,wayW,H]
    · cases a:ways.find? (λe=>decide (e.n=n) && decide (e.x=(x:Int))) with
      | none=>
        have:=List.find?_eq_none.1 a e m
        simp[b,c] at this
      | some f=>
        have F:=T? a
        simp only[aP,ab] at F
        have g:=k f (ņ a)
        rw[P7] at g
        unfold Oa at g
        simp only[aP,ab] at g
        have i:=g.1.1.1
        rw[F.1,F.2] at i
        rw[O9,a]
        exact i
section
variable {n s:Nat}{d:List Int}{x:Int}
theorem Mr(H:1<=n/\n<=3)(b:s<=2)(r:rises d ((n:Int)+s-1)=ã)(l:d.length=n)(c:0<=x/\x<n+2):(betw n d x 0).length=n:=by
  obtain⟨x,rfl⟩:∃k:Nat,x=k:=⟨x.toNat,ω⟩
  have t:=OP H (L1 H b r l)
  have a:x<n+2:=by omega
  have h:=û.1 t x (by simpa using a)
  simp at h
  rw[(GK t a).1]
  exact h.1.1.2
theorem kh{g:Nat->UInt8}:∀ {k:Nat},(∀i,i<k->f i=g i)->xorN f k=xorN g k
  | 0,_=>rfl
  | k+1,h=>by rw[xorN,xorN,kh λi H=>h i ω,h k ω]
theorem Ql(c:1<=n/\n<=3)(e:s<=2)(r:rises d ((n:Int)+s-1)=ã)(l:d.length=n)(m:0<=x/\x<n+2){t:Nat}(g:t<n):
    xorN (λj=>eN ((kY n (d.getD j 0) 0).getD t 0) ((betw n d x 0).getD j 0)) n=(kY n x 0).getD t 0:=by
  obtain⟨x,rfl⟩:∃k:Nat,x=k:=⟨x.toNat,ω⟩
  have h:=OP c (L1 c e r l)
  have H:x<n+2:=by omega
  have a:=û.1 h x (by simpa using H)
  simp only[aP] at a
  have b:=û.1 a.1.2 t (by simpa using g)
  simp only[ab] at b
  rw[(GK h H).1,(GK h H).2,<- b]
  refine kh λj i=>?_
  have f:=pi r j ω
  rw[<- (GK h ω).2,bQ f.1]
end
theorem LP:∀ {a b:List UInt8},a.length=b.length->∀p:Nat,(eH a b).getD p 0=a.getD p 0 ^^^ b.getD p 0
  | [],[],_,p=>by simp[eH]
  | x::a,y::b,h,0=>by simp[eH]
  | x::a,y::b,h,p+1=>by
    have:=LP lN p
    simpa[eH] using this
theorem NA{a:List UInt8}(p:Nat):(cK a c).getD p 0=eN (a.getD p 0) c:=by
  unfold cK
  by_cases h:p<a.length
  · simp[h]
  · have:eN 0 c=0:=by exact jI c
    simp[h,this]
theorem Gp{l:List (List UInt8)}{c:List UInt8}{n:Nat}(h:∀i,i<l.length->(l.getD i []).length=n)(p:Nat):∀ {k:Nat},k<=l.length->(mixTo l c n k).getD p 0=xorN (λj=>eN ((l.getD j []).getD p 0) (c.getD j 0)) k
  | 0,_=>by
    show(å n _).getD p 0=0
    by_cases H:p<n<;>simp[H]
  | k+1,a=>by
    rw[mixTo,LP (by rw[ik,lS h ω,h k ω]),NA,Gp h p ω]
    rfl
theorem wP:∀ {k:Nat},eN (xorN f k) c=xorN (λi=>eN (f i) c) k
  | 0=>by show eN 0 c=0;exact jI c
  | k+1=>by rw[xorN,jS,wP];rfl
theorem J6:eN c (xorN f k)=xorN (λi=>eN c (f i)) k:=by
  rw[xB,wP]
  exact kh λi _=>xB _ _
theorem Hu{g:Nat->UInt8}:∀ {k:Nat},xorN (λi=>f i ^^^ g i) k=xorN f k ^^^ xorN g k
  | 0=>by simp[xorN]
  | k+1=>by
    rw[xorN,xorN,xorN,Hu,Ö,Ö]
    congr 1
    rw[<- Ö,UInt8.xor_comm (xorN g k),Ö]
theorem Fr:∀ {k:Nat},xorN (λ_=>0) k=0
  | 0=>rfl
  | k+1=>by rw[xorN,Fr];rfl
theorem Fs{f:Nat->Nat->UInt8}{m:Nat}:∀ {k:Nat},xorN (λi=>xorN (λj=>f i j) m) k=xorN (λj=>xorN (λi=>f i j) k) m
  | 0=>by
    show(0:UInt8)=xorN (λ_=>0) m
    rw[Fr]
  | k+1=>by
    rw[xorN,Fs]
    show _=xorN (λj=>xorN (λi=>f i j) k ^^^ f k j) m
    rw[Hu]
theorem Pf{a:Nat->UInt8}{b:Nat->Nat->UInt8}{c:Nat->UInt8}{n m:Nat}:
    xorN (λi=>eN (xorN (λj=>eN (a j) (b i j)) m) (c i)) n=xorN (λj=>eN (a j) (xorN (λi=>eN (b i j) (c i)) n)) m:=by
  rw[kh λi _=>?_,Fs]
  · exact kh λj _=>J6.symm
  · rw[wP]
    exact kh λj _=>zN _ _ _
section
variable {n s:Nat}
theorem CM(h:E.length=n+s):rises (cW E n E.length) ((n:Int)+s-1)=true:=by
  have:=CK (x:=E) (n:=n) (k:=E.length)
  rwa[show _-1=(n:Int)+s-1 by omega] at this
theorem O8(h:jq n E=ã):(cW E n E.length).length=n:=by
  have:=vu (x:=E) (n:=n) (k:=E.length)
  simp only[jq,ab] at h
  omega
end
theorem TO{n x}(h:jq n x=â):(cW x n x.length).length<n:=by
  simpa[jq] using h
theorem Ou{n x}(h:jq n x=ã):¬ (cW x n x.length).length<n:=by
  simp only[jq,ab] at h;omega
theorem OV{n x p}(h:jq n x=ã):G1 n x p=decAt n x p:=(BZ (Ou h)).2.2 p
theorem Ph{n x}(h:jq n x=ã):yu n x=tM n x n:=(BZ (Ou h)).2.1
theorem Oc{n:Nat}(H:k<=E.length)(h:¬ ((k:Int)<E.length)\/¬ (((cW E n k).length:Int)<n)):
    cW E n E.length=cW E n k/\thereTo E n E.length=thereTo E n k:=by
  rcases h with h|h
  · rw[show k=E.length by omega];exact⟨rfl,rfl⟩
  · have:=vu (x:=E) (n:=n) (k:=k)
    exact NN ω _ H
theorem Sep.nilF{w:ä}{a:Type}[Rp a](h:Sep M N J F w):Sep M N J (F++[Wk.Ab â [.slice ç 0 0] ([]:List a) []]) w:=
  h.look (.inr (.inl ⟨rfl,rfl,rfl⟩)) (by simp[Wk.Ab])
def nils (y:List (List UInt8)) (k:Nat):Nat:=my (λi=>if(y.getD i []).length=0 then 1 else 0) k
theorem yR{n:Nat}:∀k,(cW I n k).length<n->(cW I n k).length+nils I k=k
  | 0,_=>rfl
  | k+1,h=>by
    have e:nils I (k+1)=nils I k+if(I.getD k []).length=0 then 1 else 0:=rfl
    by_cases H:0<(I.getD k []).length/\(cW I n k).length<n
    · rw[(li H).1,aO] at h ⊢
      have i:=yR k H.2
      rw[e,ac ω]
      simp at h ⊢
      omega
    · rw[(lz H).1] at h ⊢
      have i:=yR k h
      rw[e,ae ω]
      omega
theorem Bl{x:List UInt8}{m:Nat}:∀ {k:Nat},(chunks x m k).flatten=x.take (k*m)
  | 0=>by simp[chunks]
  | k+1=>by
    rw[<- AU,ŧ,Bl,Nat.succ_mul,List.take_add]
    simp[cut]
section
variable {n s:Nat}{D:List UInt8}
def Some_ (n s:Nat) (D:List UInt8) (y:List (List UInt8)):Prop:=y.length=n+s/\∀i,i<n+s->y.getD i []=encK D n i\/y.getD i []=[]
theorem Dh(h:D.length=n*4){k:Int}:(encK D n k).length=4:=by rw[encK,lS (lG h) (aN _)]
theorem Nr(l:D.length=n*4)(h:Some_ n s D I):Part I:=λi H=>by
  rcases h.2 i (by rw[<- h.1];exact H) with e|e
  · rw[e,Dh l];exact .inl rfl
  · rw[e];exact .inr rfl
theorem RC(h:Some_ n s D I)(H:nils I (n+s)<=s):jq n I=true:=by
  rw[jq,ab]
  have:=yR (I:=I) (n:=n) I.length
  rw[h.1] at this ⊢
  omega
theorem SP(i:1<=n/\n<=3)(f:s<=2)(H:D.length=n*4)(h:Some_ n s D I)(l:jq n I=ã){p:Nat}(w:p<n+s):decAt n I p=encK D n p:=by
  have b:=Nr H h
  have c:=O8 l
  have r:=CM h.1
  have u:=kP (x:=I) (n:=n) (k:=I.length)
  have o:=GG (n:=n) b
  refine js (d:=0) (by rw[AP b,Dh H]) λq x=>?_
  rw[decAt,Gp o q (aN _),u,c,encK,Gp (lG H) q (aN _),fJ]
  rw[kh (g:=λj=>eN _ ((betw n _ (p:Nat) 0).getD j 0)) λj v=>?_,Pf]
  · exact kh λt m=>by rw[Ql i f r c ω m]
  · have a:=qk (X:=I) (n:=n) (k:=I.length) j ω
    rw[a.2.2.2.2]
    rcases h.2 ((cW I n I.length).getD j 0).toNat (by have:=h.1;omega) with e|e
    · rw[e,encK,bQ a.1,Gp (lG H) q (aN _),fJ]
    · have:=a.2.2.2.1
      rw[e] at this
      exact absurd this σ
theorem Sb(b:1<=n/\n<=3)(a:s<=2)(l:D.length=n*4)(h:Some_ n s D I)(k:jq n I=ã):tM n I n=D:=by
  have e:tM n I n=(chunks D 4 n).flatten:=by
    rw[tM]
    congr 1
    refine List.map_congr_left λi H=>?_
    have H:i<n:=by simpa using H
    rw[SP b a l h k ω,H8 l H,m8 H]
  rw[e,Bl,Ĕ ω]
end
section
variable {w:ä}
theorem Sep.lookS{c d:Type}[Rp c][Rp d](h:Sep M N J F w)(e:Ext No w O)(j:Nat){s C a}{y:d}(g:F[j]? = á (Wk.Ab s C y a)){v:List è}{x:c}{f}(o:own â O v x f)(p:∀b∈f,b∈a\/w.heap.size<=b):
    Sep M N J (F++[Wk.Ab â v x f]) O:=
  (h.to e).look o λb H m=>(p b H).elim (λH=>h.ap _ (æ g) b H m) λH=>by have:=h.lt b m;omega
end
section
variable {n:Nat}{c:Code}{w:ä}
theorem LX{k:Type}[Rp k]{a:Type}{V:è}{l:List Nat}(f:a->List (List k))(b:a)(H:Sep M N J F w)(i:Nat)(u:J[i]? = á (A4 [V] ([]:List View) l))(j:Nat)(y:F[j]? = á (rows ([]:List View) ([]:List (List k)) []))(m:f b=[])(t:Nat)(A:look L t=á V)
  (G:List Nat->Prop) (s:G []) (e:Env) (r:sub L e) (E:a->Env) (I:a->Prop) (o:a->Nat) (z:sub L (E b)) (q:I b)
  (R:∀g v p C d w,Sep M N (J.set i (A4 [v] C p)) (F.set j (rows C (f g) d)) w->C.length=(f g).length->G d->I g ->
   W P n c (again (λx:a × è × List Nat × List View × List Nat=>(t,x.2.1)::(E x.1++e)) (λx O=>Sep M N (J.set i (A4 [x.2.1] x.2.2.2.1 x.2.2.1)) (F.set j (rows x.2.2.2.1 (f x.1) x.2.2.2.2)) O/\x.2.2.2.1.length=(f x.1).length/\G x.2.2.2.2/\I x.1) (λx=>o x.1) (g,v,p,C,d) Q) ((t,v)::(E g++e)) w):W P n (.loop c) Q L w:=
 cp (λx:a × è × List Nat × List View × List Nat=>_::(E x.1++e)) (λx O=>Sep M N _ _ O/\x.2.2.2.1.length=(f x.1).length/\G x.2.2.2.2/\I x.1) (λx=>o x.1) (b,V,l,[],[])
  ⟨A,pQ z r⟩ ⟨by rw[r9 u,m,r9 y];exact H,by simp[m],s,q⟩ λx w h=>R x.1 x.2.1 x.2.2.1 x.2.2.2.1 x.2.2.2.2 w h.1 h.2.1 h.2.2.1 h.2.2.2
end
def blkAt (G:List Drive) (r i:Nat):List UInt8:=if(G.getD i à).Au=ã then[] else((G.getD i à).Ai.getD r à).Bytes
def mD (G:List Drive) (r k:Nat):List (List UInt8):=(õ k).map (blkAt G r)
def mW (z:Wld) (g r:Int):List (List UInt8):=mD (z.A2.getD g.toNat []) r.toNat (z.A2.getD g.toNat []).length
section
variable {G:List Drive}{d:Nat}
theorem vk:(mD G d k).length=k:=by simp[mD]
theorem E7(h:(G.getD k à).Au=ã):mD G d (k+1)=mD G d k++[[]]:=by simp only[mD,č,Û,Ï,List.map_nil];rw[blkAt,ae h]
theorem Hw(h:(G.getD k à).Au=â):mD G d (k+1)=mD G d k++[((G.getD k à).Ai.getD d à).Bytes]:=by
  simp only[mD,č,Û,Ï,List.map_nil];rw[blkAt,ac wZ]
theorem Cq(h:i<k):(mD G d k).getD i []=blkAt G d i:=by simp[mD,h]
def BB (x:List (List UInt8)):Nat->Nat
  | 0=>0
  | k+1=>if 0<(x.getD k []).length then BB x k+1 else BB x k
theorem IN{x:List (List UInt8)}{n:Nat}:∀k,(cW x n k).length=min n (BB x k)
  | 0=>by simp[cW,BB]
  | k+1=>by
    have i:=IN (x:=x) (n:=n) k
    rw[BB]
    by_cases h:0<(x.getD k []).length
    · rw[ae h]
      by_cases H:(cW x n k).length<n
      · rw[(li ⟨h,H⟩).1];simp;omega
      · rw[(lz ω).1];omega
    · rw[ac h,(lz ω).1];exact i
theorem FN{m:Nat}(h:∀i,i<m->(G.getD i à).Au=â->0<((G.getD i à).Ai.getD d à).Bytes.length):∀k,k<=m->BB (mD G d m) k+(wipedTo G k).length=k
  | 0,_=>rfl
  | k+1,b=>by
    have I:=FN h k ω
    rw[BB,Cq ω]
    by_cases H:(G.getD k à).Au=ã
    · rw[vy H,blkAt,ae H,ac σ];simp;omega
    · have a:(G.getD k à).Au=false:=by simpa using H
      rw[uJ a,blkAt,ac H,ae (h k ω a)];omega
end
section
variable {g:Int}
theorem Dk(s:z.A0.ok=ã)(G:b7 z=ã)(e:ins g 0 (z.A0.A2+z.A0.A5-1)=ã)(r:ins row 0 (z.A0.Rows-1)=ã):
    (mW z g row).length=z.A0.Data.toNat+z.A0.Af.toNat/\Part (mW z g row)/\jq z.A0.Data.toNat (mW z g row) = !dP z g:=by
  have p:=bm s
  have f:=fI G
  have l:=bH.1 e
  have o:=bH.1 r
  obtain⟨m,d⟩:=f.2 g.toNat ω
  have b:=λi h=>by
    obtain⟨k,a⟩:=d i h
    exact(qj (a row.toNat ω)).2.2
  have H:(mW z g row).length=(z.A2.getD g.toNat []).length:=vk
  refine⟨ω,λi h=>?_,?_⟩
  · rw[H] at h
    unfold mW
    rw[Cq h,blkAt]
    split
    · exact .inr rfl
    · exact .inl (b i h)
  · have c:=FN (λi h _=>by rw[b i h];omega) (z.A2.getD g.toNat []).length (aN _)
    have j:=IN (x:=mW z g row) (n:=z.A0.Data.toNat) (mW z g row).length
    rw[H] at j
    unfold jq dP re
    rw[H]
    change BB (mW z g row) _+_=_ at c
    rw[<- decide_not]
    exact decide_eq_decide.2 ω
def pI (z:Wld) (g r:Int):List UInt8:=yu z.A0.Data.toNat (mW z g r)
end
section
variable {g most:Int}{xs:List UInt8}
def uY (z:Wld) (g:Int):Int:=if jk z g=0 then if dP z g=ã then 10 else 0 else jk z g
theorem l4(h:z.A0.ok=ã)(H:b7 z=ã)(b:ins g 0 (z.A0.A2+z.A0.A5-1)=ã)(r:ins row 0 (z.A0.Rows-1)=ã)(d:dP z g=â):((pI z g row).length:Int)=z.A0.Data*4:=by
  have s:=bm h
  obtain⟨_,p,a⟩:=Dk h H b r
  have k:jq z.A0.Data.toNat (mW z g row)=true:=by rw[a,d];rfl
  unfold pI yu
  rw[ae k,vA p]
  omega
end
section
variable {g:Int}{d:Nat}
def S5 (z:Wld) (g:Int) (i:Nat):List (List UInt8):=jX z.A0.Data.toNat (z.A0.Data.toNat+z.A0.Af.toNat) (pI z g i)
def T9 (z:Wld) (g:Int) (i d:Nat):Bool:=
  ((z.A2.getD g.toNat []).getD d à).Au || decide ((((z.A2.getD g.toNat []).getD d à).Ai.getD i à).Bytes=(S5 z g i).getD d [])
def Kl (z:Wld) (g:Int):Bool := !dP z g && decide (∀i,i<z.A0.Rows.toNat->∀d,d<(z.A2.getD g.toNat []).length->T9 z g i d=ã)
theorem KB(H:dP z g=â)(h:∀i,i<z.A0.Rows.toNat->∀d,d<(z.A2.getD g.toNat []).length->T9 z g i d=ã):Kl z g=true:=by
  rw[Kl,H,aU h];rfl
def QD (z:Wld) (g:Int):Bool:=decide (c7 z=0) && ins g 0 (z.A0.A2+z.A0.A5-1) && Kl z g
end
section
variable {w:ä}
theorem Sep.packB(h:Sep M N J F w)(j:Nat){a:Option ô}{n c:Nat}{B:List UInt8}{f:List Nat}(q:Int)(H:J[j]? = á (Wk.A4 [.slice a n c] B f))(g:Ak q):
    Sep M N (J.set j (Wk.A4 [.int .i64 q,.slice a n c] (⟨q,B⟩:Block) f)) F w:=by
  have o:=h.A4 j H
  obtain rfl:=gA o
  have e:f.Nodup:=h.Aj H
  exact h.set H (q:=Wk.A4 [.int .i64 q,.slice a B.length c] (⟨q,B⟩:Block) f) Ext.refl (Block.own_mk (x:=⟨q,B⟩) g o) e (λb d => .inl d)
end
def dH (z:Wld) (g i:Nat):Drive:=(z.A2.getD g []).getD i à
def lq (g i r:Nat) (b:Block) (z:Wld):Wld:=
  {z with A2:=z.A2.set g ((z.A2.getD g []).set i ⟨(dH z g i).Au,(dH z g i).Ai.set r b⟩)}
def lY (g i r:Nat) (b:Block) (z:Wld):Wld:=pk z (lq g i r b z)
section
variable {g d:Nat}
theorem jH(h:z.Ok):(lq g i d b z).Ok:=h
end
def addedL (z:Wld) (g:Int) (r:Rec):List (List UInt8):=
  jX z.A0.Data.toNat (z.A0.Data.toNat+z.A0.Af.toNat) (cK r.Ad (cauchy (8+(g-z.A0.A2)) r.Group))
def fl (z:Wld) (r:Rec):List (List UInt8):=jX z.A0.Data.toNat (z.A0.Data.toNat+z.A0.Af.toNat) r.Data
def ud (z:Wld) (g:Int) (r:Rec):List (List UInt8):=if ins g 0 (z.A0.A2-1)=ã then fl z r else addedL z g r
def ig (z:Wld) (g i r:Nat):Block:=(dH z g i).Ai.getD r à
def gE (z:Wld) (g:Int) (i:Nat) (r:Rec) (R:List UInt8):List UInt8:=if ins g 0 (z.A0.A2-1)=ã then R else eH R (ig z g.toNat i r.Row.toNat).Bytes
def iM (z:Wld) (g i:Nat) (r:Rec):Bool:=(dH z g i).Au || decide (r.Seq<=(ig z g i r.Row.toNat).Stamp)
def redoI (rows:List (List UInt8)) (g:Int) (r:Rec):Nat->Nat->Wld->Bool × Wld
  | 0,_,z=>(ã,z)
  | n + 1,i,z=>if iM z g.toNat i r=ã then redoI rows g r n (i+1) z else
      if cN z=ã then(â,lY g.toNat i r.Row.toNat ⟨r.Seq,gE z g i r (rows.getD i [])⟩ z)
      else redoI rows g r n (i+1) (lY g.toNat i r.Row.toNat ⟨r.Seq,gE z g i r (rows.getD i [])⟩ z)
def lX (z:Wld):Nat:=z.A0.Data.toNat+z.A0.Af.toNat
def redoP (z:Wld) (g:Int) (r:Rec):Bool × Wld:=redoI (ud z g r) g r (lX z) 0 z
section
variable {g d n:Nat}{r:Rec}{e:List (List UInt8)}
theorem CC{a:Type}{x:List a}{d:a}(h:k<x.length):x.set k (x.getD k d)=x:=by
  rw[bX h];exact List.set_getElem_self h
theorem jR(h:g<z.A2.length)(H:i<(z.A2.getD g []).length)(r:d<((z.A2.getD g []).getD i à).Ai.length):lq g i d (ig z g i d) z=z:=by
  unfold lq ig dH
  rw[CC r]
  have e:_=(z.A2.getD g []).getD i default:=rfl
  rw[CC H,CC h]
theorem vE{g:Int}(h:¬ i<n):redoI e g r (n-i) i z=(ã,z):=by rw[show n-i=0 by omega];rfl
theorem wQ{g:Int}(h:i<n)(c:iM z g.toNat i r=ã):redoI e g r (n-i) i z=redoI e g r (n-(i+1)) (i+1) z:=by
  rw[show n-i=(n-(i+1))+1 by omega,redoI,ae c]
theorem yH{g:Int}(h:i<n)(c:iM z g.toNat i r=â)(p:cN z=â):redoI e g r (n-i) i z=redoI e g r (n-(i+1)) (i+1) (lY g.toNat i r.Row.toNat ⟨r.Seq,gE z g i r (e.getD i [])⟩ z):=by
  rw[show n-i=(n-(i+1))+1 by omega,redoI,ac (by rw[c];simp),ac (by rw[p];simp)]
theorem sN{g:Int}(h:i<n)(c:iM z g.toNat i r=â)(p:cN z=ã):redoI e g r (n-i) i z=(â,lY g.toNat i r.Row.toNat ⟨r.Seq,gE z g i r (e.getD i [])⟩ z):=by
  rw[show n-i=(n-(i+1))+1 by omega,redoI,ac (by rw[c];simp),ae p]
theorem iD(h:g<z.A2.length)(a:i<(z.A2.getD g []).length):
    (lY g i d b z).A2.length=z.A2.length/\((lY g i d b z).A2.getD g []).length=(z.A2.getD g []).length/\∀j,j≠i->dH (lY g i d b z) g j=dH z g j:=by
  unfold lY pk
  split
  · exact⟨rfl,rfl,λ_ _=>rfl⟩
  · have e:(kR (lq g i d b z)).A2=z.A2.set g _:=rfl
    have E:(z.A2.set g ((z.A2.getD g []).set i ⟨(dH z g i).Au,(dH z g i).Ai.set d b⟩)).getD g []=(z.A2.getD g []).set i ⟨(dH z g i).Au,(dH z g i).Ai.set d b⟩:=by rw[d8,ae ⟨rfl,h⟩]
    refine⟨by rw[e,bE],by rw[e,E,bE],λj H=>?_⟩
    unfold dH
    rw[e,E,d8,ac (λq=>H q.1)]
theorem lE{g:Int}(s:z.A0.ok=ã)(G:b7 z=ã)(j:ins g 0 (z.A0.A2+z.A0.A5-1)=ã)(h:recF z.A0 r=0)(k:r.Kind=2):
    g.toNat<z.A2.length/\(z.A2.getD g.toNat []).length=lX z/\(∀i,i<lX z->r.Row.toNat<(dH z g.toNat i).Ai.length/\((dH z g.toNat i).Ai.getD r.Row.toNat à).Bytes.length=4) /\
      r.Data.length=z.A0.Data.toNat*4/\(r.Ad.length:Int)=z.A0.Data*4/\(1<=r.Seq/\r.Seq<=1000000000/\0<=r.Row/\0<=r.Group/\r.Group<z.A0.A2):=by
  have S:=bm s
  have p:=bH.1 j
  obtain⟨l,d⟩:=fI G
  obtain⟨m,e⟩:=d g.toNat ω
  have o:lX z=z.A0.Data.toNat+z.A0.Af.toNat:=rfl
  have b:ins r.Kind 1 4=true:=by rw[k];rfl
  unfold recF at h
  rw[ae b] at h
  have q:ins r.Seq 1 1000000000=true:=by
    cases c:ins r.Seq 1 1000000000
    · rw[c] at h;simp at h
    · rfl
  rw[ae q] at h
  have H:fm z.A0 r=0:=by
    by_cases c:fm z.A0 r≠0
    · rw[ae c] at h;exact absurd h c
    · omega
  have v:mv z.A0 r=true:=by
    unfold fm at H
    rw[ac ω,ae k] at H
    cases c:mv z.A0 r
    · rw[c] at H;simp at H
    · rfl
  unfold mv at v
  simp only[aP,ab,bH] at v
  have t:=bH.1 q
  refine⟨ω,ω,λi b=>?_,ω,v.2,ω⟩
  obtain⟨n,f⟩:=e i ω
  have a:r.Row.toNat<(dH z g.toNat i).Ai.length:=by unfold dH;omega
  exact⟨a,(qj (f r.Row.toNat (by unfold dH at a;exact a))).2.2⟩
theorem DD:(lY g i d b z).A0=z.A0:=by unfold lY pk;split<;>rfl
theorem iy:z.Aa<=(lY g i d b z).Aa/\(lY g i d b z).Aa<=z.Aa+1:=by
  unfold lY pk;split
  · show z.Aa<=z.Aa/\z.Aa<=z.Aa+1;omega
  · show z.Aa<=z.Aa+1/\z.Aa+1<=z.Aa+1;omega
theorem AE(h:cN z=â):(lY g i d b z).Down=z.Down:=by unfold lY;rw[eW h];rfl
theorem TD(h:((z.A2.getD g []).getD i à).Au=ã):iM z g i r=true:=by unfold iM dH;rw[h];rfl
theorem Ui(h:r.Seq<=(((z.A2.getD g []).getD i à).Ai.getD r.Row.toNat à).Stamp):iM z g i r=true:=by unfold iM ig dH;rw[aU h];simp
theorem uA(h:((z.A2.getD g []).getD i à).Au=â)(H:¬ r.Seq<=(((z.A2.getD g []).getD i à).Ai.getD r.Row.toNat à).Stamp):iM z g i r=false:=by
  unfold iM ig dH;rw[h,a8 H];rfl
theorem uP(h:cN z=â):lY g i d b z=kR (lq g i d b z):=by exact eW h
end
def vC (z:Wld) (g:Int) (r:Rec):Bool:=decide (recF z.A0 r≠0) || (decide (r.Kind≠2) || (ins g 0 (z.A0.A2-1) && decide (r.Group≠g)))
def Hr (z:Wld) (g:Int) (r:Rec):WldResult:=
  if wS z g 0=0 then if vC z g r=ã then⟨1,noWld⟩ else⟨if(redoP z g r).1=ã then 0 else 9,(redoP z g r).2⟩ else⟨wS z g 0,noWld⟩
section
variable {g:Int}{r:Rec}
theorem Nz(h:z.A0.ok=ã):Ub z g 0=jk z g:=by
  have s:=bm h
  unfold Ub jk
  rw[show ins 0 0 _=ã from bH.2 ω]
  simp
theorem HG(h:wS z g 0=0)(H:vC z g r=â):Hr z g r=⟨if(redoP z g r).1=ã then 0 else 9,(redoP z g r).2⟩:=by rw[Hr,ae h,ac (by rw[H];simp)]
theorem HM(h:upF z=0):wS z g 0=jk z g:=by
  rw[wS,ac ω,Nz (c5 (uL h).1).1]
end
section
variable {d:Type}[Rp d] {w:ä}
def rowsT (v:List View) (x:List (List d)) (g:List Nat):Rsc:=⟨g,λw=>dg ã w (v.map View.val) x g,λh k=>h.st k,λh=>h.lt⟩
theorem I7:∀ {X:List (List d)}{c f},dg ã w c X f->∃C:List View,C.length=X.length/\dg ã w c C []/\dg ã w (C.map View.val) X f
  | [],_,_,h=>⟨[],rfl,rfl,h⟩
  | x::X,c,f,⟨F,b,e,H,g⟩=>by
    obtain⟨A,p,a⟩:=aL H
    obtain⟨C,E,i,j⟩:=I7 g
    rw[a] at H
    exact⟨⟨A,x.length,p⟩::C,by simp[E],⟨[],[],rfl,⟨a,rfl⟩,i⟩,⟨F,b,e,H,j⟩⟩
theorem Jt:∀ {C:List View}{X:List (List d)}{c f F},dg ã w c C f->dg ã w (C.map View.val) X F->C.length=X.length->f=[]/\dg ã w c X F
  | [],[],_,_,_,h,p,_=>⟨h,p⟩
  | [],x::X,_,_,_,_,_,hl=>by simp at hl
  | v::C,[],_,_,_,_,_,hl=>by simp at hl
  | v::C,x::X,c,f,F,⟨G,l,E,⟨a,g⟩,j⟩,⟨b,i,e,H,k⟩,hl=>by
    obtain⟨r,R⟩:=Jt j k y9
    refine⟨by rw[E,g,r];rfl,⟨b,i,e,?_,R⟩⟩
    rw[show c.take (sz (List d))=[v.val] from a];exact H
theorem RE{a n c}{x:List (List d)}{p}(h:own ã w [.slice a n c] x p):∃(C:List View) (f F:List Nat),C.length=x.length/\p=f++F/\own ã w [.slice a n c] C f/\dg ã w (C.map View.val) x F:=by
  rcases h with ⟨v,_⟩|⟨e,rfl,rfl⟩|⟨b,o,g,r,T,i,s,h1,j,k,l,h5,m,q,t⟩
  · cases v
  · exact⟨[],[],[],rfl,rfl,.inr (.inl ⟨e,rfl,rfl⟩),rfl⟩
  · obtain⟨C,el,u,H⟩:=I7 t
    exact⟨C,[b],s,el,by rw[j];rfl,.inr (.inr ⟨b,o,g,r,T,i,[],Dn,rfl,k,l,zx,m,q,u⟩),H⟩
theorem RY{a n c}{x:List (List d)}{F f}(h:own ã w [.slice a n c] C F)(H:dg ã w (C.map View.val) x f)(E:C.length=x.length):own ã w [.slice a n c] x (F++f):=by
  rcases h with ⟨v,_⟩|⟨e,rfl,rfl⟩|⟨b,o,g,r,T,i,y,j,k,l,m,p,q,s,t⟩
  · cases v
  · obtain rfl:x=[]:=í (by simpa using E.symm)
    rw[show f=[] from H];exact .inr (.inl ⟨e,rfl,rfl⟩)
  · obtain⟨e,u⟩:=Jt t H E
    exact .inr (.inr ⟨b,o,g,r,T,i,f,by rw[<- E];exact j,by rw[k,e];rfl,l,m,by rw[<- E];exact p,q,s,u⟩)
theorem DA:∀ {C:List View}{X:List (List d)}{f F} {u:View}{x:List d},dg ã w (C.map View.val) X f->own ã w [u.val] x F->C.length=X.length->dg ã w ((C++[u]).map View.val) (X++[x]) (f++F)
  | [],[],f,F,u,x,h,H,_=>by
    rw[show f=[] from h]
    exact⟨F,[],σ,H,rfl⟩
  | [],y::X,_,_,_,_,_,_,hl=>by simp at hl
  | v::C,[],_,_,_,_,_,_,hl=>by simp at hl
  | v::C,y::X,f,F,u,x,⟨a,b,e,c,g⟩,H,hl=>by
    refine⟨a,b++F,by rw[e,Î],c,?_⟩
    exact DA g H y9
theorem DC:∀ {C E:List View}{x Y:List (List d)}{f},dg ã w ((C++E).map View.val) (x++Y) f->C.length=x.length->∃F,dg â w (C.map View.val) x F/\∀b∈F,b∈f
  | [],E,[],Y,f,_,_=>⟨[],rfl,σ⟩
  | [],_,y::x,_,_,_,hl=>by simp at hl
  | v::C,_,[],_,_,_,hl=>by simp at hl
  | v::C,E,y::x,Y,f,⟨a,j,e,H,c⟩,hl=>by
    obtain⟨F,g,i⟩:=DC c y9
    refine⟨a++F,⟨a,F,rfl,Rp.weak H,g⟩,λb h=>?_⟩
    rw[e]
    rcases aI.1 h with h|h
    · exact aI.2 (.inl h)
    · exact aI.2 (.inr (i b h))
end
section
variable {d:Type}[Rp d] {w:ä}
theorem Sep.toRows(h:Sep M N J F w)(i:Nat){A n c}{x:List (List d)}{p}(H:J[i]? = á (Wk.A4 [.slice A n c] x p)):
    ∃(C:List View) (f a:List Nat),C.length=x.length/\Sep M N (J.set i (Wk.A4 [.slice A n c] C f)++[gone,rowsT C x a]) F w:=by
  obtain⟨C,f,a,e,E,g,j⟩:=RE (h.A4 i H)
  have l:=(ñ.1 H).1
  have P:=j
  have b:=h.part i H [Wk.A4 [.slice A n c] C f,rowsT C x a] (all_cons g (all_cons P σ)) (by simp[blocks,Wk.A4,rowsT,E])
  exact⟨C,f,a,e,b.perm (l6 l)⟩
theorem Sep.ofRows(h:Sep M N J F w)(i j:Nat){a n c}{x:List (List d)}{f k}(l:J[i]? = á (Wk.A4 [.slice a n c] C f))(r:J[j]? = á (rowsT C x k))(q:î j i=â)(E:C.length=x.length):
    ∃p,Sep M N ((J.set j gone).set i (Wk.A4 [.slice a n c] x p)) F w:=by
  have H:=h.join2 i j l r q
  have g:((J.set j gone).set i (cat (Wk.A4 [.slice a n c] C f) (rowsT C x k)))[i]? = á _:=
    ÿ (by have:=(ñ.1 l).1;simpa using this)
  have m:=H.r i g
  have s:=H.Aj g
  have e:=H.conv i (Wk.A4 [.slice a n c] x _) g (RY m.1 m.2 E) (λb o=>o) s
  rw[Ò] at e
  exact⟨_,e⟩
theorem Sep.rowsSnoc(h:Sep M N J F w)(j i:Nat){a n c}{X:List (List d)}{x:List d}{g f}(l:J[j]? = á (rowsT C X g))(p:J[i]? = á (Wk.A4 [.slice a n c] x f))(q:î i j=â)(E:C.length=X.length):
    ∃G,Sep M N ((J.set i gone).set j (rowsT (C++[⟨a,n,c⟩]) (X++[x]) G)) F w:=by
  have H:=h.join2 j i l p q
  have k:((J.set i gone).set j (cat (rowsT C X g) (Wk.A4 [.slice a n c] x f)))[j]? = á _:=
    ÿ (by have:=(ñ.1 l).1;simpa using this)
  have m:=H.r j k
  have r:=H.Aj k
  have s:dg ã w ((C++[(⟨a,n,c⟩:View)]).map View.val) _ _:=DA m.1 m.2 E
  have e:=H.conv j (rowsT _ _ _) k s (λb o=>o) r
  rw[Ò] at e
  exact⟨_,e⟩
theorem Sep.rowsHead(h:Sep M N J F w)(j:Nat){u:View}{x:List d}{X:List (List d)}{g}(i:J[j]? = á (rowsT (u::C) (x::X) g)):
    ∃a c l G,u=⟨a,x.length,c⟩/\Sep M N (J.set j gone++[Wk.A4 [.slice a x.length c] x l,rowsT C X G]) F w:=by
  obtain⟨f,b,e,m,n⟩:dg ã w _ _ g:=h.r j i
  have H:own ã w [u.val] x f:=m
  obtain⟨a,c,E⟩:=aL H
  have k:u=⟨a,x.length,c⟩:=by
    cases u
    obtain⟨rfl,rfl,rfl⟩:=E;rfl
  subst k
  have p:=n
  exact⟨a,c,f,b,rfl,h.part j i [Wk.A4 [.slice a x.length c] x f,rowsT C X b] (all_cons H (all_cons p σ)) (by simp[blocks,Wk.A4,rowsT,e])⟩
theorem Sep.rowsSees(h:Sep M N J F w)(i j:Nat){a n c}{E:List View}{x y:List (List d)}{f g}(k:J[i]? = á (Wk.A4 [.slice a n c] C f))(l:J[j]? = á (rowsT (C++E) (x++y) g))(e:C.length=x.length):
    Ag w [.slice a n c] x:=by
  obtain⟨m,H,_⟩:=DC (h.r j l) e
  obtain⟨p,b,_⟩:=yP (h.A4 i k) H e
  exact⟨p,b⟩
theorem Sep.rowsSees2(h:Sep M N J F w)(i j:Nat){a n c}{u E:List View}{r x y:List (List d)}{f g}(k:J[i]? = á (Wk.A4 [.slice a n c] C f))(l:J[j]? = á (rowsT u r g))(e:C.length=x.length)(H:u=C++E)(b:r=x++y):
    Ag w [.slice a n c] x:=by
  subst H b;exact h.rowsSees i j k l e
instance:Inhabited View:=⟨⟨ç,0,0⟩⟩
theorem ES{a n c}{u:List View}{f}(h:own s w [.slice a n c] u f)(k:Nat)(H:k<u.length):
    ∃b o,a=á ⟨b,o,ç⟩/\w.cell? ⟨b,o+k*1,ç⟩=á (u.getD k à).val:=by
  obtain⟨b,o,C,f,d,e,h3,_⟩:=gh h k H
  rw[bX H]
  exact⟨b,o,d,e 0 u[k].val zT⟩
theorem La{a:Type}{x:List a}{d:a}(h:k<x.length):x.drop k=x.getD k d::x.drop (k+1):=by
  rw[bX h];exact List.drop_eq_getElem_cons h
theorem Sep.rowsAtK(h:Sep M N J F w)(j:Nat){u:List View}{x:List (List d)}{g}(k:Nat)(b:J[j]? = á (rowsT (u.drop k) (x.drop k) g))(i:k<x.length)(E:u.length=x.length):
    ∃a c f G,(u.getD k à).val = .slice a (x.getD k []).length c/\Sep M N (J.set j gone++[Wk.A4 [.slice a (x.getD k []).length c] (x.getD k []) f,rowsT (u.drop (k+1)) (x.drop (k+1)) G]) F w:=by
  rw[La (show k<u.length by omega),La i] at b
  obtain⟨a,c,f,G,e,H⟩:=h.rowsHead j b
  exact⟨a,c,f,G,by rw[e];rfl,H⟩
end
theorem EV{g r:Nat}:lq g i r b (kR z)=kR (lq g i r b z):=rfl
section
variable {g d:Nat}{s:A0}
theorem Ce{a:Type}{x:List a}{p:a->Bool}{d:a}(h:∀k,k<x.length->p (x.getD k d)=ã):((õ x.length).all λk=>p (x.getD k d))=true:=by
  rw[û]
  intro k hk
  exact h k oi
theorem HO{x:Drive}(h:fK s x=ã)(c:gK b=ã):fK s ⟨x.Au,x.Ai.set d b⟩=true:=by
  simp only[fK,aP,ab] at h
  have a:=nH h.2
  unfold fK
  rw[aU wW]
  refine Ce λk H=>?_
  rw[bE] at H
  rw[d8]
  split
  · exact c
  · exact a k H
theorem BF{X:List Drive}{x:Drive}(h:iK s X=ã)(b:fK s x=ã):iK s (X.set i x)=true:=by
  simp only[iK,aP,ab] at h
  have a:=nH h.2
  unfold iK
  rw[aU wW]
  refine Ce λk H=>?_
  rw[bE] at H
  rw[d8]
  split
  · exact b
  · exact a k H
theorem Hx(h:b7 z=ã)(l:gK b=ã)(m:g<z.A2.length)(n:i<(z.A2.getD g []).length):b7 (lq g i d b z)=true:=by
  simp only[b7,aP,ab] at h
  have H:=nH h.2
  have a:=H g m
  have f:fK z.A0 (dH z g i)=true:=by
    have c:=a
    simp only[iK,aP] at c
    exact nH c.2 i n
  have j:=BF (i:=i) a (HO (d:=d) f l)
  unfold b7 lq
  rw[aU wW]
  refine Ce λk e=>?_
  rw[bE] at e
  rw[d8]
  split
  · exact j
  · exact H k e
theorem If(h:b7 z=ã)(H:gK b=ã)(a:g<z.A2.length)(c:i<(z.A2.getD g []).length):b7 (lY g i d b z)=true:=by
  unfold lY pk;split
  · exact h
  · exact Hx h H a c
end
theorem J0{p:Rec->Bool}{v:List Ac}(h:fO p (v.map Ac.r) = -1):mt p v=v:=by
  refine(vz).eq_of_length ?_
  have H:=congrArg List.length (zg (p:=p) (v:=v))
  rw[J1 h,aS,aS] at H
  exact H
def sP (z:Wld) (x:List Rec) (g:Int) (r:Rec):Bool:=decide (r.Kind≠2) || ((ins g 0 (z.A0.A2-1) && decide (r.Group≠g)) || x.any (dnP r.Seq g))
noncomputable def TX (z:Wld) (g:Int):List Rec:=wv (sP z (cI z) g) (cI z)
section
variable {g:Int}{r:Rec}{e:List (List UInt8)}
theorem NK{R:List UInt8}(h:R.length=4)(H:(ig z g.toNat i r.Row.toNat).Bytes.length=4):(gE z g i r R).length=4:=by
  unfold gE;split
  · exact h
  · rw[ip ω];exact h
theorem D5{g r:Nat}:(lY g i r b z).A3=z.A3:=by unfold lY pk;split<;>rfl
theorem uT(q:1<=r.Seq/\r.Seq<=1000000000)(l:0<=r.Row/\r.Row<z.A0.Rows):∀ {n i:Nat}{z':Wld},z'.A0=z.A0->(∀k,k<i+n->(e.getD k []).length=4)->b7 z'=ã->g.toNat<z'.A2.length->i+n<=(z'.A2.getD g.toNat []).length ->
    (redoI e g r n i z').2.A0=z.A0/\b7 (redoI e g r n i z').2=ã/\(redoI e g r n i z').2.A3=z'.A3/\(redoI e g r n i z').2.Aa<=z'.Aa+n
  | 0,_,z',H,_,h,_,_=>⟨H,h,rfl,by show z'.Aa<=z'.Aa+_;omega⟩
  | n+1,i,z',H,R,h,f,D=>by
    obtain⟨B,m⟩:=fI h
    obtain⟨C,o⟩:=m g.toNat f
    obtain⟨p,s⟩:=o i ω
    have w:r.Row.toNat<((z'.A2.getD g.toNat []).getD i à).Ai.length:=by rw[H] at p;omega
    have t:=qj (s r.Row.toNat w)
    have u:gK ⟨r.Seq,gE z' g i r (e.getD i [])⟩=true:=by
      unfold gK
      dsimp only
      rw[bH.2 ω,aU (NK (R i ω) t.2.2)];rfl
    have j:=If (i:=i) (d:=r.Row.toNat) h u f ω
    obtain⟨x,y,_⟩:=iD (b:=⟨r.Seq,gE z' g i r (e.getD i [])⟩) (d:=r.Row.toNat) f (show i<(z'.A2.getD g.toNat []).length by omega)
    have A:=(iy (g:=g.toNat) (i:=i) (d:=r.Row.toNat) (b:=⟨r.Seq,gE z' g i r (e.getD i [])⟩) (z:=z')).2
    have F:(lY g.toNat i r.Row.toNat ⟨r.Seq,gE z' g i r (e.getD i [])⟩ z').A0=z.A0:=by rw[DD];exact H
    rw[redoI]
    split
    · obtain⟨a,b,c,d⟩:=uT q l (n:=n) (i:=i+1) H (λk v=>R k ω) h f ω
      exact⟨a,b,c,ω⟩
    · split
      · exact⟨F,j,D5,θ⟩
      · obtain⟨a,b,c,d⟩:=uT q l (n:=n) (i:=i+1) F (λk v=>R k ω) j ω ω
        exact⟨a,b,by rw[c,D5],ω⟩
end
section
variable {g:Int}{r:Rec}
theorem KA(s:z.A0.ok=ã)(H:b7 z=ã)(a:ins g 0 (z.A0.A2+z.A0.A5-1)=ã)(m:recF z.A0 r=0)(b:r.Kind=2):∀k,k<lX z->((ud z g r).getD k []).length=4:=λk e=>by
  have d:lX z=z.A0.Data.toNat+z.A0.Af.toNat:=rfl
  obtain⟨_,_,_,h,c,_⟩:=lE s H a m b
  unfold ud;split
  · exact oX h k ω
  · exact oX zM k ω
theorem uz(s:z.A0.ok=ã)(h:b7 z=ã)(f:ins g 0 (z.A0.A2+z.A0.A5-1)=ã)(m:recF z.A0 r=0)(j:r.Kind=2):
    (redoP z g r).2.A0=z.A0/\b7 (redoP z g r).2=ã/\(redoP z g r).2.A3=z.A3/\(redoP z g r).2.Aa<=z.Aa+5:=by
  have S:=bm s
  have A:lX z=z.A0.Data.toNat+z.A0.Af.toNat:=rfl
  obtain⟨e,u,o,v,x,H⟩:=lE s h f m j
  have w:r.Row<z.A0.Rows:=by
    have p:=(o 0 ω).1
    obtain⟨_,q⟩:=fI h
    obtain⟨y,l⟩:=q g.toNat e
    have t:=(l 0 ω).1
    unfold dH at p;omega
  obtain⟨a,b,c,d⟩:=uT ⟨H.1,H.2.1⟩ ⟨H.2.2.1,w⟩ (n:=lX z) (i:=0) (z':=z) rfl (λk B=>KA s h f m j k ω) h e ω
  unfold redoP
  exact⟨a,b,c,ω⟩
end
section
variable {g:Int}{r:Rec}{rs:List Rec}
theorem wh{a b:Wld}(H:a.A0=b.A0)(c:a.A2=b.A2)(h:b7 b=ã):b7 a=true:=by unfold b7 at *;rw[H,c];exact h
end
theorem LM{x:List Rec}{g:Int}{r:Rec}(H:0<=g):
    sP z x g r = !((decide (r.Kind=2) && (decide (g >= z.A0.A2) || decide (r.Group=g))) && !x.any (dnP r.Seq g)):=by
  have e:ins g 0 (z.A0.A2-1) = !decide (g >= z.A0.A2):=by
    by_cases c:g >= z.A0.A2
    · rw[aU c]
      cases h:ins g 0 _
      · rfl
      · have:=bH.1 h;omega
    · rw[a8 c,bH.2 ω];rfl
  unfold sP
  rw[e]
  simp only[decide_not,ř,Bool.not_or,Bool.not_not,ĸ]
def AllR (P:Rec->Prop) (z:Wld):Prop:=∀t∈z.A3,∀r∈t.Ah,P r
section
variable {r:Rec}{P:Rec->Prop}{t:Nat}
theorem AllR.cnt(h:AllR P z)(a:r∈cI z):P r:=by
  obtain⟨k,j,hk,H,e⟩:=F7 a
  refine h (z.A3.getD k à) Gs r ?_
  rw[<- e,bX H];exact bx _
theorem AllR.imp{Q:Rec->Prop}(h:AllR P z)(k:∀r,P r->Q r):AllR Q z:=λt a r H=>k r (h t a r H)
theorem AllR.layT(h:AllR P z)(d:P r):AllR P (layT t r z):=λu e q b=>by
  rcases List.mem_or_eq_of_mem_set e with a|a
  · exact h u a q b
  · subst a
    rcases aI.1 b with H|H
    · by_cases c:t<z.A3.length
      · exact h _ (by rw[bX c];exact bx _) q H
      · rw[show z.A3.getD t à=à from by simp[Í (Nat.le_of_not_lt c)]] at H
        cases H
    · rw[aD] at H;rw[H];exact d
theorem AllR.app(h:AllR P z)(H:P r):AllR P (gc t r z):=by
  unfold gc pk;split
  · exact h
  · exact h.layT H
theorem AllR.layZ(h:AllR P z)(H:P r):AllR P (layZ z r):=by
  unfold Wk.layZ lj
  repeat' split
  · exact h
  · exact h
  · exact(h.app H).app H
theorem tm(h:c7 z=0):AllR (λr=>recF z.A0 r=0) z:=λt s q p=>by
  obtain⟨k,g,i⟩:=ð s
  obtain⟨j,f,l⟩:=ð p
  have E:z.A3.getD k à=t:=by rw[bX g];exact i
  have e:(z.A3.getD k à).Ah.getD j à=q:=by rw[E,bX f];exact l
  have m:j<(z.A3.getD k à).Ah.length:=by rw[E];exact f
  have H:=(c5 h).2.2.2.2
  have d:gV z.A0 z.A3 z.A3.length=0:=by
    unfold il at H
    split at H
    · cases H
    · split at H
      · next c=>exact absurd H c
      · omega
  have a:gV z.A0 z.A3 (k+1)=0:=by
    rcases Ē (gV z.A0 z.A3 (k+1)=0) with c|c
    · exact c
    · rw[py c _ g] at d;exact absurd d c
  have o:gV z.A0 z.A3 k=0:=by
    rcases Ē (gV z.A0 z.A3 k=0) with c|c
    · exact c
    · rw[py c _ (S? k)] at a;exact absurd a c
  rw[ks o] at a
  have b:ij z.A0 (z.A3.getD k à).Ah (j+1)=0:=by
    rcases Ē (ij z.A0 (z.A3.getD k à).Ah (j+1)=0) with c|c
    · exact c
    · rw[pE c _ m] at a;exact absurd a c
  have n:ij z.A0 (z.A3.getD k à).Ah j=0:=by
    rcases Ē (ij z.A0 (z.A3.getD k à).Ah j=0) with c|c
    · exact c
    · rw[pE c _ (S? j)] at b;exact absurd b c
  rw[kG n,e] at b
  exact b
def SeqOK (z:Wld):Prop:=AllR (λr=>0<=r.Seq/\r.Seq<=1000000000) z
theorem rR{s:A0}(h:recF s r=0):1<=r.Seq/\r.Seq<=1000000000:=by
  by_cases hk:ins r.Kind 1 4=ã
  · by_cases H:ins r.Seq 1 1000000000=ã
    · exact bH.1 H
    · rw[xJ hk (by simpa using H)] at h;exact absurd h ω
  · rw[vi oi] at h;exact absurd h ω
theorem nT(h:c7 z=0):SeqOK z:=(tm h).imp λr H=>by have:=rR H;omega
noncomputable def nxQ (z:Wld):Int:=qT (cI z)+1
theorem lK(h:SeqOK z):1<=nxQ z/\nxQ z<=1000000001:=by
  unfold nxQ qT
  by_cases c:(cI z).length=0
  · rw[í c]
    show 1<=(0:Int)+1/\(0:Int)+1<=1000000001
    omega
  · have H:(cI z).getD ((cI z).length-1) à∈cI z:=by rw[bX ω];exact bx _
    have:=AllR.cnt h H
    omega
def seqR (r:Rec) (q:Int):Rec:=⟨r.Kind,q,r.Name,r.Length,r.Group,r.Row,r.Rows,r.Data,r.Ad⟩
noncomputable def nxC (z:Wld) (r:Rec):Int:=if 1000000000<nxQ z then 2 else mg z (seqR r (nxQ z))
noncomputable def nxZ (z:Wld) (r:Rec):Wld:=if 1000000000<nxQ z then z else layZ z (seqR r (nxQ z))
theorem lx(h:1000000000<nxQ z):nxC z r=2/\nxZ z r=z:=⟨ae h,ae h⟩
theorem kE(h:¬ 1000000000<nxQ z):nxC z r=mg z (seqR r (nxQ z))/\nxZ z r=layZ z (seqR r (nxQ z)):=⟨ac h,ac h⟩
theorem OH:nxC z r=0\/nxC z r=2\/nxC z r=9:=by
  unfold nxC;split
  · exact .inr (.inl rfl)
  · exact FP
theorem Gj(h:r.Ok)(H:Ak q):(seqR r q).Ok:=⟨h.1,H,h.2.2⟩
theorem jh:(layZ z r).A0=z.A0/\(layZ z r).A2=z.A2/\(layZ z r).Stop=z.Stop:=by
  unfold layZ lj gc pk
  repeat' split
  all_goals exact⟨rfl,rfl,rfl⟩
theorem Fb(h:mg z r=0):(layZ z r).Down=z.Down:=by
  obtain⟨H,a⟩:=Fu h
  rw[(fM H).2,MG a]
theorem pX:(nxZ z r).A0=z.A0/\(nxZ z r).A2=z.A2:=by
  unfold nxZ;split
  · exact⟨rfl,rfl⟩
  · exact⟨jh.1,jh.2.1⟩
theorem QS(h:nxC z r=0):(nxZ z r).Down=z.Down:=by
  unfold nxC at h;unfold nxZ
  split at h
  · cases h
  · next c=>rw[ac c];exact Fb h
theorem Nq(H:z.A3.length=2):(nxZ z r).A3.length=2/\(nxZ z r).Aa<=z.Aa+2/\z.Aa<=(nxZ z r).Aa/\qD (nxZ z r)<=qD z+2*AZ r:=by
  unfold nxZ;split
  · exact⟨H,ω,ω,ω⟩
  · have h:=Ej (r:=seqR r (nxQ z)) H
    exact h
theorem TJ(h:z.Ok)(H:z.Aa<=1500000000):(nxZ z r).Ok:=by
  unfold nxZ;split
  · exact h
  · exact RO h H
theorem Mj(h:AllR P z)(H:¬ 1000000000<nxQ z->P (seqR r (nxQ z))):AllR P (nxZ z r):=by
  unfold nxZ;split
  · exact h
  · next c=>exact h.layZ (H c)
theorem RZ(h:SeqOK z):SeqOK (nxZ z r):=Mj h λc=>by
  have:=lK h
  show 0<=nxQ z/\nxQ z<=1000000000
  omega
end
noncomputable def bgR (z:Wld) (g r:Int):Rec:=⟨4,0,⟨#[]⟩,0,g,r,[],å (z.A0.Data*4).toNat 0,BQ z g⟩
noncomputable def bgC (z:Wld) (g r:Int):Int:=if qt z g=ã then if qZ z g r=ã then 7 else nxC z (bgR z g r) else 10
noncomputable def bgZ (z:Wld) (g r:Int):Wld:=if qt z g=ã then if qZ z g r=ã then z else nxZ z (bgR z g r) else z
section
variable {g:Int}
theorem LA(h:qt z g=â):bgC z g row=10/\bgZ z g row=z:=⟨ac gX,ac gX⟩
theorem IL(h:qt z g=ã)(H:qZ z g row=ã):bgC z g row=7/\bgZ z g row=z:=⟨by rw[bgC,ae h,ae H],by rw[bgZ,ae h,ae H]⟩
theorem Tk(h:qt z g=ã)(H:qZ z g row=â):bgC z g row=nxC z (bgR z g row)/\bgZ z g row=nxZ z (bgR z g row):=
  ⟨by rw[bgC,ae h,ac (by simp[H])],by rw[bgZ,ae h,ac (by simp[H])]⟩
theorem Pi:(BQ z g).length<=(z.A0.A2+z.A0.A5).toNat:=by
  unfold BQ;split
  · unfold FB;rw[ph];exact aN _
  · exact ý _
theorem T5(H:Ak g)(a:Ak row):(bgR z g row).Ok:=by
  have h:Ak 0:=by unfold Ak;omega
  exact⟨by show Ak 4;unfold Ak;omega,h,Gq,h,H,a⟩
theorem Tr(h:z.A0.ok=ã):fH (bgR z g row)<=30:=by
  have s:=bm h
  have:=Pi (z:=z) (g:=g)
  show 0+0+(å (z.A0.Data*4).toNat _).length+(BQ z g).length<=30
  rw[aZ]
  omega
end
def codeF (c:Int) (y:Wld):WldResult:=if c=0\/c=9 then⟨c,y⟩ else⟨c,noWld⟩
section
variable {c:Int}{y:Wld}{n:Nat}
theorem QU(h:c=0\/c=9):codeF c y=⟨c,y⟩:=ae h
theorem Rl(h:c≠0/\c≠9):codeF c y=⟨c,noWld⟩:=ac (λq=>by omega)
end
def xI (z:Wld) (a c:Int) (y:Wld):WldResult:=if upF z=0 then if a=0 then codeF c y else⟨a,noWld⟩ else⟨upF z,noWld⟩
section
variable {y:Wld}{a c:Int}{n:Nat}
theorem xE(h:upF z≠0):xI z a c y=⟨upF z,noWld⟩:=ac h
theorem r6(h:upF z=0)(H:a≠0):xI z a c y=⟨a,noWld⟩:=by rw[xI,ae h,ac H]
theorem u4(h:upF z=0)(H:a=0)(b:c≠0/\c≠9):xI z a c y=⟨c,noWld⟩:=by rw[xI,ae h,ae H,Rl b]
theorem yL(h:upF z=0)(H:a=0)(b:c=0\/c=9):xI z a c y=⟨c,y⟩:=by rw[xI,ae h,ae H,QU b]
end
noncomputable def nsV (z:Wld):Int:=if 1000000000<nxQ z then 0 else nxQ z
noncomputable def nsC (z:Wld):Int:=if 1000000000<nxQ z then 2 else 0
section
variable {d:List Ac}
theorem E5(h:d.length=0):qT (d.map Ac.r)=0:=by
  rw[í h];rfl
theorem LV:qT (d.map Ac.r)=(d.getD (d.length-1) à).r.Seq:=by
  unfold qT
  rw[aS]
  by_cases h:d.length=0
  · rw[í h];rfl
  · rw[ey rfl ω]
theorem TK(h:d.map Ac.r=cI z)(_:0<d.length):nxQ z=(d.getD (d.length-1) à).r.Seq+1:=by
  unfold nxQ;rw[<- h,LV]
theorem HI(H:d.map Ac.r=cI z)(h:d.length=0):nxQ z=1:=by
  unfold nxQ;rw[<- H,E5 h];rfl
end
section
variable {g:Int}{r:Rec}{n:Nat}
theorem yB(H:z.A3.length=2)(h:(z.A3.getD 0 à).Ah.length<=1000/\(z.A3.getD 1 à).Ah.length<=1000):∀k,(z.A3.getD k à).Ah.length<=200000:=λk=>by
  rcases k with _|_|k
  · omega
  · show(z.A3.getD 1 à).Ah.length<=_;omega
  · rw[show z.A3.getD _ à=à from by simp[Í (show z.A3.length<=k+1+1 by omega)]]
    exact ý _
end
section
variable {n:Nat}{w:ä}{h:List ą}{d:Nat}{g:Option (Nat × Bool)}{r:Type}[Rp r]
theorem xT{t e:ì}{x:Â}{z:è}{m:Nat}{y:r}(l:Wn T n L ⟨á d,.makeSlice t x x,Y,p,X,g⟩)(i:ò d n=ã)(j:P.underlying t=á (.slice e))(f:Ty P e z (sz r) V)(q:∀w,own ã w z.cells.toList y [])
    (o:evL L x=á (.int .i64 m)) (a:V*m<=281474976710656) (c:m<=Ë) (H:Sep M N J F w)
    (k:∀b O,Ext No w O->w.heap.size<=b->Sep M N (J++[A4 [.slice (á ⟨b,0,ç⟩) (å m y).length m] (å m y) [b]]) F O->RL P n T Q h ((d,.slice (á ⟨b,0,ç⟩) (å m y).length m)::L) O) :
    RL P n T Q (⟨á d,.makeSlice t x x,Y,p,X,g⟩::h) L w:=by
  have e:(å m y).length=m:=aZ
  rw[e] at k
  exact mj l i j f q o a c H k
end
section
variable {g:Int}{r:Rec}
theorem wF{rows:List (List UInt8)}:∀ {n i:Nat}{z:Wld},(redoI rows g r n i z).1=ã->(redoI rows g r n i z).2.Down=z.Down
  | 0,_,_,_=>rfl
  | n+1,i,z,h=>by
    rw[redoI] at h ⊢
    split
    · next c=>rw[ae c] at h;exact wF h
    · next c=>
      rw[ac c] at h
      split
      · next C=>rw[ae C] at h;cases h
      · next C=>rw[ac C] at h;rw[wF h,AE (by simpa using C)]
theorem J3(h:(redoP z g r).1=ã):(redoP z g r).2.Down=z.Down:=wF h
end
noncomputable def cD (z:Wld) (g r:Int) (x:List UInt8):Rec:=⟨2,nxQ z,⟨#[]⟩,0,g,r,[],x,eH (pI z g r) x⟩
noncomputable def mwP (z:Wld) (g r:Int) (x:List UInt8):Int × Wld:=
  if 1000000000<nxQ z\/eU z 2=ã then(2,z)
  else if mg z (cD z g r x)≠0 then(mg z (cD z g r x),layZ z (cD z g r x))
  else if(redoP (layZ z (cD z g r x)) g (cD z g r x)).1=â then(9,(redoP (layZ z (cD z g r x)) g (cD z g r x)).2)
  else(mg (redoP (layZ z (cD z g r x)) g (cD z g r x)).2 (kA (nxQ z) g),layZ (redoP (layZ z (cD z g r x)) g (cD z g r x)).2 (kA (nxQ z) g))
section
variable {g:Int}{d:List UInt8}
theorem tH(h:1000000000<nxQ z\/eU z 2=ã):mwP z g row d=(2,z):=ae h
theorem GB(h:¬ (1000000000<nxQ z\/eU z 2=ã))(H:mg z (cD z g row d)≠0):mwP z g row d=(mg z (cD z g row d),layZ z (cD z g row d)):=by rw[mwP,ac h,ae H]
theorem Mv(h:¬ (1000000000<nxQ z\/eU z 2=ã))(a:mg z (cD z g row d)=0)(H:(redoP (layZ z (cD z g row d)) g (cD z g row d)).1=â):
    mwP z g row d=(9,(redoP (layZ z (cD z g row d)) g (cD z g row d)).2):=by rw[mwP,ac h,ac ω,ae H]
theorem DY(h:¬ (1000000000<nxQ z\/eU z 2=ã))(a:mg z (cD z g row d)=0)(H:(redoP (layZ z (cD z g row d)) g (cD z g row d)).1=ã):
    mwP z g row d=(mg (redoP (layZ z (cD z g row d)) g (cD z g row d)).2 (kA (nxQ z) g),layZ (redoP (layZ z (cD z g row d)) g (cD z g row d)).2 (kA (nxQ z) g)):=by
  rw[mwP,ac h,ac ω,ac (by simp[H])]
theorem Q7:0<=(mwP z g row d).1/\(mwP z g row d).1<=9:=by
  unfold mwP
  repeat' split
  · omega
  · have:=FP (z:=z) (r:=cD z g row d);omega
  · omega
  · have:=FP (z:=(redoP (layZ z (cD z g row d)) g (cD z g row d)).2) (r:=kA (nxQ z) g);omega
theorem zu:eU z 2=ã↔rL z<2:=by
  unfold eU rL
  simp
  omega
theorem uC(h:1<=nxQ z/\nxQ z<=1000000000)(H:ins g 0 (z.A0.A2-1)=ã)(r:ins row 0 (z.A0.Rows-1)=ã)(x:(d.length:Int)=z.A0.Data*4)(l:((pI z g row).length:Int)=z.A0.Data*4):recF z.A0 (cD z g row d)=0:=by
  refine lA rfl (bH.2 h) ?_ ?_
  · have m:mv z.A0 (cD z g row d)=true:=by
      unfold mv cD
      rw[H,r,aU x,aU (by rw[ip ω];exact l)];rfl
    unfold fm
    rw[ac (show ¬ (cD z g row d).Kind=1 by show ¬ (2:Int)=1;decide),ae (show(cD z g row d).Kind=2 from rfl),ae m]
  · unfold bareOK noName
    unfold cD
    simp
theorem QT(h:z.A0.ok=ã)(x:(d.length:Int)=z.A0.Data*4)(H:((pI z g row).length:Int)=z.A0.Data*4):fH (cD z g row d)<=30:=by
  have s:=bm h
  show 0+0+d.length+(eH _ d).length<=30
  rw[ip ω];omega
end
section
variable {g:Int}{d:List UInt8}{r:Rec}{t u:Nat}
def Vd (z:Wld) (q g r:Int) (x:List UInt8):Rec:=⟨2,q,⟨#[]⟩,0,g,r,[],x,eH (pI z g r) x⟩
theorem Ei:((gc t r z).A3.getD u à).Ah.length<=(z.A3.getD u à).Ah.length+(if u=t then 1 else 0):=by
  unfold gc pk;split
  · show(z.A3.getD u à).Ah.length<=_;omega
  · show((z.A3.set t _).getD u à).Ah.length<=_
    rw[d8];split
    · next h=>rw[h.1];simp
    · omega
theorem CX(a:u<2):((layZ z r).A3.getD u à).Ah.length<=(z.A3.getD u à).Ah.length+1:=by
  unfold layZ;split
  · omega
  · unfold lj;split
    · show(z.A3.getD u à).Ah.length<=_;omega
    · have h:=Ei (t:=0) (u:=u) (r:=r) (z:=z)
      have H:=Ei (t:=1) (u:=u) (r:=r) (z:=gc 0 r z)
      rcases u with _|_|u
      · rw[ae rfl] at h;rw[ac dv] at H;omega
      · rw[ac dv] at h;rw[ae rfl] at H
        omega
      · omega
theorem Lc(h:z.A0.ok=ã)(H:b7 z=ã)(T:z.A3.length=2)(q:SeqOK z)(v:¬ 1000000000<nxQ z)(b:ins g 0 (z.A0.A2-1)=ã)(r:ins row 0 (z.A0.Rows-1)=ã)(x:(d.length:Int)=z.A0.Data*4)(m:dP z g=â):
    fH (cD z g row d)<=30/\(layZ z (cD z g row d)).A0.ok=ã/\b7 (layZ z (cD z g row d))=ã/\ins g 0 ((layZ z (cD z g row d)).A0.A2+(layZ z (cD z g row d)).A0.A5-1)=ã/\recF (layZ z (cD z g row d)).A0 (cD z g row d)=0 /\
      (layZ z (cD z g row d)).A3.length=2/\(layZ z (cD z g row d)).Aa<=z.Aa+2/\(redoP (layZ z (cD z g row d)) g (cD z g row d)).2.A3=(layZ z (cD z g row d)).A3/\(redoP (layZ z (cD z g row d)) g (cD z g row d)).2.Aa<=z.Aa+7:=by
  have S:=bm h
  have u:=bH.1 b
  have c:ins g 0 (z.A0.A2+z.A0.A5-1)=true:=bH.2 ω
  have l:=l4 h H c r m
  have w:=lK q
  have n:=uC ω b r x l
  have o:=QT h x l
  obtain⟨e,E,p⟩:=jh
  obtain⟨F,k,s,t⟩:=Ej T
  have j:(layZ z (cD z g row d)).A0.ok=true:=by rw[e];exact h
  have a:=wh e E H
  have f:ins g 0 ((layZ z (cD z g row d)).A0.A2+(layZ z (cD z g row d)).A0.A5-1)=true:=by rw[e];exact c
  have i:recF (layZ z (cD z g row d)).A0 (cD z g row d)=0:=by rw[e];exact n
  obtain⟨y,A,Q,B⟩:=uz j a f i rfl
  exact⟨o,j,a,f,i,F,k,Q,ω⟩
theorem Ma(H:Ak q)(a:Ak g)(b:Ak row):(Vd z q g row d).Ok:=by
  have h:Ak 0:=by unfold Ak;omega
  exact⟨by show Ak 2;unfold Ak;omega,H,Gq,h,a,b⟩
end
section
variable {y p:Wld}
theorem P4(h:eU z 2=â):dI z=false:=by
  unfold eU at h;unfold dI
  simp at h ⊢
  omega
theorem Es(h:eU z 2=â)(H:(y.A3.getD 0 à).Ah.length<=(z.A3.getD 0 à).Ah.length+1)(a:(y.A3.getD 1 à).Ah.length<=(z.A3.getD 1 à).Ah.length+1)(e:p.A3=y.A3):dI p=false:=by
  unfold eU at h;unfold dI
  rw[e]
  simp only[bz,aa] at h ⊢
  omega
end
end Go.Wk
namespace Go.Wk
open Rp (sz own)
open Go.MapKept (IsKey sameNow_of_keys)
variable {x:Â}{k:List (Ac × Nat)}{P:Æ}{q:Ac × Nat}{o s:ì}{b:Nat}
def qV (p:Ac × Nat):MapEntry:=⟨.string p.1.r.Name,.agg p.1.cs.toArray,p.2⟩
def nv (p:List (Ac × Nat)):Array MapEntry:=(p.map qV).toArray
def mJ (v:Ac) (c:Nat):List (Ac × Nat)->List (Ac × Nat)
  | []=>[(v,c)]
  | p::P=>if p.1.r.Name=v.r.Name then(v,p.2)::P else p::mJ v c P
def nk (n:ByteArray) (P:List (Ac × Nat)):Bool:=P.any λp=>decide (p.1.r.Name=n)
theorem Pj{n:ByteArray}:∀(P:List (Ac × Nat)) (i:Nat),
    (ň .string (.string n) (P.map qV) i=á ç/\nk n P=â) \/
    ∃j p,ň .string (.string n) (P.map qV) i=á (á (i+j,(qV p).val))/\P[j]? = á p/\nk n P=ã/\p.1.r.Name=n/\∀v c,v.r.Name=n->mJ v c P=P.set j (v,p.2)
  | [],i => .inl ⟨rfl,rfl⟩
  | p::P,i=>by
    obtain⟨r,l,k⟩:=sameNow_of_keys (d := .string) (a := .string n) (b := .string p.1.r.Name) trivial trivial
    by_cases e:p.1.r.Name=n
    · have f:=k.2 (by rw[e])
      subst f
      refine .inr ⟨0,p,?_,rfl,by simp[nk,e],e,λv c hv=>by rw[mJ,ae (by rw[e,hv])];rfl⟩
      have h:Instr.sameNow .string _ (qV p).key=á true:=l
      simp only[Ï,ň,h,Nat.add_zero]
    · have f:r=false:=by
        cases t:r with
        | false=>rfl
        | true=>have:=k.1 t;simp at this;exact absurd this.symm e
      subst f
      have h:Instr.sameNow .string _ (qV p).key=á false:=l
      have g:nk n (p::P)=nk n P:=by simp[nk,e]
      rcases Pj (n:=n) P (i+1) with ⟨H,h2⟩|⟨j,q,H,h2,m,o,s⟩
      · exact .inl ⟨by simp only[Ï,ň,h,H],by rw[g,h2]⟩
      · refine .inr ⟨j+1,q,by simp only[Ï,ň,h,H];congr 3;omega,sr,by rw[g,m],o,λv c hv=>?_⟩
        rw[mJ,ac (by rw[hv];exact e),s v c hv];rfl
theorem Ea{v:Ac}{c:Nat}:∀ {P:List (Ac × Nat)},nk v.r.Name P=â->mJ v c P=P++[(v,c)]
  | [],_=>rfl
  | p::P,h=>by
    simp only[nk,Ū,bz,aa] at h
    rw[mJ,ac h.1,Ea (by simpa[nk] using h.2)];rfl
section
variable {w:ä}{r c:Nat}{a:List (Ac × Nat)}{d:ì}{v:Ac}
theorem SN(m:P.underlying d=á (.map o s))(k:P.underlying o=á .string)(f:w.heap[r]? = á (.map (nv a) c)):
    ∃C,c<=C/\(nk v.r.Name a=â->c<C)/\(D? d (.map (á r)) (.string v.r.Name) (.agg v.cs.toArray)).run P w = .ok () (put w r (.map (nv (mJ v c a)) C)):=by
  have K:IsKey .string (.string v.r.Name):=trivial
  have l:(nv a).toList=a.map qV:=by simp[nv]
  rcases Pj a 0 with ⟨H,b⟩|⟨j,p,H,b,g,i,n⟩
  · refine⟨c+1,ω,(λ_=>by omega),?_⟩
    rw[<- l] at H
    have e:(nv a).push ⟨.string v.r.Name,.agg v.cs.toArray,c⟩=nv (mJ v c a):=by
      rw[Ea b];unfold nv;simp[qV]
    simp[D?,þ m,Ĺ f,E? k K,U? k H,g? _ f]
    rw[e];rfl
  · refine⟨c,aN _,(λh=>by rw[g] at h;cases h),?_⟩
    rw[<- l] at H
    have t:(nv a)[j]? = á (qV p):=by rw[<- Ş,l,A?,b];rfl
    have e:(nv a).modify j (λe=>{ e with key := .string v.r.Name,val := .agg v.cs.toArray })=nv (mJ v c a):=by
      rw[n v c rfl]
      apply Array.toList_inj.1
      rw[Array.toList_modify]
      show(a.map qV).modify j _=(List.map qV _).toArray.toList
      rw[List.map_set]
      apply ĉ
      intro q
      rw[List.getElem?_modify,List.getElem?_set]
      by_cases e:j=q
      · subst e
        rw[A?,b]
        have x:j<(a.map qV).length:=by rw[aS];exact(ñ.1 b).1
        rw[ae x]
        simp[qV]
      · simp[e]
    have u:(qV p).key = .string v.r.Name:=by show Value.string p.1.r.Name=_;rw[i]
    simp[D?,þ m,Ĺ f,E? k K,U? k H,t,u,Go.MapKept.run_keyThatStays K,g? _ f]
    rw[<- e]
    rfl
end
structure MapOK (ps:List (Ac × Nat)) (c:Nat):Prop where
  names:(ps.map λp=>p.1.r.Name).Nodup
  stamps:(ps.map Ł).Nodup
  lt:∀p∈ps,p.2<c
theorem D0{v:Ac}{c:Nat}:∀ {P:List (Ac × Nat)},nk v.r.Name P=ã->(mJ v c P).map (λp=>p.1.r.Name)=P.map λp=>p.1.r.Name
  | [],h=>by cases h
  | p::P,h=>by
    rw[mJ]
    split
    · next e=>simp[e]
    · next e=>rw[Ï,D0 (by simpa[nk,e] using h)];rfl
theorem uZ{v:Ac}{c:Nat}:∀ {P:List (Ac × Nat)},nk v.r.Name P=ã->(mJ v c P).map Ł=P.map Ł
  | [],h=>by cases h
  | p::P,h=>by
    rw[mJ]
    split
    · rfl
    · next e=>rw[Ï,uZ (by simpa[nk,e] using h)];rfl
theorem Su{n:ByteArray}{P:List (Ac × Nat)}(h:nk n P=â):n ∉ P.map λp=>p.1.r.Name:=λH=>by
  obtain⟨p,a,e⟩:=bY.1 H
  have:nk n P=true:=by rw[nk,ī];exact⟨p,a,by simp[e]⟩
  rw[h] at this;cases this
theorem pK{c:Type}{l:List c}{x:c}(h:l.Nodup)(f:x ∉ l):(l++[x]).Nodup:=
  List.nodup_append.2 ⟨h,σ,λa d b H e=>by rw[aD] at H;subst H;subst e;exact f d⟩
theorem MapOK.upd{P:List (Ac × Nat)}{c C:Nat}{v:Ac}(h:MapOK P c)(f:c<=C)(a:nk v.r.Name P=â->c<C):MapOK (mJ v c P) C:=by
  cases hv:nk v.r.Name P with
  | false=>
    have b:=a hv
    rw[Ea hv]
    refine⟨by rw[Û];exact pK h.names (Su hv),by
      rw[Û]
      refine pK h.stamps λm=>?_
      obtain⟨p,H,e⟩:=bY.1 m
      have:=h.lt p H
      omega,λp H=>?_⟩
    rcases aI.1 H with H|H
    · have:=h.lt p H;omega
    · rw[aD] at H;subst H;exact b
  | true=>
    refine⟨by rw[D0 hv];exact h.names,by rw[uZ hv];exact h.stamps,λp H=>?_⟩
    have:p.2∈(mJ v c P).map Ł:=Ũ H
    rw[uZ hv] at this
    obtain⟨q,d,e⟩:=bY.1 this
    have:=h.lt q d
    omega
theorem MapOK.nil:MapOK [] 0:=⟨.nil,.nil,λp h=>by cases h⟩
theorem sO{a b:Type}{f:a->b}{l:List a}(h:(l.map f).Nodup):l.Nodup:=List.Pairwise.of_map f (λ_ _ H e=>H (by rw[e])) h
theorem MapOK.nodup{p:List (Ac × Nat)}{c:Nat}(h:MapOK p c):p.Nodup:=sO h.stamps
theorem MapOK.inj{P:List (Ac × Nat)}{c:Nat}(h:MapOK P c){p:Ac × Nat}(g:p∈P)(i:q∈P)(e:p.2=q.2):p=q:=by
  have y:∀ {l:List _},(l.map Ł).Nodup->p∈l->q∈l->p=q:=by
    intro l
    induction l with
    | nil=>intro _ h;cases h
    | cons a l I=>
      intro H f d
      rw[Ï,ù] at H
      rcases aM.1 f with b|K
      · rcases aM.1 d with E|k
        · rw[b,E]
        · exact absurd (bY.2 ⟨q,k,by rw[<- e,b]⟩:a.2∈l.map Ł) H.1
      · rcases aM.1 d with E|k
        · exact absurd (bY.2 ⟨p,K,by rw[e,E]⟩:a.2∈l.map Ł) H.1
        · exact I H.2 K k
  exact y h.stamps g i
def je (d:List (Ac × Nat)):Array Nat:=(d.map Ł).toArray
theorem QJ{p:List (Ac × Nat)}:(leftOf (nv p) (je k)).toList=(p.map qV).filter λe => !(k.map Ł).contains e.born:=by
  unfold leftOf nv je
  simp only[List.filter_toArray,List.contains_toArray]
section
variable {n:Nat}{h:Array ą}{Q:Post}{L:Env}{w z:ä}{M:Nat->Prop}{l F:List Rsc}{f:List ą}{d:Nat}{u:ì}{p:String}{A:Array Edge}{g:Option (Nat × Bool)}
theorem SA{t:ì}(e:Wn h n L ⟨á d,.makeMap t ç,u,p,A,g⟩)(c:ò d n=ã)(H:Sep M z l F w)
    (k:∀b W,Ext No w W->w.heap.size<=b->Sep M z (l++[box b (.map (nv []) 0)]) F W->RL P n h Q f ((d,.map (á b))::L) W) :
    RL P n h Q (⟨á d,.makeMap t ç,u,p,A,g⟩::f) L w:=
  x7 e rfl c (λa i=>by
    simp[À,Instr.makeMap,nv]) H k
theorem Ux{j:ì}{m y:Â}{c:Nat}{d:List (Ac × Nat)}{v:Ac}(K:Wn h n L ⟨ç,.mapUpdate j m x y,u,p,A,g⟩)(I:P.underlying j=á (.map o s))(G:P.underlying o=á .string)
    (r:evL L m=á (.map (á b))) (t:evL L x=á (.string v.r.Name)) (B:evL L y=á (.agg v.cs.toArray)) (H:Sep M z l F w) (i:Nat) (q:l[i]? = á (box b (.map (nv d) c))) (O:MapOK d c)
    (k:∀C W,MapOK (mJ v c d) C->Sep M z (l.set i (box b (.map (nv (mJ v c d)) C))) F W->RL P n h Q f L W) :
    RL P n h Q (⟨ç,.mapUpdate j m x y,u,p,A,g⟩::f) L w:=by
  obtain⟨C,D,E,J⟩:=SN I G (H.box i q)
  exact GW K rfl (λa e=>by simp[À,e.eval r,e.eval t,e.eval B,J]) (k C _ (O.upd D E) (H.put i _ q))
theorem Ps{t:ì}{c:Nat}{C:List (Ac × Nat)}(y:Wn h n L ⟨á d,.range t x,u,p,A,g⟩)(q:ò d n=ã)(v:P.underlying t=á (.map o s))(B:evL L x=á (.map (á b)))(H:Sep M z l F w)(i:Nat)(m:l[i]? = á (box b (.map (nv C) c)))
    (k:∀r W,Ext No w W->w.heap.size<=r->Sep M z (l++[box r (.mapIter (á b) c (je []) c)]) F W->RL P n h Q f ((d,.pointer (á ⟨r,0,ç⟩))::L) W) :
    RL P n h Q (⟨á d,.range t x,u,p,A,g⟩::f) L w:=by
  have j:=H.box i m
  exact x7 y rfl q (λa e=>by
    simp[À,e.eval B,Instr.range,þ v,Ĺ j,je]) H k
theorem SJ{r c c_:Nat}{s:List (Ac × Nat)}(G:Wn h n L ⟨á d,.next x â,u,p,A,g⟩)(C:ò d n=ã)(I:evL L x=á (.pointer (á ⟨r,0,ç⟩)))(H:Sep M z l F w)
    (i j:Nat) (B:l[i]? = á (box r (.mapIter (á b) c (je k) c))) (V:l[j]? = á (box b (.map (nv s) c))) (O:MapOK s c) (U:∀q∈k,q∈s)
    (k1:(∀q∈s,q∈k)->RL P n h Q f ((d,.tuple #[.bool â])::L) w)
    (k2:∀q W,q∈s->q ∉ k->Sep M z (l.set i (box r (.mapIter (á b) c (je (k++[q])) c))) F W->RL P n h Q f ((d,.tuple #[.bool ã,.string q.1.r.Name,.agg q.1.cs.toArray])::L) W) :
    RL P n h Q (⟨á d,.next x â,u,p,A,g⟩::f) L w:=by
  have hr:=H.box i B
  have T:=H.box j V
  have a_:∀e∈(nv s).toList,e.born<c:=λe o=>by
    simp only[nv,bY] at o
    obtain⟨q,m,rfl⟩:=o
    exact O.lt q m
  rcases run_next_at (P:=P) w u r b c c _ _ c hr T a_ (aN _) with ⟨R,t⟩|⟨e,o,y,b_,t⟩
  · refine ue G rfl C (W:=w) (λa v=>by simp[À,v.eval I,t]) (k1 λq m=>?_)
    have J:(leftOf (nv s) (je k)).toList=[]:=by
      apply í;exact R
    rw[QJ,ċ] at J
    have:=J (qV q) (Ũ m)
    simp only[als_Bool_not_eq_true_,Bool.not_eq_false,List.contains_eq_mem,ab] at this
    obtain⟨q',E,e⟩:=bY.1 this
    rw[<- O.inj (U q' E) m e];exact E
  · rw[QJ,Ģ,bY] at o
    obtain⟨⟨q,m,rfl⟩,D⟩:=o
    have Y:=λX=>by
      simp only[als_Bool_not_eq_true_,List.contains_eq_mem,aa] at D
      exact D (bY.2 ⟨q,X,rfl⟩)
    have N:(je k).push (qV q).born=je (k++[q]):=by unfold je;simp[qV]
    rw[N] at t
    have K:Sep M z l F y:=by
      rcases b_ with rfl|rfl
      · exact H
      · exact H.drawn _
    exact ue G rfl C (W:=put y r _) (λa v=>by
      have S:(Instr.next _ â u).run P w = .ok (.tuple #[.bool ã,.string q.1.r.Name,.agg q.1.cs.toArray]) (put y r _):=t
      simp[À,v.eval I,S])
      (k2 q _ m Y (K.put i _ B))
theorem MD{r c:Nat}{s:List (Ac × Nat)}{o:Option Tmp}(B:evL L x=á (.pointer (á ⟨r,0,ç⟩)))(H:Sep M z l F w)
    (i j:Nat) (t:l[i]? = á (box r (.mapIter (á b) c (je (k++[q])) c))) (v:l[j]? = á (box b (.map (nv s) c))) (O:MapOK s c) (y:q∈s) :
    Py P n L w ⟨o,.entry x,u,p,A,g⟩ (.tuple #[.string q.1.r.Name,.agg q.1.cs.toArray]):=λa m=>by
  have e:je (k++[q])=(je k).push (qV q).born:=by unfold je;simp[qV]
  have d:=H.box i t
  rw[e] at d
  have h:=run_entry_at (P:=P) w r b c _ _ c (qV q) d (H.box j v) (by simp only[nv];exact Ũ y) (by
    simp only[nv,List.map_map]
    exact O.stamps)
  have f:(Instr.entry _).run P w = .ok (.tuple #[.string q.1.r.Name,.agg q.1.cs.toArray]) w:=h
  simp[À,m.eval B,f]
end
end Go.Wk
namespace Go.Wk
open Rp (sz own)
variable {d:ByteArray}{g:List (Ac × Nat)}{k:Nat}{z:Wld}{q:Ac × Nat}{x y:List UInt8}{b:UInt8}
def nLt (a b:List UInt8):Prop:=Op.bytesLess a b=ã
theorem uN{a:UInt8}:nLt (a::x) (b::y)↔a<b\/a=b/\nLt x y:=by
  unfold nLt
  rw[Op.bytesLess]
  simp
theorem Cs:nLt [] (b::y):=rfl
theorem z8:¬ nLt x []:=by unfold nLt;cases x<;>simp[Op.bytesLess]
theorem CN:LinO nLt where
  irr a:=by
    induction a with
    | nil=>exact z8
    | cons a x i=>
      rw[uN]
      rintro(h|⟨_,h⟩)
      · exact UInt8.lt_irrefl a h
      · exact i h
  tr a:=by
    induction a with
    | nil=>
      intro b c d H
      cases c with
      | nil=>exact absurd H z8
      | cons c z=>exact Cs
    | cons a x i=>
      intro b c d H
      cases b with
      | nil=>exact absurd d z8
      | cons b y=>
        cases c with
        | nil=>exact absurd H z8
        | cons c z=>
          rw[uN] at d H ⊢
          rcases d with d|⟨rfl,d⟩
          · rcases H with H|⟨rfl,H⟩
            · exact .inl (UInt8.lt_trans d H)
            · exact .inl d
          · rcases H with H|⟨rfl,H⟩
            · exact .inl H
            · exact .inr ⟨rfl,i _ _ d H⟩
  tot a:=by
    induction a with
    | nil=>
      intro b
      cases b with
      | nil=>exact .inr (.inl rfl)
      | cons b y=>exact .inl Cs
    | cons a x i=>
      intro b
      cases b with
      | nil=>exact .inr (.inr Cs)
      | cons b y=>
        rw[uN,uN]
        rcases Ē (a<b) with h|h
        · exact .inl (.inl h)
        · rcases Ē (b<a) with k|k
          · exact .inr (.inr (.inl k))
          · have e:=UInt8.le_antisymm (Ű.1 k) (Ű.1 h)
            subst e
            rcases i y with h|h|h
            · exact .inl (.inr ⟨rfl,h⟩)
            · exact .inr (.inl (by rw[h]))
            · exact .inr (.inr (.inr ⟨rfl,h⟩))
theorem Li:∀ {x y:List UInt8},Ė x y<0↔nLt x y
  | [],[]=>by simp[Ė,z8]
  | [],_::_=>by simp[Ė,Cs]
  | _::_,[]=>by simp[Ė,z8]
  | a::x,b::y=>by
    rw[uN,Ė]
    split
    · next h=>simp[h]
    · next h=>
      split
      · next k=>
        have:a≠b:=λe=>by subst e;exact h k
        simp[h,this]
      · next k=>
        have e:=UInt8.le_antisymm (Ű.1 k) (Ű.1 h)
        subst e
        rw[Li];simp
def eI (r:Rec):List UInt8:=r.Name.toList
def Eh (v:Ac):List UInt8:=eI v.r
theorem H6{r q:Rec}:eI r=eI q↔r.Name=q.Name:=Ch
def lV (x:List Rec) (k:Nat):Bool:=decide ((x.getD k à).Kind=1) && (decide ((x.getD k à).Length ≠ -1) && !(x.drop (k+1)).any (itP (x.getD k à).Name))
def l7 (x:List Rec):Nat->List Rec
  | 0=>[]
  | k+1=>if lV x k=ã then l7 x k++[x.getD k à] else l7 x k
def CI (x:List Rec):List Rec:=l7 x x.length
def lastIt (n:ByteArray):List Rec->Option Rec
  | []=>ç
  | r::R=>match lastIt n R with
    | some q=>á q
    | none=>if itP n r=ã then á r else ç
section
variable {f i:List Rec}{r q:Rec}
theorem qx:itP d r=ã↔r.Kind=1/\r.Name=d:=by
  unfold itP;rw[aP,ab,beq_iff_eq,Ch]
theorem uV:lastIt d f=ç↔f.any (itP d)=false:=by
  induction f with
  | nil=>simp[lastIt]
  | cons r R i=>
    rw[lastIt,Ū]
    cases h:lastIt d R with
    | some q=>
      have H:R.any (itP d)=true:=by
        cases c:R.any (itP d) with
        | true=>rfl
        | false=>rw[i.2 c] at h;cases h
      rw[H];simp
    | none=>
      have H:=i.1 h
      rw[H]
      cases c:itP d r<;>simp
theorem qy:lastIt d (f++[r])=if itP d r=ã then á r else lastIt d f:=by
  induction f with
  | nil=>rw[lastIt];simp[lastIt]
  | cons a A i=>
    rw[R?,lastIt,i,lastIt]
    by_cases c:itP d r=ã
    · rw[ae c,ae c]
    · rw[ac c,ac c]
theorem ng(h:lastIt d f=á r):r∈f/\r.Kind=1/\r.Name=d:=by
  induction f with
  | nil=>cases h
  | cons a A i=>
    rw[lastIt] at h
    cases c:lastIt d A with
    | some q=>
      rw[c] at h
      obtain⟨H,b⟩:=i (by rw[c];exact h)
      exact⟨Đ _ H,b⟩
    | none=>
      rw[c] at h
      dsimp only at h
      split at h
      · next e=>
        cases h
        exact⟨ď ..,qx.1 e⟩
      · cases h
theorem Cz:lastIt d (f++i)=(lastIt d i).or (lastIt d f):=by
  induction f with
  | nil=>simp[lastIt]
  | cons a A I=>
    rw[R?,lastIt,I,lastIt]
    cases lastIt d i<;>simp
theorem sI(h:k<f.length):lV f k=ã↔(f.getD k à).Kind=1/\(f.getD k à).Length ≠ -1/\lastIt (f.getD k à).Name (f.drop (k+1))=none:=by
  unfold lV
  rw[uV]
  simp
theorem AB:∀ {k},k<=f.length->(r∈l7 f k↔∃j,j<k/\lV f j=ã/\f.getD j à=r)
  | 0,_=>by simp[l7]
  | k+1,h=>by
    rw[l7]
    have i:=AB (k:=k) ω
    split
    · next c=>
      rw[aI,aD,i]
      constructor
      · rintro(⟨j,b,H,a⟩|rfl)
        · exact⟨j,ω,H,a⟩
        · exact⟨k,ω,c,rfl⟩
      · rintro⟨j,b,H,a⟩
        by_cases e:j=k
        · subst e;exact .inr a.symm
        · exact .inl ⟨j,ω,H,a⟩
    · next c=>
      rw[i]
      constructor
      · rintro⟨j,b,H,a⟩;exact⟨j,ω,H,a⟩
      · rintro⟨j,b,H,a⟩
        by_cases e:j=k
        · subst e;exact absurd H c
        · exact⟨j,ω,H,a⟩
theorem Kx{j:Nat}(h:j<f.length):f=f.take j++f.getD j à::f.drop (j+1):=by
  rw[bX h,<- List.drop_eq_getElem_cons h,List.take_append_drop]
theorem mf:r∈CI f↔r.Kind=1/\r.Length ≠ -1/\lastIt r.Name f=á r:=by
  unfold CI
  rw[AB (aN _)]
  constructor
  · rintro⟨j,H,h2,rfl⟩
    obtain⟨a,b,c⟩:=(sI H).1 h2
    refine⟨a,b,?_⟩
    have e:=Kx H
    rw[show lastIt (f.getD j à).Name f=lastIt (f.getD j à).Name (f.take j++f.getD j à::f.drop (j+1)) from by rw[<- e],Cz,lastIt,c]
    rw[ae (qx.2 ⟨a,rfl⟩)];rfl
  · rintro⟨a,b,c⟩
    have k:∀ {l:List Rec},lastIt r.Name l=á r->∃j,j<l.length/\l.getD j à=r/\lastIt r.Name (l.drop (j+1))=none:=by
      intro l
      induction l with
      | nil=>intro h;cases h
      | cons x l i=>
        intro h
        rw[lastIt] at h
        cases e:lastIt r.Name l with
        | some q=>
          rw[e] at h
          obtain⟨j,H,h2,d⟩:=i (by rw[e];exact h)
          exact⟨j+1,xw,sr,by simpa using d⟩
        | none=>
          rw[e] at h
          dsimp only at h
          split at h
          · cases h;exact⟨0,σ,rfl,by simpa using e⟩
          · cases h
    obtain⟨j,H,h2,d⟩:=k c
    exact⟨j,H,(sI H).2 (by rw[h2];exact⟨a,b,d⟩),h2⟩
theorem Bp:∀ {k},k<=f.length->((l7 f k).map eI).Nodup
  | 0,_ => .nil
  | k+1,h=>by
    rw[l7]
    have i:=Bp (k:=k) ω
    split
    · next c=>
      rw[Û]
      refine pK i λm=>?_
      obtain⟨q,g,e⟩:=bY.1 m
      obtain⟨j,o,H,b⟩:=(AB ω).1 g
      obtain⟨A,B,C⟩:=(sI ω).1 H
      obtain⟨a,l,n⟩:=(sI ω).1 c
      rw[uV,ē] at C
      have d:f.getD k à∈f.drop (j+1):=by
        rw[bX ω]
        rw[List.mem_iff_getElem]
        exact⟨k-(j+1),by rw[bZ];omega,by rw[Ĵ];congr 1;omega⟩
      refine C _ d (qx.2 ⟨a,?_⟩)
      rw[b]
      exact(H6.1 e).symm
    · exact i
theorem wz:((CI f).map eI).Nodup:=Bp (aN _)
theorem Bj{l:List Rec}(H:(l.map eI).Nodup)(n:List UInt8):∀ {r},r∈l->eI r=n->(l.filter λx=>decide (eI x=n))=[r]:=by
  induction l with
  | nil=>intro r h;cases h
  | cons a l i=>
    intro r b e
    rw[Ï,ù] at H
    rcases aM.1 b with rfl|b
    · rw[List.filter_cons_of_pos (by simp[e]),ċ.2 λx c=>?_]
      simp
      intro E
      exact H.1 (bY.2 ⟨x,c,E.trans e.symm⟩)
    · rw[List.filter_cons_of_neg (by
        simp
        intro E
        exact H.1 (bY.2 ⟨r,b,e.trans E.symm⟩)),i H.2 b e]
theorem IV{l L:List Rec}(n:(l.map eI).Nodup)(H:L.Perm l):fw eI l L:=λd=>by
  have c:(L.map eI).Nodup:=(H.map eI).nodup_iff.2 n
  by_cases h:∃r∈l,eI r=d
  · obtain⟨r,b,e⟩:=h
    rw[Bj n d b e,Bj c d (H.mem_iff.2 b) e]
  · rw[ċ.2 λx a=>?_,ċ.2 λx a=>?_]
    · simp;intro e;exact h ⟨x,a,e⟩
    · simp;intro e;exact h ⟨x,H.mem_iff.1 a,e⟩
theorem S3(x:Rec):∀ {i:List Rec},Ord nLt eI i->∃A B,i=A++B/\(∀y∈B,nLt (eI x) (eI y))/\∀y∈A,¬ nLt (eI x) (eI y)
  | [],_=>⟨[],[],rfl,σ,σ⟩
  | y::i,.cons H a=>by
    by_cases c:nLt (eI x) (eI y)
    · refine⟨[],y::i,rfl,λz h=>?_,σ⟩
      rcases aM.1 h with rfl|h
      · exact c
      · rcases CN.tot _ _ with q|q|q
        · exact CN.tr _ _ _ c q
        · rw[<- q];exact c
        · exact absurd q (H z h)
    · obtain⟨A,B,e,d,b⟩:=S3 x a
      refine⟨y::A,B,by rw[e];rfl,d,λz h=>?_⟩
      rcases aM.1 h with rfl|h
      · exact c
      · exact b z h
theorem xu:∀(n:Nat) (l:List Rec),l.length=n->∃i,Stable nLt eI l i
  | 0,l,h=>⟨[],by rw[í h];exact⟨.nil,.refl⟩⟩
  | n+1,l,h=>by
    have c:l.dropLast++[l.getLast (λe=>by rw[e] at h;simp at h)]=l:=List.dropLast_concat_getLast _
    obtain⟨i,H⟩:=xu n l.dropLast (by rw[List.length_dropLast];omega)
    obtain⟨A,B,rfl,b,a⟩:=S3 (l.getLast (λe=>by rw[e] at h;simp at h)) H.1
    have:=lf CN H b a
    rw[c] at this
    exact⟨_,this⟩
end
noncomputable def bT (z:Wld):List Rec:=(xu _ (CI (cI z)) rfl).choose
section
variable {a:List Rec}{r:Rec}
theorem qp:Stable nLt eI (CI (cI z)) (bT z):=(xu _ _ rfl).choose_spec
theorem Ci(h:Stable nLt eI (CI (cI z)) a):a=bT z:=wy CN h qp
theorem ER(H:a.Perm (CI (cI z)))(h:Ord nLt eI a):a=bT z:=Ci ⟨h,IV wz H⟩
theorem pF:r∈bT z↔r∈CI (cI z):=⟨λh=>qp.2.mem h,λh=>(fw.symm qp.2).mem h⟩
theorem zq{x:List Rec}:∀ {k},(l7 x k).length<=k
  | 0=>aN _
  | k+1=>by
    rw[l7]
    have:=zq (x:=x) (k:=k)
    split
    · rw[aO,List.length_singleton];omega
    · omega
theorem pz:(bT z).length<=(cI z).length:=by
  have h:=qp (z:=z).2.len
  rw[h];exact zq
theorem pt(h:r∈bT z):r∈cI z:=(ng (mf.1 (pF.1 h)).2.2).1
end
def MapIs (x:List Rec) (P:List (Ac × Nat)):Prop:=(∀p∈P,lastIt p.1.r.Name x=á p.1.r)/\∀r∈x,r.Kind=1->nk r.Name P=ã
section
variable {i:List Rec}{f:List (Ac × Nat)}{v:Ac}{c:Nat}{r:Rec}
theorem MapIs.nil:MapIs [] []:=⟨σ,σ⟩
theorem PK:nk d f=ã↔∃p∈f,p.1.r.Name=d:=by unfold nk;simp
theorem MapIs.skip(h:MapIs i f)(a:r.Kind≠1):MapIs (i++[r]) f:=by
  refine⟨λp b=>?_,λq H k=>?_⟩
  · rw[qy,ac (λe=>a (qx.1 e).1)];exact h.1 p b
  · rcases aI.1 H with H|H
    · exact h.2 q H k
    · rw[aD] at H;subst H;exact absurd k a
theorem JH{p:Ac × Nat}(H:(f.map λp=>p.1.r.Name).Nodup):p∈mJ v c f->p.1=v\/p∈f/\p.1.r.Name≠v.r.Name:=by
  induction f with
  | nil=>intro h;rw[mJ,aD] at h;subst h;exact .inl rfl
  | cons a A i=>
    intro h
    rw[Ï,ù] at H
    rw[mJ] at h
    split at h
    · next e=>
      rcases aM.1 h with rfl|h
      · exact .inl rfl
      · refine .inr ⟨Đ _ h,λE=>H.1 ?_⟩
        rw[e,<- E];exact bY.2 ⟨p,h,rfl⟩
    · next e=>
      rcases aM.1 h with rfl|h
      · exact .inr ⟨ď ..,e⟩
      · rcases i H.2 h with h|⟨h,b⟩
        · exact .inl h
        · exact .inr ⟨Đ _ h,b⟩
theorem PD:nk d (mJ v c f)=(nk d f || decide (v.r.Name=d)):=by
  induction f with
  | nil=>simp[mJ,nk]
  | cons a A i=>
    rw[mJ]
    split
    · next e=>
      unfold nk at *
      simp only[Ū,e]
      cases decide (v.r.Name=d)<;>simp
    · unfold nk at *
      simp only[Ū,i,ĸ]
theorem MapIs.put(h:MapIs i f)(n:(f.map λp=>p.1.r.Name).Nodup)(k:v.r.Kind=1):MapIs (i++[v.r]) (mJ v c f):=by
  refine⟨λp d=>?_,λq H g=>?_⟩
  · rw[qy]
    rcases JH n d with e|⟨a,b⟩
    · rw[e,ae (qx.2 ⟨k,rfl⟩)]
    · rw[ac (λe=>b (qx.1 e).2.symm)];exact h.1 p a
  · rw[PD]
    rcases aI.1 H with H|H
    · rw[h.2 q H g];rfl
    · rw[aD] at H;subst H;simp
def pr (d:List (Ac × Nat)):List Ac:=(d.map Prod.fst).filter λv=>decide (v.r.Length ≠ -1)
theorem Ns(h:q.1.r.Length ≠ -1):pr (g++[q])=pr g++[q.1]:=by unfold pr;simp[h]
theorem OQ(h:q.1.r.Length = -1):pr (g++[q])=pr g:=by unfold pr;simp[h]
theorem E6:(pr g).length<=g.length:=aF (List.length_filter_le _ _) σ
theorem NJ(h:MapIs i f)(o:MapOK f c)(n:g.Nodup)(k:∀q∈g,q∈f)(l:∀q∈f,q∈g):((pr g).map Ac.r).Perm (CI i):=by
  have w:=(List.perm_ext_iff_of_nodup n o.nodup).2 λq=>⟨k q,l q⟩
  have t:((g.map Prod.fst).map λv=>v.r.Name).Nodup:=by
    rw[List.map_map];exact(w.map λp=>p.1.r.Name).nodup_iff.2 o.names
  have s:(((pr g).map Ac.r).map eI).Nodup:=by
    have m:((pr g).map λv=>v.r.Name).Nodup:=by
      exact t.sublist (List.filter_sublist.map _)
    rw[List.map_map]
    rw[List.Nodup,List.pairwise_map] at m ⊢
    exact m.imp λu e=>u (H6.1 e)
  refine(List.perm_ext_iff_of_nodup (sO s) (sO wz)).2 λr=>?_
  rw[mf]
  unfold pr
  constructor
  · intro x
    obtain⟨v,hv,rfl⟩:=bY.1 x
    rw[Ģ] at hv
    obtain⟨p,j,e⟩:=bY.1 hv.1
    subst e
    have H:=h.1 p (k p j)
    exact⟨(ng H).2.1,by simpa using hv.2,H⟩
  · rintro⟨a,b,d⟩
    obtain⟨M,_,_⟩:=ng d
    obtain⟨p,j,e⟩:=PK.1 (h.2 r M a)
    have H:=h.1 p j
    rw[e,d] at H
    refine bY.2 ⟨p.1,?_,(Option.some.inj H).symm⟩
    rw[Ģ]
    exact⟨bY.2 ⟨p,l p j,rfl⟩,by rw[<- Option.some.inj H];simpa using b⟩
theorem O1:(mJ v c f).length<=f.length+1:=by
  induction f with
  | nil=>exact aN _
  | cons a A i=>rw[mJ];split<;>simp<;>omega
end
noncomputable def itO (z:Wld) (n:ByteArray):Bool:=match lastIt n (cI z) with
  | some r=>decide (r.Length ≠ -1)
  | none=>â
noncomputable def itR (z:Wld) (n:ByteArray):Rec:=if itO z n=ã then(lastIt n (cI z)).getD à else à
section
variable {r:Rec}{xs:List Rec}
theorem Tj(h:lastIt d (cI z)=á r)(l:r.Length ≠ -1):itO z d=ã/\itR z d=r:=by
  have H:itO z d=true:=by unfold itO;rw[h];simpa using l
  exact⟨H,by unfold itR;rw[ae H,h];rfl⟩
theorem Qe(h:lastIt d (cI z)=á r)(l:r.Length = -1):itO z d=â/\itR z d=default:=by
  have H:itO z d=false:=by unfold itO;rw[h];simpa using l
  exact⟨H,by unfold itR;rw[ac (by simp[H])]⟩
theorem Lv(h:lastIt d (cI z)=ç):itO z d=â/\itR z d=default:=by
  have H:itO z d=false:=by unfold itO;rw[h]
  exact⟨H,by unfold itR;rw[ac (by simp[H])]⟩
theorem So(h:r∈bT z)(e:r.Name=d):itO z d=ã/\itR z d=r:=by
  obtain⟨_,b,c⟩:=mf.1 (pF.1 h)
  rw[e] at c
  exact Tj c b
theorem U9(h:∀r∈bT z,r.Name≠d):itO z d=â/\itR z d=default:=by
  cases e:lastIt d (cI z) with
  | none=>exact Lv e
  | some r=>
    by_cases H:r.Length = -1
    · exact Qe e H
    · obtain⟨_,b,c⟩:=ng e
      exact absurd c (h r (pF.2 (mf.2 ⟨b,H,by rw[c];exact e⟩)))
theorem LR(h:itO z d=ã):itR z d∈cI z/\(itR z d).Name=d/\(itR z d).Kind=1/\(itR z d).Length ≠ -1:=by
  cases e:lastIt d (cI z) with
  | none=>rw[(Lv e).1] at h;cases h
  | some r=>
    by_cases H:r.Length = -1
    · rw[(Qe e H).1] at h;cases h
    · obtain⟨a,b,c⟩:=ng e
      rw[(Tj e H).2]
      exact⟨a,c,b,H⟩
theorem Ul:fH (itR z d)<=fY z:=by
  cases h:itO z d with
  | true=>exact JS (LR h).1
  | false=>unfold itR;rw[ac gX];exact ý _
end
section
variable {r:Rec}
theorem FK(h:k<(bT z).length):(bT z).getD k à∈bT z:=by rw[bX h];exact bx _
end
def po (n:ByteArray) (x:List UInt8):Rec:=⟨1,0,n,x.length,0,0,[],x,[]⟩
def jm (r:List Rec):Nat->Int
  | 0=>0
  | k+1=>jm r k+((r.getD k à).Data.length:Int)
noncomputable def oJ (z:Wld):Int:=jm (bT z) (bT z).length
noncomputable def puC (z:Wld) (n:ByteArray) (x:List UInt8):Int:=if dL z.A0 x.length≠0 then dL z.A0 x.length else if z.A0.Ap<oJ z+(x.length:Int) then 11 else nxC z (po n x)
noncomputable def puZ (z:Wld) (n:ByteArray) (x:List UInt8):Wld:=if dL z.A0 x.length≠0 then z else if z.A0.Ap<oJ z+(x.length:Int) then z else nxZ z (po n x)
noncomputable def bG (z:Wld) (n:ByteArray) (x:List UInt8):WldResult:=xI z (bU n) (puC z n x) (puZ z n x)
section
variable {a:List UInt8}{c:List Rec}
theorem GM(h:dL z.A0 a.length≠0):puC z d a=dL z.A0 a.length/\puZ z d a=z:=⟨ae h,ae h⟩
theorem G3(h:dL z.A0 a.length=0)(H:z.A0.Ap<oJ z+(a.length:Int)):puC z d a=11/\puZ z d a=z:=⟨by rw[puC,ac ω,ae H],by rw[puZ,ac ω,ae H]⟩
theorem QP(h:dL z.A0 a.length=0)(H:¬ z.A0.Ap<oJ z+(a.length:Int)):puC z d a=nxC z (po d a)/\puZ z d a=nxZ z (po d a):=⟨by rw[puC,ac ω,ac H],by rw[puZ,ac ω,ac H]⟩
theorem Rg{s:A0}{n:Int}:dL s n=0\/dL s n=2\/dL s n=6:=by
  unfold dL
  all_goals omega
theorem Ha:0<=puC z d a/\puC z d a<=11:=by
  unfold puC
  have h:=OH (z:=z) (r:=po d a)
  have H:=Rg (s:=z.A0) (n:=a.length)
  all_goals omega
theorem P6:0<=bU d/\bU d<=100:=by
  unfold bU;split<;>omega
theorem Fz{B:Nat}(h:∀r∈c,r.Data.length<=B):∀ {k},k<=c.length->0<=jm c k/\jm c k<=(k:Int)*(B:Int)
  | 0,_=>by rw[jm];exact⟨Int.le_refl _,σ⟩
  | k+1,d=>by
    obtain⟨H,a⟩:=Fz h (k:=k) ω
    have b:(c.getD k à).Data.length<=B:=by rw[bX ω];exact h _ (bx _)
    rw[jm]
    have e:((k+1:Nat):Int)*(B:Int)=(k:Int)*B+B:=by rw[Int.natCast_add,Int.add_mul];simp
    omega
end
end Go.Wk
namespace Go.Wk
open Rp (sz own)
open Go.Shelf Go.Lib Go.Sort Go.Proofs
variable {l:List Nat}{a:List Ac}{n:Nat}
theorem Ll{b K:Type}{L:K->K->Prop}{a:b->K}:∀ {l:List b},(∀i j (hj:j<l.length) (H:i<j),¬ L (a l[j]) (a (l[i]'(Nat.lt_trans H hj))))->Ord L a l
  | [],_ => .nil
  | x::X,h=>by
    refine .cons (λy c=>?_) (Ll λi j hj H=>?_)
    · obtain⟨k,hk,e⟩:=ð c
      have:=h 0 (k+1) oi ω
      simpa[e] using this
    · have:=h (i+1) (j+1) sD ω
      simpa using this
theorem IG{w:ä}:∀ {U:List Ac}{c:List è},(∀k (hk:k<U.length) j,j<9->c[k*9+j]? = U[k].cs[j]?)->(∀u∈U,u.r.Ok)->dg ã w c U []
  | [],_,_,_=>rfl
  | u::U,c,h,o=>by
    refine⟨[],[],rfl,⟨?_,rfl,o u (ď ..)⟩,IG (λk hk j H=>?_) λx a=>o x (Đ _ a)⟩
    · apply ĉ
      intro j
      show(c.take 9)[j]? = u.cs[j]?
      rw[List.getElem?_take]
      split
      · next H=>have:=h 0 σ j H;simpa using this
      · next H=>rw[Í];simp only[Ac.cs,aR,aV];omega
    · show(c.drop 9)[k*9+j]? = _
      rw[Ñ]
      have:=h (k+1) oi j H
      rw[show 9+_=(k+1)*9+j by omega]
      simpa using this
theorem GV{v:Ac}:v.cs.length=9:=rfl
def cfN (x y:Ac):Int:=Ė x.r.Name.data.toList y.r.Name.data.toList
theorem Ge{x y:Ac}:cfN x y<0↔nLt (Eh x) (Eh y):=by
  unfold cfN Eh eI
  rw[ByteArray.toList_eq,ByteArray.toList_eq]
  exact Li
theorem SR:SWO (ltOf cfN) where
  irrefl x:=by
    unfold ltOf
    rw[a8]
    rw[Ge];exact CN.irr _
  trans x y z h1 h2:=by
    unfold ltOf at *
    rw[ab,Ge] at *
    exact CN.tr _ _ _ h1 h2
  ntrans x y z h1 h2:=by
    unfold ltOf at *
    rw[aa,Ge] at *
    intro h
    rcases CN.tot _ _ with c|c|c
    · exact h1 c
    · rw[c] at h;exact h2 h
    · exact h2 (CN.tr _ _ _ c h)
section
variable {w:ä}{b o g:Nat}
theorem Mg(h:own ã w [.slice (á ⟨b,o,ç⟩) a.length g] a l)(J:0<a.length):HoldsK Ac.cs 9 w b o a.toArray/\b<w.heap.size:=by
  rcases h with ⟨y,_⟩|⟨e,_⟩|⟨B,O,C,r,T,F,s,c,n,H,d,p,q,u,v⟩
  · cases y
  · simp at e
  · have A:own ã w [.slice _ a.length g] a l := .inr (.inr ⟨B,O,C,r,T,F,s,c,n,H,d,p,q,u,v⟩)
    obtain⟨⟨rfl,rfl⟩,_,_⟩:=c
    have z:=d rfl
    subst z
    refine⟨λt j=>?_,(ø.1 H).1⟩
    rw[size_flatK,ĵ] at j
    rw[get_flatK _ _ _ t (by simpa using j)]
    have hk:t / 9<a.length:=by omega
    obtain⟨G,K,I,f,e,x,D,_⟩:=gh A (t / 9) hk
    obtain⟨rfl,rfl⟩:=e
    have m:t % 9<9:=Nat.mod_lt _ ω
    have i:=x (t % 9) (a[t / 9].cs[t % 9]'(by rw[GV];exact m)) (by
      rw[D.1];exact Ã _)
    have k:o+t / 9*sz Ac+t % 9=o+t:=by
      show o+t / 9*9+t % 9=o+t
      omega
    rw[k] at i
    refine⟨?_,yX H⟩
    rw[i]
    have E:a.toArray[t / 9]! = a[t / 9]:=by rw[getElem!_pos a.toArray (t / 9) oi];simp
    rw[E,getElem!_pos a[t / 9].cs (t % 9) (by rw[GV];exact m)]
    rfl
theorem Jx(h:own ã w [.slice (á ⟨b,o,ç⟩) a.length g] a l)(L:l.Nodup)(U:0<a.length){d:Array Ac}{O:Array Obj}(H:d.size=a.length)(M:∀u∈d.toList,u.r.Ok):
    Mut w (sortWorldK Ac.cs 9 w b o n d O) l [.slice (á ⟨b,o,ç⟩) a.length g] d.toList:=by
  rcases h with ⟨D,_⟩|⟨e,_⟩|⟨P,W,Q,C,T,R,S,m,s,p,v,x,y,q,z⟩
  · cases D
  · simp at e
  · simp only[List.cons.injEq,Value.slice.injEq,Addr.mk.injEq,and_true] at m
    obtain⟨⟨rfl,rfl⟩,_,B⟩:=m
    subst B
    have F:=v rfl
    subst F
    have G:=(tu 0 z).2
    subst G
    subst s
    have J:=(ø.1 p).1
    have N:(sortWorldK Ac.cs 9 w b o n d O).heap.size=w.heap.size+O.size:=by
      unfold sortWorldK putRowK Go.Sort.putRow Go.Sort.mapBlock Go.Sort.grow Go.Sort.ahead
      simp
    have t:∀c,c<w.heap.size->(sortWorldK Ac.cs 9 w b o n d O).heap[c]? = (w.heap.modify b _)[c]? := λc f=>by
      unfold sortWorldK putRowK Go.Sort.putRow Go.Sort.mapBlock Go.Sort.grow Go.Sort.ahead
      rw[Array.getElem?_append_left (by simpa using f)]
    have A:(sortWorldK Ac.cs 9 w b o n d O).heap[b]? = á (.cells (Go.Sort.putCells id o (flatK Ac.cs 9 d) C) T (0,0)):=by
      rw[t b J,Array.getElem?_modify,ae rfl,p];rfl
    refine⟨⟨rfl,rfl,rfl,by rw[N];omega,λc f K=>?_⟩,[b],.inr (.inr ⟨b,o,g,_,T,(0,0),[],by rw[show d.toList.length=a.length from(Ĩ ..).trans H],rfl,A,λ_=>rfl,by rw[show d.toList.length=a.length from(Ĩ ..).trans H];exact x,y,?_,?_⟩),L,λc f => .inl f⟩
    · rw[t c f,Array.getElem?_modify,ac (λe=>K (by rw[e];exact aD.2 rfl))]
    · have:(Go.Sort.putCells id o (flatK Ac.cs 9 d) C).size=C.size:=by simp[Go.Sort.putCells]
      rw[this];exact q
    · refine IG (λk i j r=>?_) M
      rw[Ĩ,H] at i
      have V:o+g*9<=C.size:=q
      have I:o+(k*9+j)<C.size:=by omega
      rw[Ñ,Ş]
      unfold Go.Sort.putCells
      rw[Array.getElem?_mapIdx,Array.getElem?_eq_getElem I,Option.map_some]
      rw[ae ⟨ω,by rw[size_flatK];omega⟩,show o+_-o=k*9+j by omega]
      rw[get_flatK _ _ _ _ (by rw[H];omega),show _ / 9=k by omega,show _ % 9=j by omega]
      have E:d[k]! = d.toList[k]'(by rw[Ĩ,H];exact i):=by rw[getElem!_pos d k (by rw[H];exact i)];simp
      rw[E,getElem!_pos _ j (by rw[GV];exact r),Ã (by rw[GV];exact r)]
      rfl
end
theorem KL{P:Æ}{f:Go.Shelf.Ren}{w:ä}{A:Option ô}{C:Nat}{g:FuncId}(L:SlLaysF0.n6 P f)(E:∀w,(isAgg (f.t 24)).run P w = .ok ã w)(zE:∀w,(Go.sizeOf (f.t 24)).run P w = .ok 9 w)(D:∀s w,(callFunc g s).run P w = .ok (.enter g s) w)
    (Q:∀(W:ä) (x y:Ac),Calls P g #[.agg x.cs.toArray,.agg y.cs.toArray] W λe c=>e = .returned (.int .i64 (cfN x y))/\∃q B,c=Go.Sort.grow (W.drewN q) B)
    (o:own ã w [.slice A n C] a l) (N:l.Nodup) (hl:a.length<=1000000):Ret P (f.f 6) #[.slice A n C,.func (.func g) #[] #[]] w λv c=>∃U,Mut w c l [.slice A n C] U/\U.Perm a/\Ord nLt Eh U:=by
  obtain rfl:=gA o
  by_cases F:a.length=0
  · have e:=í F
    subst e
    exact Calls.mono (Go.Proofs.AnyF.slices_SortFunc_none L A C _ w) λe c ⟨m,G⟩=>⟨_,m,[],by subst G;exact⟨Ext.refl,l,o,N,λb K => .inl K⟩,.refl _,.nil⟩
  · obtain⟨b,O,I⟩:=gq o 0 ω
    obtain rfl:A=á ⟨b,O,ç⟩:=I
    obtain⟨J,M⟩:=Mg o ω
    have V:∀u∈a,u.r.Ok:=λu r=>by
      obtain⟨k,T,e⟩:=ð r
      obtain⟨_,_,_,_,_,_,Y,_⟩:=gh o k T
      rw[<- e];exact Y.2.2
    have z:=Go.Proofs.AnyQ.slices_SortFunc L 9 E zE Ac.cs (λ_=>rfl) (λ_ v hv=>Ac.one v hv) cfN SR g #[] b O C a.toArray w D (λa_ os dk _ x y=>Q _ x y) J M xw
    simp only[ĵ] at z
    refine Calls.mono z λe c ⟨m,d,n',B,H,S,X⟩=>⟨_,m,d.toList,?_,?_,?_⟩
    · have h:d.size=a.length:=by have:=H.1;simpa using this
      rw[X]
      refine Jx o N ω h λu r=>V u ?_
      have p:=H.2.2
      rw[show d.extract 0 a.length=d by rw[<- h];simp] at p
      simpa using p.mem_iff.1 r
    · have h:d.size=a.length:=by have:=H.1;simpa using this
      have p:=H.2.2
      rw[show d.extract 0 a.length=d by rw[<- h];simp] at p
      simpa using p
    · have h:d.size=a.length:=by have:=H.1;simpa using this
      refine Ll λi j t R=>?_
      rw[Ĩ,h] at t
      have:=S i j (ý _) R t
      unfold ltOf at this
      rw[aa,Ge,getElem!_pos d j ω,getElem!_pos d i ω] at this
      simpa using this
end Go.Wk
namespace Go.Wk
open Go.Proofs
theorem ts0:type_of% @Tryz.sizeOf0 := @Tryz.sizeOf0
theorem PY:type_of% @Tryz.sizeOf111 := @Tryz.sizeOf111
theorem UV:type_of% @Tryz.sizeOf136 := @Tryz.sizeOf136
theorem UX:type_of% @Tryz.sizeOf139 := @Tryz.sizeOf139
theorem UD:type_of% @Tryz.sizeOf182 := @Tryz.sizeOf182
theorem ts2:type_of% @Tryz.sizeOf2 := @Tryz.sizeOf2
theorem UE:type_of% @Tryz.sizeOf207 := @Tryz.sizeOf207
theorem Uv:type_of% @Tryz.sizeOf208 := @Tryz.sizeOf208
theorem Uy:type_of% @Tryz.sizeOf212 := @Tryz.sizeOf212
theorem US:type_of% @Tryz.sizeOf215 := @Tryz.sizeOf215
theorem UW:type_of% @Tryz.sizeOf217 := @Tryz.sizeOf217
theorem cH:type_of% @Tryz.sizeOf22 := @Tryz.sizeOf22
theorem UF:type_of% @Tryz.sizeOf227 := @Tryz.sizeOf227
theorem UA:type_of% @Tryz.sizeOf231 := @Tryz.sizeOf231
theorem U3:type_of% @Tryz.sizeOf237 := @Tryz.sizeOf237
theorem UB:type_of% @Tryz.sizeOf238 := @Tryz.sizeOf238
theorem lZ:type_of% @Tryz.sizeOf25 := @Tryz.sizeOf25
theorem pS:type_of% @Tryz.sizeOf27 := @Tryz.sizeOf27
theorem eF:type_of% @Tryz.sizeOf28 := @Tryz.sizeOf28
theorem oP:type_of% @Tryz.sizeOf29 := @Tryz.sizeOf29
theorem ts3:type_of% @Tryz.sizeOf3 := @Tryz.sizeOf3
theorem ff:type_of% @Tryz.sizeOf31 := @Tryz.sizeOf31
theorem jl:type_of% @Tryz.sizeOf33 := @Tryz.sizeOf33
theorem ts4:type_of% @Tryz.sizeOf4 := @Tryz.sizeOf4
theorem K7:type_of% @Tryz.sizeOf40 := @Tryz.sizeOf40
theorem KU:type_of% @Tryz.sizeOf44 := @Tryz.sizeOf44
theorem ts5:type_of% @Tryz.sizeOf5 := @Tryz.sizeOf5
theorem nn:type_of% @Tryz.sizeOf53 := @Tryz.sizeOf53
theorem xY:type_of% @Tryz.sizeOf54 := @Tryz.sizeOf54
theorem oT:type_of% @Tryz.sizeOf57 := @Tryz.sizeOf57
theorem cy:type_of% @Tryz.sizeOf76 := @Tryz.sizeOf76
theorem zV:type_of% @Tryz.sizeOf87 := @Tryz.sizeOf87
theorem ts9:type_of% @Tryz.sizeOf9 := @Tryz.sizeOf9
theorem rJ:type_of% @Tryz.sizeOf90 := @Tryz.sizeOf90
theorem yS:type_of% @Tryz.sizeOf92 := @Tryz.sizeOf92
theorem tu0:type_of% @L? := @L?
theorem c8:type_of% @Ŵ := @Ŵ
theorem SX:type_of% @ŵ := @ŵ
theorem UG:type_of% @Ŷ := @Ŷ
theorem Tc:type_of% @ŷ := @ŷ
theorem wm:type_of% @Ÿ := @Ÿ
theorem tu2:type_of% @M? := @M?
theorem U4:type_of% @Ź := @Ź
theorem UY:type_of% @ź := @ź
theorem UK:type_of% @Ż := @Ż
theorem Uz:type_of% @ż := @ż
theorem UR:type_of% @Ž := @Ž
theorem Va:type_of% @ž := @ž
theorem cJ:type_of% @k? := @k?
theorem UO:type_of% @ſ := @ſ
theorem UJ:type_of% @a? := @a?
theorem Uu:type_of% @b? := @b?
theorem Ur:type_of% @c? := @c?
theorem kB:type_of% @l? := @l?
theorem ie:type_of% @m? := @m?
theorem cS:type_of% @n? := @n?
theorem jP:type_of% @o? := @o?
theorem tu3:type_of% @N? := @N?
theorem eC:type_of% @p? := @p?
theorem Eu:type_of% @q? := @q?
theorem tu4:type_of% @O? := @O?
theorem tu5:type_of% @P? := @P?
theorem kZ:type_of% @r? := @r?
theorem wN:type_of% @s? := @s?
theorem BI:type_of% @t? := @t?
theorem cu:type_of% @u? := @u?
theorem Po:type_of% @v? := @v?
theorem tu9:type_of% @Q? := @Q?
theorem cd:type_of% @w? := @w?
theorem FZ:type_of% @x? := @x?
theorem Sy:type_of% @y? := @y?
end Go.Wk
namespace Go.Wk
open Go.Proofs Rp Go.Proofs.Tryz
set_option maxRecDepth 10000
variable {b:ByteArray}{l:Option ô}{h:List Int}{x:Int}{m:Nat}
section
open Go.Shelf Go.RowKit Go.Lib Go.Sort Go.Proofs
def Ew:Go.Shelf.Ren:=⟨λx=>match x with|6=>122|15=>179|14=>178|28=>222|29=>223|20=>214|21=>215|22=>216|23=>217|24=>218|25=>219|26=>220|27=>221|46=>244|47=>245|48=>246|49=>247|50=>248|57=>258|n=>n,λx=>match x with|22=>90|24=>76|25=>136|3=>3|39=>182|0=>0|53=>215|55=>217|4=>4|46=>208|45=>207|50=>212|5=>5|9=>9|66=>227|70=>231|76=>237|77=>238|n=>n,λx=>x⟩
theorem wt:SlLaysF0.n6 ê Ew where
 mixed:=by kernel_rfl
 f6:=⟨ "slices.SortFunc[[]loop.example/g00089/impl.Rec,loop.example/g00089/impl.Rec]",dv,func122.trans (congrArg á κ)⟩
 f14:=⟨ "slices.pdqsortCmpFunc[loop.example/g00089/impl.Rec]",dv,func178.trans (congrArg á κ)⟩
 f15:=func179.trans (congrArg á κ)
 f20:=⟨ "slices.insertionSortCmpFunc[loop.example/g00089/impl.Rec]",dv,func214.trans (congrArg á κ)⟩
 f21:=⟨ "slices.heapSortCmpFunc[loop.example/g00089/impl.Rec]",dv,func215.trans (congrArg á κ)⟩
 f22:=⟨ "slices.breakPatternsCmpFunc[loop.example/g00089/impl.Rec]",dv,func216.trans (congrArg á κ)⟩
 f23:=⟨ "slices.choosePivotCmpFunc[loop.example/g00089/impl.Rec]",dv,func217.trans (congrArg á κ)⟩
 f24:=⟨ "slices.reverseRangeCmpFunc[loop.example/g00089/impl.Rec]",dv,func218.trans (congrArg á κ)⟩
 f25:=⟨ "slices.partialInsertionSortCmpFunc[loop.example/g00089/impl.Rec]",dv,func219.trans (congrArg á κ)⟩
 f26:=⟨ "slices.partitionEqualCmpFunc[loop.example/g00089/impl.Rec]",dv,func220.trans (congrArg á κ)⟩
 f27:=⟨ "slices.partitionCmpFunc[loop.example/g00089/impl.Rec]",dv,func221.trans (congrArg á κ)⟩
 f28:=func222.trans (congrArg á κ)
 f29:=func223.trans (congrArg á κ)
 f46:=⟨ "slices.siftDownCmpFunc[loop.example/g00089/impl.Rec]",dv,func244.trans (congrArg á κ)⟩
 f47:=func245.trans (congrArg á κ)
 f48:=func246.trans (congrArg á κ)
 f49:=⟨ "slices.medianAdjacentCmpFunc[loop.example/g00089/impl.Rec]",dv,func247.trans (congrArg á κ)⟩
 f50:=⟨ "slices.medianCmpFunc[loop.example/g00089/impl.Rec]",dv,func248.trans (congrArg á κ)⟩
 f57:=⟨ "slices.order2CmpFunc[loop.example/g00089/impl.Rec]",dv,func258.trans (congrArg á κ)⟩
 t0:=tu0
 a0:=isAgg0
 z0:=ts0
 v0:=zeroValue0
 t3:=tu3
 a3:=isAgg3
 z3:=ts3
 v3:=zeroValue3
 t4:=tu4
 a4:=isAgg4
 z4:=ts4
 v4:=zeroValue4
 t5:=tu5
 a5:=isAgg5
 z5:=ts5
 v5:=zeroValue5
 t9:=tu9
 a9:=isAgg9
 z9:=ts9
 v9:=zeroValue9
 t22:=cd
 a22:=isAgg90
 z22:=rJ
 v22:=zeroValue90
 t25:=UG
 a25:=isAgg136
 z25:=UV
 v25:=zeroValue136
 t39:=wm
 a39:=isAgg182
 z39:=UD
 v39:=zeroValue182
 t45:=UY
 a45:=isAgg207
 z45:=UE
 v45:=zeroValue207
 t46:=UK
 a46:=isAgg208
 z46:=Uv
 v46:=zeroValue208
 t50:=Uz
 a50:=isAgg212
 z50:=Uy
 v50:=zeroValue212
 t53:=UR
 a53:=isAgg215
 z53:=US
 v53:=zeroValue215
 t55:=Va
 a55:=isAgg217
 z55:=UW
 v55:=zeroValue217
 t66:=UO
 a66:=isAgg227
 z66:=UF
 v66:=zeroValue227
 t70:=UJ
 a70:=isAgg231
 z70:=UA
 v70:=zeroValue231
 t76:=Uu
 a76:=isAgg237
 z76:=U3
 v76:=zeroValue237
 t77:=Ur
 a77:=isAgg238
 z77:=UB
 v77:=zeroValue238
def GS:Go.Shelf.Ren:=⟨λx=>match x with|106=>124|213=>180|265=>224|n=>n,λx=>match x with|9=>9|3=>3|n=>n,λx=>x⟩
theorem Hq:Lays.n106 ê GS where
 mixed:=by kernel_rfl
 f106:=func124.trans (congrArg á κ)
 f213:=func180.trans (congrArg á κ)
 f265:=func224.trans (congrArg á κ)
 t3:=tu3
 a3:=isAgg3
 z3:=ts3
 v3:=zeroValue3
 t9:=tu9
 a9:=isAgg9
 z9:=ts9
 v9:=zeroValue9
theorem GR(x y:Ac)(W:ä):Calls ê 123 #[.agg x.cs.toArray,.agg y.cs.toArray] W λe w=>e = .returned (.int .i64 (cfN x y))/\∃q o,w=Go.Sort.grow (W.drewN q) o:=by
 have h:=λa=>Any.strings_Compare Hq x.r.Name y.r.Name a
 change ∀a,Calls ê 124 _ _ _ at h
 change Calls ê 123 _ _ λe w=>e = .returned (.int .i64 (Ė x.r.Name.data.toList y.r.Name.data.toList))/\_
 generalize Ė x.r.Name.data.toList y.r.Name.data.toList=r at h ⊢
 unfold Ac.cs
 go_enter func123,ntmps123
 go_wp2_with (go_at_call 124;refine(h _).mono ?_;rintro e w ⟨rfl,rfl⟩)
 go_ret
 exact⟨Z,0,_,by rw[alloc_eq_grow,alloc_eq_grow,grow_grow];rfl⟩
theorem KW{w:ä}{a:Option ô}{n c:Nat}{V:List Ac}{f:List Nat}(o:own ã w [.slice a n c] V f)(N:f.Nodup)(h:V.length<=1000000):Ret ê 122 #[.slice a n c,.func (.func 123) #[] #[]] w λv b=>∃u,Mut w b f [.slice a n c] u/\u.Perm V/\Ord nLt Eh u:=
 KL (g:=123) wt Tryz.isAgg76 cy (enters_of Tryz.func123 κ rfl) (λW x y=>GR x y W) o N h
end
theorem ly{w:ä}(X:aj w l h m):am 162 [ak l h m,ag x] w λv W=>v = .bool (decide (x∈h)):=by
 have L:=sL X;obtain⟨F,O⟩:=X;refine bv func162 Z (λQ g N=>?_);have H:=Sep.start (aC O ba);refine aG 116663618 ?_;refine cp (j:=Nat) (λk=>[(0,ak l h m),(1,ag x),(5,ag k)]) (λk W=>Sep No w [] [Ab â [ak l h m] h F] W/\k<=h.length/\(∀i,i<k->h.getD i 0≠x)) (λk=>h.length-k) 0 bf ⟨H,ω,λi n=>by omega⟩ (λk H a=>?_);obtain⟨a,o,j⟩:=a;refine br 0x9f3d2ff1125 (λH=>?_) (λH=>?_)
 .obtain⟨H,b,c,f⟩:=dW (a.Ab 0 Z) k ω;have H:=gM (a.Ab 0 Z) k ω;refine br 0x9f3d138f3ef11206f5e (λH=>?_) (λH=>?_)
  .exact aT (sA Z (aH (rT g Z ⟨a.ext,by rw[aU (yj (d:=0) (k:=k) ω H)]⟩)))
  refine aG 311662 ?_;refine⟨k+1,bf,⟨a,ω,λi n=>?_⟩,θ⟩
  by_cases e:i=k
  .subst e;omega
  exact j i ω
 exact bu (aT (sA Z (aH (rT g Z ⟨a.ext,by rw[a8 (yd (d:=0) λi n=>j i ω)]⟩))))

theorem nP{w:ä}(X:aj w l h m):am 120 [ak l h m,ag x] w λv W=>v = ag (idxOf h x):=by
 have L:=sL X;obtain⟨F,O⟩:=X;refine bv func120 Z (λQ g N=>?_);have H:=Sep.start (aC O ba);refine aG 0x6f312ff12542 ?_;refine cp (j:=Nat) (λk=>[(0,ak l h m),(1,ag x),(7,ag h.length),(8,ag k)]) (λk W=>Sep No w [] [Ab â [ak l h m] h F] W/\k<=h.length/\(∀i,i<k->h.getD i 0≠x)) (λk=>h.length-k) 0 bf ⟨H,ω,λi j=>by omega⟩ (λk H a=>?_);obtain⟨a,n,f⟩:=a;refine br 10441682 (λH=>?_) (λH=>?_)
 .obtain⟨H,b,c,d⟩:=dW (a.Ab 0 Z) k ω;have H:=gM (a.Ab 0 Z) k ω;refine br 0x9f3d38f3ef111241206f5e (λH=>?_) (λH=>?_)
  .exact aT (sR 2 Z (aH (rT g Z ⟨a.ext,congrArg (é .i64) (Q4 ω H.symm f).symm⟩)))
  refine aG 203886 ?_;refine⟨k+1,bf,⟨a,ω,λi j=>?_⟩,θ⟩
  by_cases e:i=k
  .subst e;omega
  exact f i ω
 exact bu (aT (sA Z (aH (rT g Z ⟨a.ext,congrArg (é .i64) (Ot λi j=>f i ω).symm⟩))))

theorem eV{w:ä}(S:aj w l h m):am 80 [ak l h m,ag x] w λv W=>v = .bool (decide (x∈h)):=by
 obtain⟨F,X⟩:=S;refine bv func80 Z (λQ c N=>?_);have H:=Sep.start (aC X ba);refine aG 70210 ?_;refine sE func120 Z (nP (H.Ae 0 Z)) H (λH a b=>sR 2 Z (rN c Z ?_));exact⟨b.ext,by rw[Nd]⟩

theorem cV{w:ä}{V l i:Int}: am 26 [ag V,ag l,ag i] w λv W=>v = .bool (ins V l i):=by
 refine bv Ĥ Z (λQ h N=>?_);have H:=Sep.start (w:=w) (F:=[]) σ;refine aG 30478914 ?_;refine cU 3 (j:=3) (E:=ã) (t:=13) Z (λa b=>ld 39989606671 h a b) (λa b=>?_);have a:=H.to b;exact sV Z (cX Z) (sA Z (aH (rT h Z ⟨a.ext,Z⟩)))

theorem cT{w:ä}{V l i:Int}: am 57 [ag V,ag l,ag i] w λv W=>v = .bool (ins V l i):=by
 refine bv Ĳ Z (λQ h N=>?_);have H:=Sep.start (w:=w) (F:=[]) σ;refine aG 30478914 ?_;refine cU 3 (j:=3) (E:=ã) (t:=13) Z (λa b=>ld 39989606671 h a b) (λa b=>?_);have a:=H.to b;exact sV Z (cX Z) (sA Z (aH (rT h Z ⟨a.ext,Z⟩)))

theorem x6{w:ä}{y:Int}: am 24 [ag x,ag y] w λv W=>v = .bool (cOK x y):=by
 refine bv func24 Z (λQ h N=>?_);have H:=Sep.start (w:=w) (F:=[]) σ;refine aG 4674 ?_;refine sE Ĥ Z cV H (λH a b=>sM Z (cU 2 (j:=2) (E:=ã) (t:=9) Z (λH a=>bc (wgE Z H) Z (bL Z) (fD (wgE Z H) Z (pcK Ĥ Z) cV (λH c=>a _ _ gP Z (Ext.refl.trans c)))) (λH a=>?_)));have H:=b.to a;exact sV Z (cX Z) (sA Z (aH (rT h Z ⟨H.ext,Z⟩)))

theorem yv{w:ä}{y:Int}: am 25 [ag x,ag y] w λv W=>v = .bool (rOK x y):=by
 refine bv func25 Z (λQ h N=>?_);have H:=Sep.start (w:=w) (F:=[]) σ;refine aG 4674 ?_;refine sE Ĥ Z cV H (λH a b=>sM Z (cU 2 (j:=2) (E:=ã) (t:=9) Z (λH a=>bc (wgE Z H) Z (bL Z) (fD (wgE Z H) Z (pcK Ĥ Z) cV (λH c=>a _ _ gP Z (Ext.refl.trans c)))) (λH a=>?_)));have H:=b.to a;exact sV Z (cX Z) (sA Z (aH (rT h Z ⟨H.ext,Z⟩)))

theorem iY{w:ä}{s:A0}: am 7 [s.v] w λv W=>v = ag s.fault:=by
 refine bv func7 Z (λQ h N=>?_);have H:=Sep.start (w:=w) (F:=[]) σ;refine aT (ci aB Z H (λH a b c d=>aX 3846470341204 d ?_));refine sE func24 Z x6 d (λH a b=>sV Z (cj Z) (sM Z (cU 6 (j:=6) (E:=â) (t:=15) Z (λH a=>bc (wgE Z H) Z (bd kB Z ts2 Z) (bc (wgE Z H) Z (bp tu2 Z (bD (b.box 0 Z) Z)) (bc (wgE Z H) Z (bd kB Z ts2 Z) (bc (wgE Z H) Z (bp tu2 Z (bD (b.box 0 Z) Z)) (fD (wgE Z H) Z (pcK func25 Z) yv (λc d=>bc (wgE Z H) Z (cj Z) (a _ _ gP Z (Ext.refl.trans d)))))))) (λH a=>?_))));have H:=b.to a;refine sV Z (ko Z Z) (sM Z (cU 4 (j:=14) (E:=â) (t:=21) Z (λa b=>bc (wgE Z a) Z (bd kB Z ts2 Z) (bc (wgE Z a) Z (bp tu2 Z (bD (H.box 0 Z) Z)) (fD (wgE Z a) Z (pcK Ĥ Z) cV (λc d=>bc (wgE Z a) Z (cj Z) (b _ _ gP Z (Ext.refl.trans d)))))) (λa b=>?_)));have a:=H.to b;refine sV Z (ko Z Z) (sM Z (cU 4 (j:=20) (E:=â) (t:=27) Z (λH b=>bc (wgE Z H) Z (bd kB Z ts2 Z) (bc (wgE Z H) Z (bp tu2 Z (bD (a.box 0 Z) Z)) (fD (wgE Z H) Z (pcK Ĥ Z) cV (λc d=>bc (wgE Z H) Z (cj Z) (b _ _ gP Z (Ext.refl.trans d)))))) (λH b=>?_)));have H:=a.to b;refine sV Z (ko Z Z) (sM Z (cU 4 (j:=26) (E:=â) (t:=33) Z (λa b=>bc (wgE Z a) Z (bd kB Z ts2 Z) (bc (wgE Z a) Z (bp tu2 Z (bD (H.box 0 Z) Z)) (fD (wgE Z a) Z (pcK Ĥ Z) cV (λc d=>bc (wgE Z a) Z (cj Z) (b _ _ gP Z (Ext.refl.trans d)))))) (λa b=>?_)));have a:=H.to b;refine sV Z (ko Z Z) (sM Z (cU 4 (j:=32) (E:=â) (t:=39) Z (λH b=>bc (wgE Z H) Z (bd kB Z ts2 Z) (bc (wgE Z H) Z (bp tu2 Z (bD (a.box 0 Z) Z)) (fD (wgE Z H) Z (pcK Ĥ Z) cV (λc d=>bc (wgE Z H) Z (cj Z) (b _ _ gP Z (Ext.refl.trans d)))))) (λH b=>?_)));have H:=a.to b;refine sV Z (ko Z Z) (sM Z (cU 4 (j:=38) (E:=â) (t:=45) Z (λa b=>bc (wgE Z a) Z (bd kB Z ts2 Z) (bc (wgE Z a) Z (bp tu2 Z (bD (H.box 0 Z) Z)) (fD (wgE Z a) Z (pcK Ĥ Z) cV (λc d=>bc (wgE Z a) Z (cj Z) (b _ _ gP Z (Ext.refl.trans d)))))) (λa b=>?_)));have a:=H.to b;refine br 11481951 (λH=>?_) (λH=>?_)
 .exact aT (sA Z (aH (rT h Z ⟨a.ext,A0.no (by simpa only[A0.ok,ř] using H)⟩)))
 exact bi (aT (sA Z (aH (rT h Z ⟨a.ext,A0.yes (by simpa only[A0.ok,ř] using H)⟩))))

theorem i9{w:ä}{s:A0}: am 20 [s.v] w λv W=>v = ag s.fault:=by
 refine bv func20 Z (λQ h N=>?_);have H:=Sep.start (w:=w) (F:=[]) σ;refine aT (ci aB Z H (λH a b c d=>aX 3668260 d ?_));refine sE Ĳ Z cT d (λH a b=>sM Z (cU 3 (j:=3) (E:=ã) (t:=10) Z (λH a=>bc (wgE Z H) Z (bd kB Z ts2 Z) (bc (wgE Z H) Z (bp tu2 Z (bD (b.box 0 Z) Z)) (fD (wgE Z H) Z (pcK Ĳ Z) cT (λH c=>a _ _ gP Z (Ext.refl.trans c))))) (λH a=>?_)));have H:=b.to a;refine sV Z (cX Z) (sM Z (cU 3 (j:=8) (E:=ã) (t:=15) Z (λa b=>bc (wgE Z a) Z (bd kB Z ts2 Z) (bc (wgE Z a) Z (bp tu2 Z (bD (H.box 0 Z) Z)) (fD (wgE Z a) Z (pcK Ĳ Z) cT (λa c=>b _ _ gP Z (Ext.refl.trans c))))) (λa b=>?_)));have a:=H.to b;refine sV Z (cX Z) (sM Z (cU 3 (j:=13) (E:=ã) (t:=20) Z (λH b=>bc (wgE Z H) Z (bd kB Z ts2 Z) (bc (wgE Z H) Z (bp tu2 Z (bD (a.box 0 Z) Z)) (fD (wgE Z H) Z (pcK Ĳ Z) cT (λH c=>b _ _ gP Z (Ext.refl.trans c))))) (λH b=>?_)));have H:=a.to b;refine aG 17974095 ?_;refine cU 3 (j:=1) (E:=ã) (t:=26) Z (λa b=>bc (wgE Z a) Z (bd kB Z ts2 Z) (bc (wgE Z a) Z (bp tu2 Z (bD (H.box 0 Z) Z)) (fD (wgE Z a) Z (pcK Ĳ Z) cT (λa c=>b _ _ gP Z (Ext.refl.trans c))))) (λa b=>?_);have a:=H.to b;refine sV Z (cX Z) (sM Z (cU 3 (j:=6) (E:=ã) (t:=31) Z (λH b=>bc (wgE Z H) Z (bd kB Z ts2 Z) (bc (wgE Z H) Z (bp tu2 Z (bD (a.box 0 Z) Z)) (fD (wgE Z H) Z (pcK Ĳ Z) cT (λH c=>b _ _ gP Z (Ext.refl.trans c))))) (λH b=>?_)));have H:=a.to b;refine sV Z (cX Z) (sM Z (cU 3 (j:=11) (E:=ã) (t:=36) Z (λa b=>bc (wgE Z a) Z (bd kB Z ts2 Z) (bc (wgE Z a) Z (bp tu2 Z (bD (H.box 0 Z) Z)) (fD (wgE Z a) Z (pcK Ĳ Z) cT (λa c=>b _ _ gP Z (Ext.refl.trans c))))) (λa b=>?_)));have a:=H.to b;refine sV Z (cX Z) (sM Z (cU 3 (j:=16) (E:=ã) (t:=41) Z (λH b=>bc (wgE Z H) Z (bd kB Z ts2 Z) (bc (wgE Z H) Z (bp tu2 Z (bD (a.box 0 Z) Z)) (fD (wgE Z H) Z (pcK Ĳ Z) cT (λH c=>b _ _ gP Z (Ext.refl.trans c))))) (λH b=>?_)));have H:=a.to b;refine aG 19219279 ?_;refine sV Z (cj Z) (sM Z (cU 4 (j:=2) (E:=â) (t:=49) Z (λa b=>bc (wgE Z a) Z (bd kB Z ts2 Z) (bc (wgE Z a) Z (bp tu2 Z (bD (H.box 0 Z) Z)) (fD (wgE Z a) Z (pcK Ĳ Z) cT (λc d=>bc (wgE Z a) Z (cj Z) (b _ _ gP Z (Ext.refl.trans d)))))) (λa b=>?_)));have a:=H.to b;refine br 11481951 (λH=>?_) (λH=>?_)
 .exact aT (sA Z (aH (rT h Z ⟨a.ext,A0.no (by simpa only[A0.ok,cOK,rOK,ř,ĸ] using H)⟩)))
 exact bi (aT (sA Z (aH (rT h Z ⟨a.ext,A0.yes (by simpa only[A0.ok,cOK,rOK,ř,ĸ] using H)⟩))))

theorem k9{w:ä}(l:b.size<=Ë):am 75 [.string b] w λv W=>v = ag (bU b):=by
 unfold Ë at l;refine bv func75 Z (λQ h N=>?_);have H:=Sep.start (w:=w) (F:=[]) σ;refine aG 75074 ?_;refine sV Z (s9 tu9 Z) (sR 2 Z (cU 3 (j:=3) (E:=â) (t:=10) Z (λa c=>bc (wgE Z a) Z (bL Z) (bc (wgE Z a) Z (s9 tu9 Z) (bc (wgE Z a) Z (pG Z Z) (c _ _ gP Z Ext.refl)))) (λa c=>?_)));have a:=H.to c;refine sV Z (ko Z Z) (sM Z (cU 3 (j:=8) (E:=â) (t:=15) Z (λH c=>bc (wgE Z H) Z (bL Z) (bc (wgE Z H) Z (jO tu9 Z Z 0 ω wY) (bc (wgE Z H) Z (AI Z Z) (c _ _ gP Z Ext.refl)))) (λH c=>?_)));have H:=a.to c;refine sV Z (ko Z Z) (sM Z (cU 3 (j:=13) (E:=â) (t:=20) Z (λa c=>bc (wgE Z a) Z (bL Z) (bc (wgE Z a) Z (jO tu9 Z Z 0 ω (by first|omega|(simp only[bz,aP,bI,bJ,als_Bool_not_eq_true_,Ú,ab,aa] at a;omega))) (bc (wgE Z a) Z (pG Z Z) (c _ _ gP Z Ext.refl)))) (λa c=>?_)));have a:=H.to c;refine br 11481951 (λH=>?_) (λH=>?_)
 .refine aT (sA Z (aH (rT h Z (⟨a.ext,Ck ?_⟩))))
  by_cases s:1<=b.size/\b.size<=8
  .refine xv 0 ω ?_;simp only[Hz,bJ,bz,aP,bI,ab,aa] at H ⊢;simp
   omega
  simp[ow];omega
 simp only[bJ,bz,aP,bI,ab,aa] at H;refine aG 7291486 ?_;refine cp (j:=Nat) (λk=>[(0,.string b),(3,ag k)]) (λk W=>Sep No w [] [] W/\k<=b.size/\Ji b k=ã) (λk=>b.size-k) 0 bf ⟨a,ω,Z⟩ (λk H d=>?_);obtain⟨d,m,i⟩:=d;refine aW (aT (sR 2 Z (sV Z (s9 tu9 Z) (br 40765 (λH=>?_) (λH=>?_)))))
 .refine aG 287338334 ?_;refine sV Z (jO tu9 Z Z k ω ω) (sR 2 Z (cU 4 (j:=4) (E:=â) (t:=36) Z (λH a=>bc (wgE Z H) Z (bL Z) (bc (wgE Z H) Z (bL Z) (bc (wgE Z H) Z (jO tu9 Z Z k ω wY) (bc (wgE Z H) Z (pG Z Z) (a _ _ gP Z Ext.refl))))) (λH a=>?_)));have H:=d.to a;refine sV Z (ko Z Z) (sM Z (cU 10 (j:=10) (E:=ã) (t:=48) Z (λa c=>bc (wgE Z a) Z (bL Z) (bc (wgE Z a) Z (bL Z) (bc (wgE Z a) Z (jO tu9 Z Z k ω (by first|omega|(simp only[bz,aP,bI,bJ,als_Bool_not_eq_true_,Ú,ab,aa] at a;omega))) (bc (wgE Z a) Z (AI Z Z) (bc (wgE Z a) Z (bL Z) (cU 4 (j:=15) (E:=â) (t:=47) Z (λe f=>bc (wgE Z e) Z (bL Z) (bc (wgE Z e) Z (bL Z) (bc (wgE Z e) Z (jO tu9 Z Z k ω (by first|omega|(simp only[bz,aP,bI,bJ,als_Bool_not_eq_true_,Ú,ab,aa] at a e;omega))) (bc (wgE Z e) Z (pG Z Z) (f _ _ gP Z Ext.refl))))) (λe f=>bc (wgE Z a) Z (ko Z Z) (c _ _ gP Z (Ext.refl.trans f))))))))) (λa c=>?_)));have a:=H.to c;refine br 11481935 (λH=>?_) (λH=>?_)
  .refine aT (sA Z (aH (rT h Z (⟨a.ext,Ck (xv k ω ?_)⟩))));simp only[Hz,bJ,bz,aP,bI,ab,aa] at H ⊢
   omega
  refine aG 311662 ?_;refine⟨k+1,bf,⟨a,ω,?_⟩,θ⟩;rw[Ji,i,Þ];simp only[Hz,bJ,bz,aP,bI,ab,aa] at H ⊢;simp only[als_Bool_not_eq_true_,aa]
  by_cases g:k=0
  .subst g;omega
  omega
 refine bu (aT (sA Z (aH (rT h Z (⟨d.ext,Ht ?_⟩)))));obtain rfl:k=b.size:=by omega
 simp only[ow,i,Bool.and_true,bJ,bz,aP,bI,ab,aa]
 omega

theorem kV{w:ä}(l:b.size<=Ë):am 40 [.string b] w λv W=>v = ag (bU b):=by
 unfold Ë at l;refine bv func40 Z (λQ h N=>?_);have H:=Sep.start (w:=w) (F:=[]) σ;refine aG 75074 ?_;refine sV Z (s9 tu9 Z) (sM Z (aH (bP (cp (j:=Nat) (λk=>[(0,.string b),(6,ag b.size),(7,ag k)]) (λk W=>Sep No w [] [] W/\k<=b.size/\Ji b k=ã) (λk=>b.size-k) 0 bf ⟨H,ω,Z⟩ (λk H a=>?_)))));obtain⟨a,m,i⟩:=a;refine br 10441682 (λH=>?_) (λH=>?_)
 .refine aG 1177913683806 ?_;refine sV Z (jO tu9 Z Z k ω ω) (sR 2 Z (cU 4 (j:=4) (E:=ã) (t:=18) Z (λH c=>bc (wgE Z H) Z (bL Z) (bc (wgE Z H) Z (bL Z) (bc (wgE Z H) Z (jO tu9 Z Z k ω wY) (bc (wgE Z H) Z (OJ Z Z) (c _ _ gP Z Ext.refl))))) (λH c=>?_)));have H:=a.to c;refine aG 1196879 ?_;refine sV Z (cj Z) (sM Z (cU 14 (j:=2) (E:=ã) (t:=36) Z (λc d=>bc (wgE Z c) Z (bL Z) (bc (wgE Z c) Z (ji Z Z) (bc (wgE Z c) Z (bL Z) (cU 4 (j:=5) (E:=â) (t:=29) Z (λe f=>bc (wgE Z e) Z (bL Z) (bc (wgE Z e) Z (bL Z) (bc (wgE Z e) Z (jO tu9 Z Z k ω (by first|omega|(simp only[bz,aP,bI,bJ,als_Bool_not_eq_true_,Ú,ab,aa] at c e;omega))) (bc (wgE Z e) Z (AI Z Z) (f _ _ gP Z Ext.refl))))) (λe f=>bc (wgE Z c) Z (ko Z Z) (bc (wgE Z c) Z (bL Z) (cU 4 (j:=11) (E:=â) (t:=35) Z (λe g=>bc (wgE Z e) Z (bL Z) (bc (wgE Z e) Z (bL Z) (bc (wgE Z e) Z (jO tu9 Z Z k ω (by first|omega|(simp only[bz,aP,bI,bJ,als_Bool_not_eq_true_,Ú,ab,aa] at c e;omega))) (bc (wgE Z e) Z (pG Z Z) (g _ _ gP Z Ext.refl))))) (λe g=>bc (wgE Z c) Z (ko Z Z) (d _ _ gP Z ((Ext.refl.trans f).trans g)))))))))) (λc d=>?_)));have c:=H.to d;refine br 11481935 (λH=>?_) (λH=>?_)
  .refine aT (sA Z (aH (rT h Z (⟨c.ext,Ck (xv k ω ?_)⟩))));simp only[Hz,bJ,bz,aP,bI,ab,aa,als_Bool_not_eq_true_,Ú] at H ⊢
   omega
  refine aG 203886 ?_;refine⟨k+1,bf,⟨c,ω,?_⟩,θ⟩;rw[Ji,i,Þ];simp only[Hz,bJ,bz,aP,bI,ab,aa,als_Bool_not_eq_true_,Ú] at H ⊢
  omega
 refine bu (aW (aT (sM Z (sV Z (s9 tu9 Z) (sE Ĳ Z cT a (λH a c=>sV Z (cj Z) (aH (gG Z (λH=>?_) (λH=>?_)))))))))
 .refine aT (sA Z (aH (rT h Z (⟨c.ext,Ck ?_⟩))));have a:=fX H;rw[T7] at a;simp[ow]
  omega
 refine bi (aT (sA Z (aH (rT h Z (⟨c.ext,Ht ?_⟩)))));have a:=not_false H;rw[bH] at a;obtain rfl:k=b.size:=by omega
 simp only[ow,i,Bool.and_true,bJ,bz,aP,bI,ab,aa]
 omega

theorem rY{w:ä}{s:A0}(i:b.size<=1000)(j:s.A2≠0):am 157 [s.v,.string b] w λv W=>v = ag (dy s b):=by
 refine bv func157 Z (λQ h N=>?_);have H:=Sep.start (w:=w) (F:=[]) σ;refine aT (ci aB Z H (λH a c d e=>?_));have S:=rF (b:=b) 0;refine aG 1866617892 ?_;refine cp (j:=Nat) (λk=>[(1,.string b),(2,au H),(5,ag (pN b k)),(6,ag k)]) (λk W=>Sep No w [box H (.cells (A0.v s).cells 25)] [] W/\k<=b.size) (λk=>b.size-k) 0 bf ⟨e,ω⟩ (λk H f=>?_);obtain⟨f,l⟩:=f;refine aW (aT (sR 2 Z (sV Z (s9 tu9 Z) (br 40765 (λH=>?_) (λH=>?_)))))
 .have S:=rF (b:=b) k;have g:=(gB b k).toNat_lt;refine aG 4586499934 ?_;refine sV Z (jO tu9 Z Z k ω ω) (sV Z (jZ tu5 tu2 Z iO) (aG 4986444 ?_));refine⟨k+1,bf,⟨f,ω⟩,θ⟩
 refine bu ?_;obtain rfl:k=b.size:=by omega
 refine aX 3668242 f ?_;exact sV Z (uh Z Z ω) (sA Z (aH (rT h Z ⟨f.ext,Z⟩)))

theorem gZ{w:ä}{s:A0}(i:b.size<=1000)(j:s.A2≠0):am 41 [s.v,.string b] w λv W=>v = ag (dy s b):=by
 refine bv func41 Z (λQ h N=>?_);have H:=Sep.start (w:=w) (F:=[]) σ;refine aT (ci aB Z H (λH a c d e=>aG 1201188 ?_));refine sV Z (s9 tu9 Z) (sM Z (aH (bP (cp (j:=Nat) (λk=>[(1,.string b),(2,au H),(5,ag (pN b k)),(8,ag b.size),(9,ag k)]) (λk W=>Sep No w [box H (.cells (A0.v s).cells 25)] [] W/\k<=b.size) (λk=>b.size-k) 0 bf ⟨e,ω⟩ (λk H f=>?_)))));obtain⟨f,l⟩:=f;refine br 10441682 (λH=>?_) (λH=>?_)
 .have S:=rF (b:=b) k;have g:=(gB b k).toNat_lt;refine aG 18787279597406 ?_;refine sV Z (jO tu9 Z Z k ω ω) (sV Z (jZ tu5 tu2 Z iO) (aG 3262028 ?_));refine⟨k+1,bf,⟨f,ω⟩,θ⟩
 refine bu ?_;obtain rfl:k=b.size:=by omega
 refine aX 3668242 f ?_;exact sV Z (uh Z Z ω) (sA Z (aH (rT h Z ⟨f.ext,Z⟩)))

theorem cP{w:ä}{s:A0}(e:s.ok=ã):am 65 [s.v] w λv W=>v = ag (s.A2+s.A5):=by
 have S:=bm e;refine bv func65 Z (λQ h N=>?_);have H:=Sep.start (w:=w) (F:=[]) σ;refine aT (ci aB Z H (λH a b c d=>aX 83803288107300 d ?_));exact rT h Z ⟨d.ext,Z⟩

theorem gy{w:ä}{s:A0}(e:s.ok=ã):am 21 [s.v] w λv W=>v = ag (s.A2+s.A5):=by
 have S:=bm e;refine bv func21 Z (λQ h N=>?_);have H:=Sep.start (w:=w) (F:=[]) σ;refine aT (ci aB Z H (λH a b c d=>aX 83803288107300 d ?_));exact rT h Z ⟨d.ext,Z⟩

theorem fS{w:ä}{s:A0}(e:s.ok=ã):am 43 [s.v,ag x] w λv W=>v = .bool (ins x 0 (s.A2+s.A5-1)):=by
 have S:=bm e;refine bv func43 Z (λQ h N=>?_);have H:=Sep.start (w:=w) (F:=[]) σ;refine aT (ci aB Z H (λH a b c d=>aX 4321572 d ?_));exact sE func21 Z (gy η) d (λH a b=>sV Z (sT Z Z iO) (sE Ĳ Z cT b (λH a b=>sA Z (aH (rT h Z ⟨b.ext,Z⟩)))))

end Go.Wk
