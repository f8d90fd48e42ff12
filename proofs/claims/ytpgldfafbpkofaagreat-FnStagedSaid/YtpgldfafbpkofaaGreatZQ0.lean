/-
  Laws on walking, and the functions walked, each once: what this claim comes to.
-/
import Derived.Test.YtpgldfafbpkofaaGreatRows
import Derived.Tactics
import Derived.OrdersHeld
import Derived.WalkKit
import Derived.Great.BuildSlice
import Derived.Laws.Tables
import Derived.WideShapes
import Derived.Laws.Closers25b
import Derived.ProofKit
import Derived.OpenShut
import Derived.ShutString
import Derived.ChangeOld
import Derived.Below
import Derived.RangeFuncSeq
import Derived.RangeFuncLeaves
import Derived.Test.YtpgldfafbpkofaaGreatChecked
import Derived.Laws.BytesArg
import Derived.OrdersIn
import Derived.Maps.RangeRun
import Derived.Lib.Bytealg
import Derived.Shelf.SlSortCmp.NoneTotal
import Derived.Shelf.Small.Strs
import Derived.Shelf.SlicesG.Cmp
import Derived.Laws.CopyRow
set_option linter.unusedVariables false
set_option linter.unusedSimpArgs false
set_option maxHeartbeats 8000000
open Array renaming getD_eq_getD_getElem?->F?,getElem?_eq_getElem->Ń,getElem?_eq_some_iff->ø,getElem?_setIfInBounds_ne->Ĉ,getElem_setIfInBounds->I?,toList_inj->e?
open BitVec renaming ofInt->Ć
open Bool renaming false->â,true->ã
open Go renaming Addr->ô,Deferred->ů,FuncId->Ŕ,IntKind->Ť,Oper->ą,Operand->Â,Program->Æ,TypeId->ì,Value->è,World->ä,binOp->ł,eqGuard->ġ,execOp->À,heap_alloc_new->ŋ,invoke->X_,loadCellsFrom->i?,maxLen->Ë,resolve->ũ,run_sliceAt_slice->Ř,run_underlying->þ,storeCells->ť,typeInfo->Y?,wpIn_mono->Š,wpList_step->ŕ,yielded->U_
open Go.Builtin renaming append_->Ô,firstCells->Ŧ,lenOf->V_,zeroCells->Ø
open Go.Instr renaming sureAddr->Ŀ
open Go.IntKind renaming bits->ķ,i64->Ď,signed->Ŝ,u8->Ī,wrap->ō
open Go.Op renaming intArith->V?,intCmp->H?
open Go.Oper renaming upon_value->G?,wp->Ų
open Go.Region renaming binds->Ŏ,noSelect->ő,ready->Ě,wanted->ĝ
open Go.Value renaming int->é
open Int renaming toNat_natCast->f?
open List renaming all_eq_true->û,any_eq_true->ī,append_assoc->Î,drop_append->j?,drop_drop->ė,drop_take->İ,drop_zero->ě,eq_nil_of_length_eq_zero->í,ext_getElem?->ĉ,getElem?_drop->Ñ,getElem?_eq_getElem->Ã,getElem?_eq_none->Í,getElem?_take->Ð,map_append->Û,mem_of_getElem?->æ,mem_range->ģ,nil_append->Ý,nodup_append->ë,nodup_cons->ù,range->õ,range_succ->č,replicate->å,setIfInBounds_toArray->Z?,size_toArray->ĵ,take->J?,take_append_drop->Ġ,take_left'->Y_,take_length->ö,take_of_length_le->Ĕ,take_take->ń
open List.Sublist renaming append->ŏ
open List.cons renaming injEq->Ŗ
open Nat renaming add_assoc->Ŋ,add_comm->ĳ,beq->î,ble->ĭ,blt->ò,eq_of_beq_eq_true->Á,le_of_ble_eq_true->ü,lt_of_lt_of_le->Ů,min_eq_left->ļ,mod_eq_of_lt->C?,mul_le_mul_right->Å,one_mul->ľ,succ_mul->Ō,zero_add->K?,zero_le->ý
open Option renaming none->ç,some->á
open Prod.mk renaming injEq->ú
open UInt8 renaming ofNat->Ì,toNat_inj->ŗ,xor_assoc->Ö,xor_comm->W_
theorem ω {p : Prop} (h : p := by omega) : p := h
theorem η {p : Prop} (h : p := by assumption) : p := h
theorem ξ {p : Prop} (h : p := by first | assumption | omega) : p := h
theorem κ {p : Prop} (h : p := by kernel_rfl) : p := h
theorem σ {p : Prop} (h : p := by simp) : p := h
theorem θ {p : Prop} (h : p := by dsimp only; omega) : p := h
namespace Go.Wk
theorem pj2{c d:Type _}{a A:c}{b B:d}(h:(a,b)=(A,B)):a=A/\b=B:=by simpa only[ú] using h
theorem pm2{c d:Type _}{a A:c}{b B:d}(h:a=A)(H:b=B):(a,b)=(A,B):=by subst_vars;rfl
theorem pj3{d e f:Type _}{a A:d}{b B:e}{c C:f}(h:(a,b,c)=(A,B,C)):a=A/\b=B/\c=C:=by simpa only[ú] using h
theorem pm3{d e f:Type _}{a A:d}{b B:e}{c C:f}(h:a=A)(H:b=B)(g:c=C):(a,b,c)=(A,B,C):=by subst_vars;rfl
theorem pj4{e f g i:Type _}{a A:e}{b B:f}{c C:g}{d D:i}(h:(a,b,c,d)=(A,B,C,D)):a=A/\b=B/\c=C/\d=D:=by simpa only[ú] using h
theorem pm4{e f g h:Type _}{a A:e}{b B:f}{c C:g}{d D:h}(H:a=A)(i:b=B)(j:c=C)(k:d=D):(a,b,c,d)=(A,B,C,D):=by subst_vars;rfl
theorem pj5{f g i j k:Type _}{a A:f}{b B:g}{c C:i}{d D:j}{e E:k}(h:(a,b,c,d,e)=(A,B,C,D,E)):a=A/\b=B/\c=C/\d=D/\e=E:=by simpa only[ú] using h
theorem pm5{f g h i j:Type _}{a A:f}{b B:g}{c C:h}{d D:i}{e E:j}(H:a=A)(k:b=B)(l:c=C)(m:d=D)(n:e=E):(a,b,c,d,e)=(A,B,C,D,E):=by subst_vars;rfl
theorem pj6{g i j k l m:Type _}{a A:g}{b B:i}{c C:j}{d D:k}{e E:l}{f F:m}(h:(a,b,c,d,e,f)=(A,B,C,D,E,F)):a=A/\b=B/\c=C/\d=D/\e=E/\f=F:=by simpa only[ú] using h
theorem pm6{g h i j k l:Type _}{a A:g}{b B:h}{c C:i}{d D:j}{e E:k}{f F:l}(H:a=A)(m:b=B)(n:c=C)(o:d=D)(p:e=E)(q:f=F):(a,b,c,d,e,f)=(A,B,C,D,E,F):=by subst_vars;rfl
theorem pj7{i j k l m n o:Type _}{a A:i}{b B:j}{c C:k}{d D:l}{e E:m}{f F:n}{g G:o}(h:(a,b,c,d,e,f,g)=(A,B,C,D,E,F,G)):a=A/\b=B/\c=C/\d=D/\e=E/\f=F/\g=G:=by simpa only[ú] using h
theorem pm7{h i j k l m n:Type _}{a A:h}{b B:i}{c C:j}{d D:k}{e E:l}{f F:m}{g G:n}(H:a=A)(o:b=B)(p:c=C)(q:d=D)(r:e=E)(s:f=F)(t:g=G):(a,b,c,d,e,f,g)=(A,B,C,D,E,F,G):=by subst_vars;rfl
theorem pj8{j k l m n o p q:Type _}{a A:j}{b B:k}{c C:l}{d D:m}{e E:n}{f F:o}{g G:p}{i I:q}(h:(a,b,c,d,e,f,g,i)=(A,B,C,D,E,F,G,I)):a=A/\b=B/\c=C/\d=D/\e=E/\f=F/\g=G/\i=I:=by simpa only[ú] using h
theorem pm8{h j k l m n o p:Type _}{a A:h}{b B:j}{c C:k}{d D:l}{e E:m}{f F:n}{g G:o}{i I:p}(H:a=A)(q:b=B)(r:c=C)(s:d=D)(t:e=E)(u:f=F)(v:g=G)(w:i=I):(a,b,c,d,e,f,g,i)=(A,B,C,D,E,F,G,I):=by subst_vars;rfl
theorem pj9{k l m n o p q r s:Type _}{a A:k}{b B:l}{c C:m}{d D:n}{e E:o}{f F:p}{g G:q}{i I:r}{j J:s}(h:(a,b,c,d,e,f,g,i,j)=(A,B,C,D,E,F,G,I,J)):a=A/\b=B/\c=C/\d=D/\e=E/\f=F/\g=G/\i=I/\j=J:=by simpa only[ú] using h
theorem pm9{h k l m n o p q r:Type _}{a A:h}{b B:k}{c C:l}{d D:m}{e E:n}{f F:o}{g G:p}{i I:q}{j J:r}(H:a=A)(s:b=B)(t:c=C)(u:d=D)(v:e=E)(w:f=F)(x:g=G)(y:i=I)(z:j=J):(a,b,c,d,e,f,g,i,j)=(A,B,C,D,E,F,G,I,J):=by subst_vars;rfl
theorem pj10{l m n o p q r s t u:Type _}{a A:l}{b B:m}{c C:n}{d D:o}{e E:p}{f F:q}{g G:r}{i I:s}{j J:t}{k K:u}(h:(a,b,c,d,e,f,g,i,j,k)=(A,B,C,D,E,F,G,I,J,K)):a=A/\b=B/\c=C/\d=D/\e=E/\f=F/\g=G/\i=I/\j=J/\k=K:=by simpa only[ú] using h
theorem pm10{h l m n o p q r s t:Type _}{a A:h}{b B:l}{c C:m}{d D:n}{e E:o}{f F:p}{g G:q}{i I:r}{j J:s}{k K:t}(H:a=A)(u:b=B)(v:c=C)(w:d=D)(x:e=E)(y:f=F)(z:g=G)(L:i=I)(M:j=J)(N:k=K):(a,b,c,d,e,f,g,i,j,k)=(A,B,C,D,E,F,G,I,J,K):=by subst_vars;rfl
theorem pj11{m n p q r s t u v w o:Type _}{a A:m}{b B:n}{c C:p}{d D:q}{e E:r}{f F:s}{g G:t}{i I:u}{j J:v}{k K:w}{l L:o}(h:(a,b,c,d,e,f,g,i,j,k,l)=(A,B,C,D,E,F,G,I,J,K,L)):a=A/\b=B/\c=C/\d=D/\e=E/\f=F/\g=G/\i=I/\j=J/\k=K/\l=L:=by simpa only[ú] using h
theorem pm11{h m o p q r s t u v n:Type _}{a A:h}{b B:m}{c C:o}{d D:p}{e E:q}{f F:r}{g G:s}{i I:t}{j J:u}{k K:v}{l L:n}(H:a=A)(w:b=B)(y:c=C)(z:d=D)(M:e=E)(N:f=F)(O:g=G)(P:i=I)(Q:j=J)(R:k=K)(x:l=L):(a,b,c,d,e,f,g,i,j,k,l)=(A,B,C,D,E,F,G,I,J,K,L):=by subst_vars;rfl
theorem aa:type_of% @decide_eq_false_iff_not := @decide_eq_false_iff_not
theorem ab:type_of% @decide_eq_true_eq := @decide_eq_true_eq
theorem aO:type_of% @List.length_append.{0} := @List.length_append.{0}
theorem aV:type_of% @List.length_nil.{0} := @List.length_nil.{0}
theorem aR:type_of% @List.length_cons.{0} := @List.length_cons.{0}
theorem aQ:type_of% @List.not_mem_nil.{0} := @List.not_mem_nil.{0}
theorem aM:type_of% @List.mem_cons.{0} := @List.mem_cons.{0}
theorem aD:type_of% @List.mem_singleton.{0} := @List.mem_singleton.{0}
theorem bE:type_of% @List.length_set.{0} := @List.length_set.{0}
theorem aP:type_of% @Bool.and_eq_true := @Bool.and_eq_true
theorem aZ:type_of% @List.length_replicate.{0} := @List.length_replicate.{0}
theorem aI:type_of% @List.mem_append.{0} := @List.mem_append.{0}
theorem aF:type_of% @Nat.le_trans := @Nat.le_trans
theorem aN:type_of% @Nat.le_refl := @Nat.le_refl
theorem aS:type_of% @List.length_map.{0,0} := @List.length_map.{0,0}
theorem aY:type_of% @List.length_take.{0} := @List.length_take.{0}
theorem aU:type_of% @decide_eq_true := @decide_eq_true
theorem a8:type_of% @decide_eq_false := @decide_eq_false
theorem bB:type_of% @or_false := @or_false
theorem bx:type_of% @List.getElem_mem.{0} := @List.getElem_mem.{0}
theorem bz:type_of% @Bool.or_eq_false_iff := @Bool.or_eq_false_iff
theorem bJ:type_of% @Bool.or_eq_true := @Bool.or_eq_true
theorem bY:type_of% @List.mem_map.{0,0} := @List.mem_map.{0,0}
theorem bh:type_of% @List.getElem?_set_ne.{0} := @List.getElem?_set_ne.{0}
theorem bZ:type_of% @List.length_drop.{0} := @List.length_drop.{0}
theorem b8:type_of% @Nat.add_mul := @Nat.add_mul
theorem bQ:type_of% @Int.toNat_of_nonneg := @Int.toNat_of_nonneg
theorem ac:type_of% @if_neg.{1} := @if_neg.{1}
theorem ae:type_of% @if_pos.{1} := @if_pos.{1}
theorem als_Bool_not_eq_true_:type_of% @Bool.not_eq_true' := @Bool.not_eq_true'
theorem bI:type_of% @Bool.and_eq_false_iff := @Bool.and_eq_false_iff
set_option linter.unusedVariables false
variable {p:Prop}
theorem bj(h:p:=by(try dsimp only);omega):p:=h
theorem db(h:p:=by unfold maxLen;omega):p:=h
theorem df(h:p:=by simp[gone]):p:=h
theorem dp(h:p:=by(try simp only[aO,aV,aR]);unfold maxLen;omega):p:=h
theorem dj(h:p:=by(try simp only[aO,aV,aR]);omega):p:=h
theorem dv(h:p:=by decide):p:=h
theorem fh(h:p:=by first|omega|(simp only[bE];omega)):p:=h
theorem fF(h:p:=by intro x hx;unfold Ak;simp only[aM,aQ,bB] at hx;omega):p:=h
theorem gR(h:p:=by simp[Wk.box,e]):p:=h
theorem gY(h:p:=by exact rfl):p:=h
theorem gQ(h:p:=by unfold Ak;omega):p:=h
theorem gX(h:p:=by simp[h]):p:=h
theorem ic(h:p:=by(try simp only[aV]);unfold maxLen;omega):p:=h
theorem ia(h:p:=by(try simp only[aV]);omega):p:=h
theorem iQ(h:p:=by simp[Wk.box]):p:=h
theorem iP(h:p:=by unfold Rec.Ok;(try unfold Ak);(try unfold maxLen);(try dsimp only);omega):p:=h
theorem oy(h:p:=by first|with_reducible assumption|assumption):p:=h
theorem jx(h:p:=by simp[blocks,A4]):p:=h
theorem mZ(h:p:=by simp_all):p:=h
theorem jT(h:p:=by simp[hb']):p:=h
theorem jV(h:p:=by simp_all<;>omega):p:=h
theorem kI(h:p:=by rw[hnp];rfl):p:=h
theorem km(h:p:=by simpa[blocks,Wk.box] using hm):p:=h
theorem kW(h:p:=by rw[<- hel];first|omega|simp_all):p:=h
theorem lN(h:p:=by simpa using h):p:=h
theorem mb(h:p:=by simp[hb]):p:=h
theorem l0(h:p:=by first|assumption|(unfold Ak;omega)):p:=h
theorem mR(h:p:=by(try dsimp only at hj);omega):p:=h
theorem np(h:p:=by rw[bE];omega):p:=h
theorem m9(h:p:=by simpa using H):p:=h
theorem oi(h:p:=by simpa using hk):p:=h
theorem pP(h:p:=by simp_all[mv]):p:=h
theorem q8(h:p:=by simp[Wk.A4]):p:=h
theorem rd(h:p:=by simp[hq]):p:=h
theorem qL(h:p:=by subst_vars;simp):p:=h
theorem qR(h:p:=by rw[C];simp[hb]):p:=h
theorem qM(h:p:=by rw[<- hel];omega):p:=h
theorem qH(h:p:=by rw[Fd ω];omega):p:=h
theorem qN(h:p:=by first|omega|decide):p:=h
theorem qQ(h:p:=by unfold maxLen;first|omega|decide):p:=h
theorem qG(h:p:=by unfold A0.few;dsimp only;omega):p:=h
theorem sr(h:p:=by simpa using h2):p:=h
theorem sD(h:p:=by simpa using hj):p:=h
theorem sv(h:p:=by simp[hx]):p:=h
theorem tt(h:p:=by decide +kernel):p:=h
theorem tA(h:p:=by rw[z];simp[hb]):p:=h
theorem tw(h:p:=by rw[g];unfold Rec.few0;(try dsimp only);(try simp only[aO,bE,aR,aV,aZ]);omega):p:=h
theorem uq(h:p:=by simpa using hi):p:=h
theorem u2(h:p:=by simp only[fT];simp_all<;>omega):p:=h
theorem uF(h:p:=by intros;trivial):p:=h
theorem u1(h:p:=by rw[c];unfold Rec.few;(try dsimp only);(try simp only[aO,bE,aR,aV,aZ]);omega):p:=h
theorem wZ(h:p:=by rw[h];simp):p:=h
theorem xg(h:p:=by simpa using h1):p:=h
theorem xw(h:p:=by simp;omega):p:=h
theorem wW(h:p:=by rw[bE];exact h.1):p:=h
theorem wY(h:p:=by first|omega|(simp only[bz,aP,bI,bJ,als_Bool_not_eq_true_,Bool.not_eq_false',ab,aa] at H;omega)):p:=h
theorem wU(h:p:=by simp_all[gT]):p:=h
theorem wR(h:p:=by rw[aZ];omega):p:=h
theorem xz(h:p:=by unfold Ak;have:=To (z:=z);(try dsimp only);omega):p:=h
theorem zT(h:p:=by rw[h3.1];rfl):p:=h
theorem AH(h:p:=by simpa[blocks,A4] using hb):p:=h
theorem zM(h:p:=by rw[ik];omega):p:=h
theorem y9(h:p:=by simpa using hl):p:=h
theorem AL(h:p:=by have:=h.nd;simpa[blocks,A4] using this):p:=h
theorem zO(h:p:=by(conv=>arg 2;whnf);exact inferInstance):p:=h
theorem y8(h:p:=by first|exact Sep.Be H 3 rfl|exact Sep.Be H 4 rfl|exact Sep.Be H 5 rfl|exact Sep.Be H 6 rfl|exact Sep.Be H 7 rfl|exact Sep.Be H 8 rfl|exact Sep.Be H 9 rfl|exact Sep.Be H 10 rfl|exact Sep.Be H 11 rfl|exact Sep.Be H 12 rfl|exact Sep.Be H 13 rfl|exact Sep.Be H 2 rfl|exact Sep.Be H 1 rfl|exact Sep.Be H 0 rfl):p:=h
theorem zx(h:p:=by rw[el];exact h5):p:=h
theorem zW(h:p:=by unfold rW;split<;>(try split)<;>simp_all<;>omega):p:=h
theorem zR(h:p:=by rw[<- GY];first|(simp_all<;>omega)|(cases hh:z.On<;>simp_all<;>omega)):p:=h
theorem zn(h:p:=by rw[y];simp[hb]):p:=h
theorem zQ(h:p:=by simpa using hil):p:=h
theorem y0(h:p:=by rw[nR.1];omega):p:=h
theorem zC(h:p:=by first|assumption|exact hgz (by simp_all)):p:=h
theorem yT(h:p:=by show Ak 0;unfold Ak;omega):p:=h
theorem zy(h:p:=by simp[blocks,A4,e]):p:=h
theorem AR(h:p:=by unfold Ak;dsimp only;omega):p:=h
theorem Dl(h:p:=by rw[List.take_take,Nat.min_self]):p:=h
theorem Dn(h:p:=by rw[el];exact h1):p:=h
theorem Du(h:p:=by have:=h.wr;omega):p:=h
theorem DQ(h:p:=by simp[blocks,A4,d]):p:=h
theorem C2(h:p:=by show Ak (0:Int);unfold Ak;omega):p:=h
theorem Gs(h:p:=by rw[bX hk];exact bx _):p:=h
theorem F1(h:p:=by simp only[apartAt,ky] at *;simp_all):p:=h
theorem FX(h:p:=by rw[bX hi];exact bx _):p:=h
theorem Gx(h:p:=by rw[bX ω];exact bx _):p:=h
theorem FY(h:p:=by simpa using η):p:=h
theorem Hk(h:p:=by simp only[bE];omega):p:=h
theorem Gl(h:p:=by rw[bq,aO,aO,vl];rfl):p:=h
theorem G8(h:p:=by(try dsimp only);rw[DD];exact hsh):p:=h
theorem Gc(h:p:=by(try dsimp only);rw[hdl,wQ ω (by first|exact TD η|exact Ui η)]):p:=h
theorem Gi(h:p:=by rw[f];unfold Rec.few0;(try dsimp only);(try simp only[aO,bE,aR,aV,aZ]);omega):p:=h
theorem FW(h:p:=by(try dsimp only);rw[f];(try dsimp only);(try simp only[aO,bE,aR,aV,aZ]);omega):p:=h
theorem GX(h:p:=by dsimp only;rw[<- pu (k:=k) (x:=sQ s)];exact(c.dtake 5)):p:=h
theorem F6(h:p:=by rw[aO,List.length_singleton];omega):p:=h
theorem G2(h:p:=by unfold Ak;have:=P6 (d:=nm);(try dsimp only);omega):p:=h
theorem KE(h:p:=by have:=Nat.le_of_ble_eq_true hsmall;omega):p:=h
theorem G9(h:p:=by rw[List.take_append_drop];exact h):p:=h
theorem GD(h:p:=by first|with_reducible assumption|exact Ext.at η (by first|with_reducible assumption|assumption)|exact Ext.at η (Ext.at η (by first|with_reducible assumption|assumption))|assumption):p:=h
theorem GP(h:p:=by first|with_reducible assumption|exact Ext.at hx (by first|with_reducible assumption|assumption)|assumption):p:=h
theorem F5(h:p:=by first|exact Sep.s2Box H hx 0 rfl rfl rfl rfl rfl|exact Sep.s2Box H hx 1 rfl rfl rfl rfl rfl|exact Sep.s2Box H hx 2 rfl rfl rfl rfl rfl|exact Sep.s2Box H hx 3 rfl rfl rfl rfl rfl|exact Sep.s2Box H hx 4 rfl rfl rfl rfl rfl|exact Sep.s2Box H hx 5 rfl rfl rfl rfl rfl|exact Sep.s2Box H hx 6 rfl rfl rfl rfl rfl|exact Sep.s2Box H hx 7 rfl rfl rfl rfl rfl|exact Sep.s2Box H hx 8 rfl rfl rfl rfl rfl|exact Sep.s2Box H hx 9 rfl rfl rfl rfl rfl|exact Sep.s2Box H hx 10 rfl rfl rfl rfl rfl|exact Sep.s2Box H hx 11 rfl rfl rfl rfl rfl|exact Sep.s2Box H hx 12 rfl rfl rfl rfl rfl|exact Sep.s2Box H hx 13 rfl rfl rfl rfl rfl|exact Sep.s2FBox H hx 0 rfl rfl rfl|exact Sep.s2FBox H hx 1 rfl rfl rfl|exact Sep.s2FBox H hx 2 rfl rfl rfl|exact Sep.s2FBox H hx 3 rfl rfl rfl|exact Sep.s2FBox H hx 4 rfl rfl rfl|exact Sep.s2FBox H hx 5 rfl rfl rfl|exact Sep.s2FBox H hx 6 rfl rfl rfl|exact Sep.s2FBox H hx 7 rfl rfl rfl|exact Sep.s2FBox H hx 8 rfl rfl rfl):p:=h
theorem Hl(h:p:=by intro v hv;simp at hv;obtain⟨x,_,rfl⟩:=hv;rfl):p:=h
theorem Gb(h:p:=by rw[iX ω,iX ω];omega):p:=h
theorem Gq(h:p:=by show _<=maxLen;exact Nat.zero_le _):p:=h
theorem Hh(h:p:=by unfold kLt eQ;dsimp only;omega):p:=h
theorem GJ(h:p:=by first|omega|(simp only[bz,aP,bI,bJ,als_Bool_not_eq_true_,Bool.not_eq_false',ab,aa] at c;omega)):p:=h
theorem GQ(h:p:=by(try dsimp only);rw[nr ω,Bq (λhm=>absurd ((lF q _).2 hm) (by simpa using hno)),rS Z ω];exact BW q ω (.inr (by rw[<- ey Z ω];exact of_decide_eq_false (by simpa using D))) (λi o s=>by rw[<- ey Z ω];exact hB i o ω)):p:=h
theorem Hg(h:p:=by(try dsimp only);rw[nr ω,Bq (λhm=>absurd ((lF q _).2 hm) (by simpa using hno)),rS Z ω];exact BW q ω (.inl ω) (λi o s=>by rw[<- ey Z ω];exact hB i o ω)):p:=h
theorem G0(h:p:=by rw[hdp,hfp,bI,Bool.not_eq_false',bJ,ab,ab,aa];omega):p:=h
theorem Hp(h:p:=by(try dsimp only);rw[E4 hny,<- hel,rS Z ω];exact IT m ω (.inr (by rw[<- ey Z ω];simpa[nLt,eI] using u)) (λi d f=>by rw[<- ey Z ω];exact hB i d ω)):p:=h
theorem Gz(h:p:=by(try dsimp only);rw[E4 hny,<- hel,rS Z ω];exact IT m ω (.inl ω) (λi d f=>by rw[<- ey Z ω];exact hB i d ω)):p:=h
theorem GT(h:p:=by rw[<- hI];show _=Value.int .u8 (eN o 1).toNat;rw[AD]):p:=h
theorem F8(h:p:=by rw[OZ,n];unfold gc;rw[eW hnp];rfl):p:=h
theorem Gk(h:p:=by(try dsimp only);rw[zf ω,Bq (λhm=>absurd ((lF q _).2 hm) (by simpa using hno)),rS Z ω];exact BW q ω (.inr (by rw[<- ey Z ω];exact of_decide_eq_false (by simpa using D))) (λi s u=>by rw[<- ey Z ω];exact hB i s ω)):p:=h
theorem GC(h:p:=by(try dsimp only);rw[zf ω,Bq (λhm=>absurd ((lF q _).2 hm) (by simpa using hno)),rS Z ω];exact BW q ω (.inl ω) (λi s u=>by rw[<- ey Z ω];exact hB i s ω)):p:=h
theorem GU(h:p:=by(try dsimp only);rw[g];(try dsimp only);(try simp only[aO,bE,aR,aV,aZ]);omega):p:=h
theorem Hm(h:p:=by first|assumption|(split<;>simp)):p:=h
variable {x y U:Â}{l:List (Nat × Bool)}{c:Array è}{E:List è}{S:ä->Prop}{o i cap k:Nat}{P:Æ}{F:ô}{R:è->ä->Prop}{g:Option (Nat × Bool)}{N V:Ť}{r:Array Edge}{J B e G O K:ì}{A:Array ą}{p:String}{I:Func}{M':Nat->Prop}{z:Int}{X:Obj}
abbrev Env:=List (Nat × è)
def look:Env->Nat->Option è
  | [],_=>ç
  | (t,v)::L,u=>match î t u with
    | true=>á v
    | false=>look L u
def evL (L:Env):Â->Option è
  | .tmp t=>look L t
  | .const v=>á v
  | .func f=>á (.func (.func f) #[] #[])
  | .global g=>á (.pointer (á ⟨g,0,ç⟩))
def sub (L:Env):Env->Prop
  | []=>True
  | p::M=>look L p.1=á p.2/\sub L M
theorem Jd{L:Env}:∀ {M:Env},sub L M->∀ {t v},look M t=á v->look L t=á v
  | [],_,_,_,h=>by simp[look] at h
  | (u,x)::M,⟨H,a⟩,t,v,h=>by
    unfold look at h
    split at h
    · rename_i b
      have:=Á b
      cases h;subst this;exact H
    · exact Jd a h
structure Good (n:Nat) (a:Act) (L:Env):Prop where
  size:a.tmps.size=n
  defers:a.defers=[]
  cov:∀t v,look L t=á v->a.tmps.getD t undef=v
theorem Good.eval{n a L x v}(h:Good n a L)(H:evL L x=á v):a.eval x=v:=by
  cases x with
  | tmp t=>exact h.cov t v H
  | const u=>simpa[evL,Act.eval] using H
  | func f=>simpa[evL,Act.eval] using H
  | global g=>simpa[evL,Act.eval] using H
theorem Good.put{n a L d v}(h:Good n a L)(c:ò d n=ã):Good n (a.put (á d) v) ((d,v)::L):=by
  have f:d<n:=ü c
  refine⟨by simp[Act.put,h.size],h.defers,λt u H=>?_⟩
  unfold look at H
  simp only[Act.put,F?]
  split at H
  · rename_i b
    have:=Á b
    subst this
    cases H
    simp[h.size,f]
  · rename_i b
    have g:d≠t:=λe=>by subst e;simp at b
    rw[Ĉ g,<- F?]
    exact h.cov t u H
theorem Good.weak{n a L M}(h:Good n a L)(H:sub L M):Good n a M:=
  ⟨h.size,h.defers,λt v b=>h.cov t v (Jd H b)⟩
abbrev Post:=Exit->Env->ä->Prop
def lift (n:Nat) (Q:Post):Exit->Act->ä->Prop
  | .panic _,_,_=>False
  | .outgrown,_,_=>False
  | e,a,w=>∃L,Good n a L/\Q e L w
def W (P:Æ) (n:Nat) (c:Code) (Q:Post) (L:Env) (w:ä):Prop:=
  ∀a,Good n a L->c.wp P (lift n Q) a w
theorem W.mono{P n c Q q L w}(h:W P n c Q L w)(d:∀e L w,Q e L w->q e L w):W P n c q L w:=λa b=>
  wp_mono (h a b) λe a w H=>by
    cases e<;>first|exact H|(obtain⟨L,g,f⟩:=H;exact⟨L,g,d _ _ _ f⟩)
def thn (P:Æ) (n:Nat) (c:Code) (Q:Post):Post
  | .normal,L,w=>W P n c Q L w
  | e,L,w=>Q e L w
theorem aW{P n x y Q L w}(h:W P n x (thn P n y Q) L w):W P n (.seq x y) Q L w:=λa c=>wp_seq <|
 wp_mono (h a c) λe a w b=>by
  cases e<;>first|exact b|(obtain⟨L,H,q⟩:=b;first|exact q a H|exact⟨L,H,q⟩)
theorem bi{P n Q L w}(h:Q .normal L w):W P n .skip Q L w:=λ_ H=>wp_skip ⟨L,H,h⟩
theorem dY{P n Q L w}(h:Q .ret L w):W P n .ret Q L w:=λ_ H=>wp_ret ⟨L,H,h⟩
theorem bu{P n Q L w i}(h:Q (.exit i) L w):W P n (.exit i) Q L w:=λ_ H=>wp_exit ⟨L,H,h⟩
theorem gG{P n c x y Q L w b}(f:evL L c=á (.bool b))(d:b=ã->W P n x Q L w)(e:b=â->W P n y Q L w):
  W P n (.cond c x y) Q L w:=λa H=>wp_cond_split (H.eval f) (λh=>d h a H) (λh=>e h a H)
theorem l9{P n c x y Q L w p}[i:Decidable p](b:evL L c=á (.bool (@decide p i)))(H:p->W P n x Q L w)(a:¬ p->W P n y Q L w):
  W P n (.cond c x y) Q L w:=gG b (λh=>H (of_decide_eq_true h)) (λh=>a (of_decide_eq_false h))
theorem eL{P n c x y Q L w}(a:evL L c=á (.bool ã))(H:W P n x Q L w):W P n (.cond c x y) Q L w:=
 gG a (λ_=>H) (λh=>by cases h)
theorem gW{P n c x y Q L w}(a:evL L c=á (.bool â))(H:W P n y Q L w):W P n (.cond c x y) Q L w:=
 gG a (λh=>by cases h) (λ_=>H)
def blk (I:Nat) (Q:Post):Post
  | .exit i,L,w=>match î i I with
    | true=>Q .normal L w
    | false=>Q (.exit i) L w
  | e,L,w=>Q e L w
theorem bP{P n I c Q L w}(h:W P n c (blk I Q) L w):W P n (.block I c) Q L w:=λa f=>wp_block <|
 wp_mono (h a f) λe a w d=>by
  cases e with
  | exit i=>
   obtain⟨L,g,H⟩:=d
   simp only[blk] at H
   simp only[Exit.inBlock]
   cases b:î i I with
   | true=>
    rw[b] at H
    rw[ae (Á b)]
    exact⟨L,g,H⟩
   | false=>
    rw[b] at H
    rw[ac (λe=>by subst e;simp at b)]
    exact⟨L,g,H⟩
  | _=>exact d
def again {a:Type}(E:a->Env) (I:a->ä->Prop) (b:a->Nat) (g:a) (Q:Post):Post
  | .normal,L,w=>∃G,sub L (E G)/\I G w/\b G<b g
  | e,L,w=>Q e L w
def meets {a:Type}(E:a->Env) (I:a->ä->Prop) (Q:Post):Post
  | .normal,L,w=>∃g,sub L (E g)/\I g w
  | e,L,w=>Q e L w
theorem cp{P n c Q L w}{j:Type}(E:j->Env)(I:j->ä->Prop)(o:j->Nat)(G:j)(D:sub L (E G))(s:I G w)
  (R:∀g w,I g w->W P n c (again E I o g Q) (E g) w):W P n (.loop c) Q L w:=by
 have N:∀k g w,o g=k->I g w->∀a,Good n a (E g)->∀(b:Frame) (K:List Item) (C:List Frame),
   ∃e A f,lift n Q e A f/\Arrives P (lone (b.at a (.code c :: .inLoop c::K)) C w) b K C e A f:=by
  intro k
  induction k using Nat.strongRecOn with
  | _ k M=>
   intro g w y t a m b K C
   obtain⟨e,d,i,h,H⟩:=R g w t a m b _ C
   cases e with
   | normal=>
    obtain⟨S,x,p,F,u,z⟩:=h
    obtain⟨r,q,O,B,v⟩:=M (o p) (y ▸ z) p i rfl u d (x.weak F) b K C
    exact⟨r,q,O,B,.of_steps (Steps.trans H (.one step_inLoop)) v⟩
   | exit J=>exact⟨.exit J,d,i,h,.pass rfl (λ_ _ => .inl σ) H⟩
   | goto l=>exact⟨.goto l,d,i,h,.pass rfl (λ_ _ => .inl σ) H⟩
   | ret=>exact⟨.ret,d,i,h,.pass rfl (λ_ _ => .inl σ) H⟩
   | panic T=>exact h.elim
   | outgrown=>exact h.elim
 intro a m b K C
 obtain⟨e,A,f,h,H⟩:=N _ G w rfl s a (m.weak D) b K C
 exact⟨e,A,f,h,.of_steps (.one step_loop) H⟩
theorem tT{P n x y Q L w}{c:Type}(E:c->Env)(I:c->ä->Prop)
  (h:W P n x (meets E I Q) L w)
  (k:∀g b,I g b->W P n y Q (E g) b):W P n (.seq x y) Q L w:=
 aW (h.mono λe l b H=>by
  cases e with
  | normal=>
   obtain⟨g,s,d⟩:=H
   exact λa f=>k g b d a (f.weak s)
  | _=>exact H)
theorem QC{P n c Q L M w}(s:sub L M)(h:W P n c Q M w):W P n c Q L w:=λa H=>h a (H.weak s)
def Ret (P:Æ) (f:Ŕ) (a:Array è) (w:ä) (R:è->ä->Prop):Prop:=
  Calls P f a w λe W=>∃v,e = .returned v/\R v W
theorem Ret.mono{P f a w R r}(h:Ret P f a w R)(b:∀v W,R v W->r v W):Ret P f a w r:=
  Calls.mono h λ_ _ ⟨v,e,H⟩=>⟨v,e,b _ _ H⟩
def wu:Nat->List è->Env
  | _,[]=>[]
  | k,v::E=>(k,v)::wu (k+1) E
theorem CH:∀(E:List è) (k t:Nat) (v:è),look (wu k E) t=á v->∃j,t=k+j/\E[j]? = á v
  | [],_,_,_,h=>by simp[wu,look] at h
  | u::E,k,t,v,h=>by
    unfold wu look at h
    split at h
    · rename_i H
      have:=Á H
      cases h
      exact⟨0,ω,rfl⟩
    · obtain⟨j,a,hv⟩:=CH E (k+1) t v h
      exact⟨j+1,ω,by simpa using hv⟩
def fin (P:Æ) (f:Func) (R:è->ä->Prop):Post
  | .normal,L,w=>∀n a,Good n a L->∃v,(results f a.tmps).run P w = .ok v w/\R v w
  | .ret,L,w=>∀n a,Good n a L->∃v,(results f a.tmps).run P w = .ok v w/\R v w
  | _,_,_=>False
theorem Good.start{n m:Nat}(h:E.toArray.size+m=n):Good n { tmps:=E.toArray++Array.replicate m undef,defers:=[] } (wu 0 E):=by
  refine⟨lN,rfl,λt v b=>?_⟩
  obtain⟨j,c,hv⟩:=CH E 0 t v b
  have H:j=t:=by omega
  subst H
  have a:=(List.getElem?_eq_some_iff.1 hv).1
  simp
  rw[Array.getElem?_append_left (by simpa using a)]
  simp[hv]
theorem U6{P f F c n}{w R}(i:P.funcs[f]? = á F)(g:F.body=á c)(j:F.ntmps=n)(l:ĭ E.length n=ã)
    (h:W P n c (fin P F R) (wu 0 E) w):Ret P f E.toArray w R:=by
  have k:=ü l
  refine calls_of_wp i g ?_
  refine wp_mono (h _ (Good.start (by rw[j];simp;omega))) λe a w b=>?_
  cases e<;>first|exact b.elim|skip
  all_goals (obtain⟨L,H,q⟩:=b;first|exact q.elim|skip)
  all_goals (obtain⟨v,r,d⟩:=q n a H;exact⟨H.defers,v,r,v,rfl,d⟩)
theorem bv{P f F c n}{w R}(a:P.funcs[f]? = á F)(H:(F.body,F.ntmps,ĭ E.length n)=(á c,n,ã))
    (h:∀Q:Post,(∀L w,fin P F R .ret L w->Q .ret L w)->(∀L w,fin P F R .ret L w->Q .normal L w)->W P n c Q (wu 0 E) w):Ret P f E.toArray w R:=
  have⟨b,d,l⟩:=pj3 H;U6 a b d l (h _ (λ_ _ h=>h) (λ_ _ h=>h))
section
variable {L:Env}{w:ä}
theorem pR(H:I.results = #[])(h:R (.tuple #[]) w):fin P I R .ret L w:=λ_ _ _=>⟨_,results_none H _ P w,h⟩
theorem TF{t v}(r:I.results = #[.tmp t])(hv:look L t=á v)(h:R v w):fin P I R .ret L w:=λ_ a H=>
  ⟨v,by rw[results_tmp r,H.cov t v hv],h⟩
theorem r4{t u v x}(J:(I.results,look L t,look L u)=(#[.tmp t,.tmp u],á v,á x))(h:R (.tuple #[v,x]) w):fin P I R .ret L w:=have⟨r,hv,b⟩:=pj3 J;λ_ a H=>
  ⟨_,by rw[results_tmp2 r,H.cov t v hv,H.cov u x b],h⟩
theorem I6{t T x v}(r:I.results = #[.cell t T])(hv:look L t=á (.pointer (á x)))(l:(loadVar T x).run P w = .ok v w)(h:R v w):fin P I R .ret L w:=λ_ a g=>
  ⟨v,by have H:=g.cov t _ hv;simp at H;simp[results,r,H,asAddr,l],h⟩
end
section
variable {n:Nat}{Q:Post}{L:Env}{w:ä}
def RL (P:Æ) (n:Nat) (o:Array ą) (Q:Post) (l:List ą) (L:Env) (w:ä):Prop:=
  ∀a,Good n a L->wpList P o (lift n Q) l a w
def Py (P:Æ) (n:Nat) (L:Env) (w:ä) (o:ą) (v:è):Prop:=
  ∀a,Good n a L->(À a.eval o).run P w = .ok (.value v) w
def Pn (P:Æ) (n:Nat) (L:Env) (w:ä) (o:ą) (v:è) (W:ä):Prop:=
  ∀a,Good n a L->(À a.eval o).run P w = .ok (.value v) W
def Pd (P:Æ) (n:Nat) (L:Env) (w:ä) (o:ą) (W:ä):Prop:=
  ∀a,Good n a L->(À a.eval o).run P w = .ok .skip W
def Pc (P:Æ) (n:Nat) (L:Env) (w:ä) (o:ą) (f:Ŕ) (A:Array è):Prop:=
  ∀a,Good n a L->(À a.eval o).run P w = .ok (.enter f A) w
def Wn (O:Array ą) (n:Nat) (L:Env) (o:ą):Prop:=
  ∀a,Good n a L->ĝ o (U_ O a.tmps)=ã
def Wo (O:Array ą) (n:Nat) (L:Env) (o:ą):Prop:=
  ∀a,Good n a L->ĝ o (U_ O a.tmps)=â
theorem wn{o:ą}(h:o.guard=ç):Wn A n L o:=λ_ _=>by simp[ĝ,h]
def ll (o:Array ą) (j:Nat):Option Nat:=(o.toList[j]?).bind (·.dst)
theorem AN{a j t b}(g:Good n a L)(d:ll A j=á t)(c:look L t=á (.bool b)):U_ A a.tmps j=á b:=by
  have h:=g.cov t _ c
  have e:(A[j]?).bind (·.dst)=á t:=by simpa[ll] using d
  simp only[U_,e,Option.bind_some]
  simp at h
  cases H:a.tmps[t]? with
  | none=>rw[H] at h;simp[undef] at h
  | some v=>rw[H] at h;simp at h;subst h;rfl
theorem wg{o:ą}{j t b}(H:(o.guard,ll A j,look L t)=(á (j,b),á t,á (.bool b))):Wn A n L o:=have⟨h,d,a⟩:=pj3 H;λ_ g=>by
  simp[ĝ,h,AN g d a]
theorem wog{o:ą}{j t b}(h:o.guard=á (j,!b))(d:ll A j=á t)(H:look L t=á (.bool b)):Wo A n L o:=λ_ g=>by
  simp[ĝ,h,AN g d H]
theorem ce{i l}(h:RL P n l.toArray Q l L w):W P n (.region i l.toArray â) Q L w:=λa H=>wp_region_lit (h a H)
theorem aH(h:Q .normal L w):RL P n A Q [] L w:=λ_ H=>wpList_nil ⟨L,H,h⟩
theorem bc{o r d v}(f:Wn A n L o)(H:(o.dst,ò d n)=(á d,ã))(p:Py P n L w o v)
    (k:RL P n A Q r ((d,v)::L) w):RL P n A Q (o::r) L w:=have⟨c,e⟩:=pj2 H;λa h=>ŕ λK b=>by
  rw[ae (f a h)]
  unfold Ų
  rw[p a h,G?,c]
  exact b _ _ (k _ (h.put e))
theorem ue{o r d v W}(e:Wn A n L o)(b:o.dst=á d)(c:ò d n=ã)(p:Pn P n L w o v W)
    (k:RL P n A Q r ((d,v)::L) W):RL P n A Q (o::r) L w:=λa h=>ŕ λK H=>by
  rw[ae (e a h)]
  unfold Ų
  rw[p a h,G?,b]
  exact H _ _ (k _ (h.put c))
theorem GW{o r W}(b:Wn A n L o)(d:o.dst=ç)(p:Pd P n L w o W)
    (k:RL P n A Q r L W):RL P n A Q (o::r) L w:=λa h=>ŕ λK H=>by
  rw[ae (b a h)]
  unfold Ų
  rw[p a h,Oper.upon_skip,d]
  exact H _ _ (k _ h)
theorem Kj{o r d}(e:Wo A n L o)(b:o.dst=á d)(c:ò d n=ã)
    (k:RL P n A Q r ((d,undef)::L) w):RL P n A Q (o::r) L w:=λa h=>ŕ λK H=>by
  rw[ac (by rw[e a h];simp),b]
  exact H _ _ (k _ (h.put c))
theorem R7{o r}(b:Wo A n L o)(d:o.dst=ç)
    (k:RL P n A Q r L w):RL P n A Q (o::r) L w:=λa h=>ŕ λK H=>by
  rw[ac (by rw[b a h];simp),d]
  exact H _ _ (k _ h)
theorem dE{o r d f s R}(m:Wn A n L o)(H:(o.dst,ò d n)=(á d,ã))(p:Pc P n L w o f s)
    (g:Ret P f s w R) (k:∀v W,R v W->RL P n A Q r ((d,v)::L) W):RL P n A Q (o::r) L w:=have⟨i,l⟩:=pj2 H;λa h=>ŕ λK b=>by
  rw[ae (m a h)]
  unfold Ų
  rw[p a h,Oper.upon_enter,i]
  refine Calls.mono g λe W ⟨v,j,c⟩=>?_
  subst j
  exact b _ _ (k v W c _ (h.put l))
theorem cZ{l t b}(d:look L t=á (.bool b))(e:b=ã->RL P n A Q l ((t,.bool ã)::L) w)(f:b=â->RL P n A Q l ((t,.bool â)::L) w):
    RL P n A Q l L w:=λa H=>by
  cases b
  · refine f rfl a ⟨H.size,H.defers,λu v h=>?_⟩
    unfold look at h
    split at h
    · rename_i c
      have:=Á c
      cases h;subst this;exact H.cov _ _ d
    · exact H.cov u v h
  · refine e rfl a ⟨H.size,H.defers,λu v h=>?_⟩
    unfold look at h
    split at h
    · rename_i c
      have:=Á c
      cases h;subst this;exact H.cov _ _ d
    · exact H.cov u v h
def open_ (l:Array Bool):Prop:=∃m,l.getD m ã=â
def wpG (P:Æ) (o:Array ą) (Q:Exit->Act->ä->Prop) (S:ä->Prop):Nat->Array Bool->Act->ä->Prop
  | 0,l,a,w=>Ě .any o l=[]/\Q .normal a w
  | k+1,l,a,w=>(Ě .any o l=[]->Q .normal a w) /\
    ∀i∈Ě .any o l,wpOp P o Q i (λA W=>(open_ (l.setIfInBounds i ã)->S W)/\wpG P o Q S k (l.setIfInBounds i ã) A W) a w
theorem L9{P:Æ}{o:Array ą}{Q:Exit->Act->ä->Prop}:∀(k:Nat) (l:Array Bool) (a:Act) (w:ä),wpG P o Q S k l a w->wpAny P .any o Q k l a w
  | 0,_,_,_,h=>h
  | k+1,_,_,_,h=>⟨h.1,λi b=>wpOp_mono (λA W H=>L9 k _ A W H.2) (h.2 i b)⟩
def waits (O:Array ą) (l:Array Bool) (i:Nat):Bool:=
  (õ O.size).any λm => !(î m i) && !(l.getD m ã) && match O[m]? with
    | some o=>o.after.toList.any λe=>Ŏ .any e && î e.on i
    | none=>â
theorem KT{O:Array ą}{l:Array Bool}(h:waits O l i=ã):
    ∃m o,O[m]? = á o/\m≠i/\l.getD m ã=â/\∃e∈o.after,Ŏ .any e=ã/\e.on=i:=by
  unfold waits at h
  rw[ī] at h
  obtain⟨m,_,h⟩:=h
  simp only[aP] at h
  obtain⟨⟨b,h2⟩,H⟩:=h
  cases a:O[m]? with
  | none=>rw[a] at H;cases H
  | some o=>
    rw[a] at H
    simp only[ī,aP] at H
    obtain⟨e,d,c,f⟩:=H
    exact⟨m,o,a,λe=>by subst e;simp at b,sr,e,by simpa using d,c,Á f⟩
theorem Qp{P:Æ}{O:Array ą}{Q:Exit->Act->ä->Prop}{o:ą}{v:è}(x:O[i]? = á o)(hs:ő O=ã)
    (hQ:∀c a w,Q (.panic c) (a.put o.dst v) w->Q (.panic c) a w) :
    ∀(k:Nat) (l:Array Bool) (a:Act) (w:ä),
      (∀j f,O[j]? = á f->j≠i->l.getD j ã=â->(∀e∈f.after,Ŏ .any e=ã->e.on≠i)->o.apart O f=ã) ->
      (∃m u,O[m]? = á u/\m≠i/\l.getD m ã=â/\∃e∈u.after,Ŏ .any e=ã/\e.on=i) ->
      i∈Ě .any O l->YieldsIf P O S o v a->S w ->
      wpG P O Q S k (l.setIfInBounds i ã) (a.put o.dst v) w->wpG P O Q S (k+1) l a w:=by
  intro k
  have N:=Region.noSelect_spec hs
  induction k with
  | zero=>
    intro l a w _ _ r y n H
    refine⟨λh=>absurd r wZ,λj s=>?_⟩
    by_cases d:j=i
    · subst d;exact y.wpOp x n ⟨λ_=>n,H⟩
    · have:=ready_mono s d
      rw[H.1] at this
      simp at this
  | succ k ih=>
    intro l a w F g_ r y n H
    refine⟨λh=>absurd r wZ,λj s=>?_⟩
    by_cases d:j=i
    · subst d;exact y.wpOp x n ⟨λ_=>n,H⟩
    · obtain⟨T,f,t,b_⟩:=mem_ready.1 s
      have L:∀e∈f.after,Ŏ .any e=ã->e.on≠i:=by
        intro e p hb c_
        have g:=b_ e p hb
        have A:=(mem_ready.1 r).1
        rw[c_] at g
        by_cases R:i<l.size
        · simp[R] at A g
          rw[A] at g
          cases g
        · simp[Array.getElem?_eq_none (Nat.le_of_not_lt R)] at g
      obtain⟨m,u,z,I,K,e,p,D,E⟩:=g_
      have J:m≠j:=λV=>by subst V;rw[t] at z;cases z;exact L e p D E
      have d_:(l.setIfInBounds j ã).getD m ã=false:=by rw[getD_set_ne ã (Ne.symm J)];exact K
      have W:=wpOp_putIf t (F j f t d T L) (λC b=>N i o C b x) (λC b=>N j f C b t) hQ y (H.2 j (ready_mono s d))
      refine wpOp_mono (λU w' X=>?_) W
      obtain⟨h_,a_,Y⟩:=X
      have B:=a_ ⟨m,by rw[getD_set_ne ã (Ne.symm J),getD_set_ne ã (Ne.symm I)];exact K⟩
      refine⟨λ_=>B,ih _ U w' (λq oq hq e_ M f_=>?_) ⟨m,u,z,I,d_,e,p,D,E⟩ (ready_mono r (Ne.symm d)) h_ B ?_⟩
      · refine F q oq hq e_ ?_ f_
        by_cases G:j=q
        · subst G;exact T
        · rw[getD_set_ne ã G] at M;exact M
      · rw[Array.setIfInBounds_comm _ _ d]
        exact Y
def heads (N:Nat) (R:List (Nat × Bool)->Array Bool->Bool) (l:Array Bool):List Nat->List (Nat × Bool)->Bool
  | [x],(i,p)::r=>î i x && !p && ò i N && R r (l.setIfInBounds x ã)
  | x :: y::t,(k,p)::r => !p && ĭ N k && (match r.take (k-1000) with
      | (i,q)::a=>î i x && !q && ò i N && R a (l.setIfInBounds x ã)
      | []=>â) && heads N R l (y::t) (r.drop (k-1000))
  | _,_=>â
def AA (o:Array ą):Nat->List (Nat × Bool)->Array Bool->Bool
  | _,[],l=>(Ě .any o l).isEmpty && l.all id
  | m+1,(i,ã)::r,l=>Region.free .any o l i && (Ě .any o l).contains i && waits o l i && AA o m r (l.setIfInBounds i ã)
  | m+1,(i,â)::r,l=>heads o.size (AA o m) l (Ě .any o l) ((i,â)::r)
  | _,_,_=>â
def DL (P:Æ) (n:Nat) (o:Array ą) (Q:Post) (S:ä->Prop) (l:List (Nat × Bool)) (L:Env) (w:ä):Prop:=
  ő o=ã->∀a,Good n a L->(l≠[]->S w)->∀(m:Nat) (d:Array Bool) (f:Nat),m<=f ->
    (AA o m l d=ã->wpG P o (lift n Q) S f d a w) /\
    (∀A,heads o.size (AA o m) d A l=ã->∀j∈A,wpOp P o (lift n Q) j (λb W=>(open_ (d.setIfInBounds j ã)->S W)/\wpG P o (lift n Q) S f (d.setIfInBounds j ã) b W) a w)
theorem KP{c d v w}{a:Act}(h:lift n Q (.panic c) (a.put d v) w):lift n Q (.panic c) a w:=h.elim
theorem eE{i:Nat}(l:List (Nat × Bool))(m:P.follows .mixedOrders=ã)(c:AA A A.size l (Array.replicate A.size â)=ã)(s:ő A=ã)(_:ã=ã)
  (H:∀k,S { w with drawn:=k }) (h:∀k,DL P n A Q S l L { w with drawn:=k }):W P n (.region i A ã) Q L w:=λa b=>
 wp_region_any m (L9 _ _ _ _ ((h _ s a b (λ_=>H _) A.size _ A.size (aN _)).1 c))
theorem Lp{m l}(h:AA A m [] l=ã):Ě .any A l=[]/\¬ open_ l:=by
  have h:((Ě .any A l).isEmpty && l.all id)=true:=by cases m<;>exact h
  simp only[aP] at h
  refine⟨by simpa using h.1,λ⟨m,a⟩=>?_⟩
  have b:=h.2
  rw[Array.all_eq_true_iff_forall_mem] at b
  by_cases H:m<l.size
  · have:=b l[m] (Array.getElem_mem H)
    simp[H] at a
    simp[a] at this
  · simp[Array.getElem?_eq_none (Nat.le_of_not_lt H)] at a
theorem Nl{N r l a}(h:heads N r l a []=ã):False:=by
  unfold heads at h
  split at h<;>simp_all
theorem dO(h:Q .normal L w):DL P n A Q S [] L w:=λ_ a b e m l f _=>⟨λc=>by
  have H:=(Lp c).1
  cases f with
  | zero=>exact⟨H,⟨L,b,h⟩⟩
  | succ k=>exact⟨λ_=>⟨L,b,h⟩,by rw[H];simp⟩,λv d=>(Nl d).elim⟩
private theorem SL{N R l a i r}(h:heads N R l a ((i,ã)::r)=ã):False:=by
  unfold heads at h
  split at h<;>simp_all
private theorem Lj{i r o d v}(u:A.toList[i]? = á o)(p:o.dst=á d)(x:ò d n=ã)(y:∀a,Good n a L->YieldsIf P A S o v a)
    (k:DL P n A Q S r ((d,v)::L) w):DL P n A Q S ((i,ã)::r) L w:=λs a c b m z f q=>⟨λH=>by
  cases m with
  | zero=>simp[AA] at H
  | succ m=>
    unfold AA at H
    simp only[aP] at H
    obtain⟨⟨⟨g,h2⟩,j⟩,l⟩:=H
    cases f with
    | zero=>simp at q
    | succ f=>
      have e:A[i]? = á o:=by simpa using u
      refine Qp e s (λ_ _ _ h=>KP h) f z a w (Region.free_spec e g) (KT j) sr (y a c) (b σ) ?_
      rw[p]
      exact(k s _ (c.put x) (λ_=>b σ) m _ f ω).1 l,λB t=>(SL t).elim⟩
theorem eS{i r o d v}(c:A.toList[i]? = á o)(f:Wn A n L o)(H:(o.dst,ò d n)=(á d,ã))(p:∀x,S x->Py P n L x o v)
    (k:DL P n A Q S r ((d,v)::L) w):DL P n A Q S ((i,ã)::r) L w:=
  have⟨b,e⟩:=pj2 H;Lj c b e (λa h => .inl ⟨f a h,λx g=>p x g a h⟩) k
theorem eK{i r o d}(c:A.toList[i]? = á o)(f:Wo A n L o)(h:(o.dst,ò d n)=(á d,ã))
    (k:DL P n A Q S r ((d,undef)::L) w):DL P n A Q S ((i,ã)::r) L w:=
  have⟨b,e⟩:=pj2 h;Lj c b e (λa H => .inr ⟨f a H,rfl⟩) k
private theorem UI{i r}(h:ő A=ã->∀a,Good n a L->S w->∀(m:Nat) (l:Array Bool) (f:Nat),m<=f->∀v,heads A.size (AA A m) l v ((i,â)::r)=ã ->
      ∀j∈v,wpOp P A (lift n Q) j (λg W=>(open_ (l.setIfInBounds j ã)->S W)/\wpG P A (lift n Q) S f (l.setIfInBounds j ã) g W) a w) :
    DL P n A Q S ((i,â)::r) L w:=λs a c b m l f d=>⟨λH=>by
  cases m with
  | zero=>simp[AA] at H
  | succ m=>
    unfold AA at H
    cases f with
    | zero=>simp at d
    | succ f=>
      refine⟨λe=>?_,h s a c (b σ) m l f ω _ H⟩
      rw[e] at H
      simp[heads] at H,h s a c (b σ) m l f d⟩
private theorem LW{i R o}(g:A.toList[i]? = á o)
    (h:S w->∀a,Good n a L->∀K:Act->ä->Prop,(∀b W l,Good n b l->DL P n A Q S R l W->(R≠[]->S W)->K b W) ->
      if ĝ o (U_ A a.tmps) then o.wp P a w K (lift n Q)\/(o.asks P a w/\LetsOut (lift n Q)) else K (a.put o.dst undef) w) :
    DL P n A Q S ((i,â)::R) L w:=UI λC a s q m D F t v H j z=>by
  have c:v=[i]/\AA A m R (D.setIfInBounds i ã)=true:=by
    unfold heads at H
    split at H
    · rename_i x J E G e
      simp only[Ŗ,ú] at e
      obtain⟨⟨rfl,rfl⟩,rfl⟩:=e
      simp only[aP] at H
      have c:_=x:=Á H.1.1.1
      subst c
      exact⟨rfl,H.2⟩
    · rename_i M E G e
      simp only[Ŗ,ú] at e
      obtain⟨⟨rfl,rfl⟩,rfl⟩:=e
      simp only[aP] at H
      have k:=ü H.1.1.2
      have I:i<A.size:=by
        have p:A[i]? = á o:=by simpa using g
        exact(ø.1 p).1
      omega
    · cases H
  obtain⟨rfl,d⟩:=c
  obtain rfl:j=i:=by simpa using z
  unfold wpOp
  have y:A[j]? = á o:=by simpa using g
  simp only[y]
  refine h q a s _ λb W l u k f=>⟨λB=>?_,(k C _ u f m _ F t).1 d⟩
  cases R with
  | nil=>exact absurd B (Lp d).2
  | cons x r=>exact f σ
theorem Tw{l b c:List (Nat × Bool)}(N:ĭ A.size 1000=ã)(e:l=(1000+b.length,â)::(b++c))(u:b.isEmpty=â)(C:c.isEmpty=â)(o:DL P n A Q S b L w)(p:DL P n A Q S c L w):DL P n A Q S l L w:=by
  subst e
  refine UI λs a g d m k f i z h j H=>?_
  have N:=ü N
  unfold heads at h
  split at h
  · rename_i x I v R e
    obtain⟨⟨rfl,rfl⟩,rfl⟩:=e
    simp only[aP] at h
    have:=Eq.mp Nat.blt_eq h.1.2
    omega
  · rename_i x y t K v R e
    obtain⟨⟨rfl,rfl⟩,rfl⟩:=e
    rw[Nat.add_sub_cancel_left,List.take_left,List.drop_left] at h
    simp at h
    obtain⟨⟨_,q⟩,r⟩:=h
    rcases aM.1 H with rfl|H
    · cases b with
      | nil=>simp at u
      | cons B D=>
        refine(o s a g (λ_=>d) m k f i).2 [j] ?_ j σ
        exact q
    · exact(p s a g (λ_=>d) m k f i).2 _ r j H
  · cases h
theorem tO{i r o d v W}(f:A.toList[i]? = á o)(j:Wn A n L o)(e:o.dst=á d)(g:ò d n=ã)(p:Pn P n L w o v W)(b:S w->r≠[]->S W)
    (k:DL P n A Q S r ((d,v)::L) W):DL P n A Q S ((i,â)::r) L w:=LW f λc a h K H=>by
  rw[ae (j a h)]
  unfold Ų
  rw[p a h,G?,e]
  exact .inl (H _ _ _ (h.put g) k (b c))
theorem dD{i r o d v}(b:A.toList[i]? = á o)(e:Wn A n L o)(H:(o.dst,ò d n)=(á d,ã))(p:Py P n L w o v)
    (k:DL P n A Q S r ((d,v)::L) w):DL P n A Q S ((i,â)::r) L w:=have⟨a,c⟩:=pj2 H;tO b e a c p (λh _=>h) k
theorem G5{i r o W}(e:A.toList[i]? = á o)(f:Wn A n L o)(d:o.dst=ç)(p:Pd P n L w o W)(b:S w->r≠[]->S W)
    (k:DL P n A Q S r L W):DL P n A Q S ((i,â)::r) L w:=LW e λc a h K H=>by
  rw[ae (f a h)]
  unfold Ų
  rw[p a h,Oper.upon_skip,d]
  exact .inl (H _ _ _ h k (b c))
theorem LZ{i r o d}(e:A.toList[i]? = á o)(g:Wo A n L o)(c:o.dst=á d)(f:ò d n=ã)
    (k:DL P n A Q S r ((d,undef)::L) w):DL P n A Q S ((i,â)::r) L w:=LW e λb a h K H=>by
  rw[ac (by rw[g a h];simp),c]
  exact H _ _ _ (h.put f) k (λ_=>b)
theorem cb{i r o d f s R}(p:A.toList[i]? = á o)(u:Wn A n L o)(J:(o.dst,ò d n)=(á d,ã))(t:Pc P n L w o f s)
    (j:Ret P f s w R) (c:S w->∀v W,R v W->r≠[]->S W) (k:∀v W,R v W->DL P n A Q S r ((d,v)::L) W):DL P n A Q S ((i,â)::r) L w:=have⟨l,q⟩:=pj2 J;LW p λg a h K b=>by
  rw[ae (u a h)]
  unfold Ų
  rw[t a h,Oper.upon_enter,l]
  refine .inl (Calls.mono j λe W ⟨v,m,H⟩=>?_)
  subst m
  exact b _ _ _ (h.put q) (k v W H) (c g v W H)
theorem dU{l t b}(e:look L t=á (.bool b))(c:b=ã->DL P n A Q S l ((t,.bool ã)::L) w)(d:b=â->DL P n A Q S l ((t,.bool â)::L) w):
    DL P n A Q S l L w:=λs a h=>by
  have g:Good n a ((t,.bool b)::L):=⟨h.size,h.defers,λu v H=>by
    unfold look at H
    split at H
    · rename_i f
      have:=Á f
      cases H;subst this;exact h.cov _ _ e
    · exact h.cov u v H⟩
  cases b
  · exact d rfl s a g
  · exact c rfl s a g
end
section
variable {n:Nat}{Q:Post}{L:Env}{w:ä}{d:Tmp}{a:Op}{v:è}
theorem sV{R:List ą}(h:ò d n=ã)(H:Py P n L w ⟨á d,a,B,p,r,ç⟩ v)(k:RL P n A Q R ((d,v)::L) w):RL P n A Q (⟨á d,a,B,p,r,ç⟩::R) L w:=bc (wn rfl) (pm2 rfl h) H k
theorem dV(h:(A.toList[i]?,ò d n)=(á ⟨á d,a,B,p,r,ç⟩,ã))(c:∀x,S x->Py P n L x ⟨á d,a,B,p,r,ç⟩ v)(k:DL P n A Q S l ((d,v)::L) w):DL P n A Q S ((i,ã)::l) L w:=have⟨H,b⟩:=pj2 h;eS H (wn rfl) (pm2 rfl b) c k
theorem aT{i:Nat}{l:List ą}{y:Code}(h:RL P n l.toArray (thn P n y Q) l L w):W P n (.seq (.region i l.toArray â) y) Q L w:=aW (ce h)
theorem sM{R:List ą}(H:(ò d n,evL L x)=(ã,á v))(k:RL P n A Q R ((d,v)::L) w):RL P n A Q (⟨á d,.move x,B,p,r,ç⟩::R) L w:=have⟨c,h⟩:=pj2 H;sV c (λa b=>by simp[À,b.eval h]) k
theorem sA{R:List ą}(H:(ò d n,evL L x)=(ã,á v))(k:RL P n A Q R ((d,v)::L) w):RL P n A Q (⟨á d,.assign x,B,p,r,ç⟩::R) L w:=have⟨c,h⟩:=pj2 H;sV c (λa b=>by simp[À,b.eval h]) k
theorem dM(H:(A.toList[i]?,ò d n,evL L x)=(á ⟨á d,.move x,B,p,r,ç⟩,ã,á v))(k:DL P n A Q S l ((d,v)::L) w):DL P n A Q S ((i,ã)::l) L w:=have⟨c,e,h⟩:=pj3 H;dV (pm2 c e) (λ_ _ a b=>by simp[À,b.eval h]) k
theorem dKt{j t:Nat}(c:A.toList[i]? = á ⟨á d,a,B,p,r,á (j,â)⟩)(H:ll A j=á t)(h:look L t=á (.bool ã))(e:ò d n=ã)(k:DL P n A Q S l ((d,undef)::L) w):DL P n A Q S ((i,ã)::l) L w:=eK c (wog (b:=ã) rfl H h) (pm2 rfl e) k
theorem dKf{j t:Nat}(c:A.toList[i]? = á ⟨á d,a,B,p,r,á (j,ã)⟩)(H:ll A j=á t)(h:look L t=á (.bool â))(e:ò d n=ã)(k:DL P n A Q S l ((d,undef)::L) w):DL P n A Q S ((i,ã)::l) L w:=eK c (wog (b:=â) rfl H h) (pm2 rfl e) k
theorem rT{t:Nat}(a:∀L w,fin P I R .ret L w->Q .ret L w)(H:(I.results,look L t)=(#[.tmp t],á v))(h:R v w):W P n .ret Q L w:=have⟨r,hv⟩:=pj2 H;dY (a _ _ (TF r hv h))
theorem aB{o:ą}(h:o.guard=none:=by exact rfl):Wn A n L o:=wn h
abbrev NG (f:Func):Prop:=(f.name == "runtime.NumGoroutine")=â
theorem lNA{a:Type _}{x:List a}:[]++x=x:=rfl
theorem jf{b:Type _}{a:b}{x y:List b}:(a::x)++y=a::(x++y):=rfl
theorem lSZ{c:Type _}{a b:c}{x:List c}:(a::x).set 0 b=b::x:=rfl
theorem sk{c:Type _}{a b:c}{x:List c}:(a::x).set (k+1) b=a::x.set k b:=rfl
end
section
variable {n:Nat}{L:Env}{w:ä}{d:Option Tmp}
theorem bL{x v}(H:evL L x=á v):Py P n L w ⟨d,.move x,B,p,r,g⟩ v:=λa h=>by simp[À,h.eval H]
theorem cr{x v}(H:evL L x=á v):Py P n L w ⟨d,.assign x,B,p,r,g⟩ v:=λa h=>by simp[À,h.eval H]
theorem dJ{c x y v}(H:evL L c=á (.bool ã))(b:evL L x=á v):Py P n L w ⟨d,.pick c x y,B,p,r,g⟩ v:=λa h=>by
  simp[À,h.eval b,h.eval H,asBool]
theorem fL{c x y v}(H:evL L c=á (.bool â))(b:evL L y=á v):Py P n L w ⟨d,.pick c x y,B,p,r,g⟩ v:=λa h=>by
  simp[À,h.eval b,h.eval H,asBool]
theorem cj{x b xt}(H:evL L x=á (.bool b)):Py P n L w ⟨d,.unOp .not xt x,B,p,r,g⟩ (.bool !b):=λa h=>by
  simp[À,h.eval H,Op.unary]
theorem BU{x xt q}[i:Decidable q](H:evL L x=á (.bool (@decide q i))):Py P n L w ⟨d,.unOp .not xt x,B,p,r,g⟩ (.bool (decide (¬ q))):=λa h=>by
  simp[À,h.eval H,Op.unary]
section ints
variable {k:Ť}{i j:Int}{b:ì}
theorem jr(c:evL L x=á (.int k i))(e:evL L y=á (.int k j))(h:k.wrap (i+j)=i+j):Py P n L w ⟨d,.binOp .add b x y G,B,p,r,g⟩ (.int k (i+j)):=λa H=>by
  simp[À,H.eval c,H.eval e,ġ,ł,V?,h]
theorem sT(c:evL L x=á (.int k i))(e:evL L y=á (.int k j))(h:k.wrap (i-j)=i-j):Py P n L w ⟨d,.binOp .sub b x y G,B,p,r,g⟩ (.int k (i-j)):=λa H=>by
  simp[À,H.eval c,H.eval e,ġ,ł,V?,h]
theorem qP(c:evL L x=á (.int k i))(e:evL L y=á (.int k j))(h:k.wrap (i*j)=i*j):Py P n L w ⟨d,.binOp .mul b x y G,B,p,r,g⟩ (.int k (i*j)):=λa H=>by
  simp[À,H.eval c,H.eval e,ġ,ł,V?,h]
theorem Rz(H:evL L x=á (.int k i))(c:evL L y=á (.int k j)):Py P n L w ⟨d,.binOp .add b x y G,B,p,r,g⟩ (.int k (k.wrap (i+j))):=λa h=>by
  simp[À,h.eval H,h.eval c,ġ,ł,V?]
theorem KM(e:evL L x=á (.int k i))(f:evL L y=á (.int k j))(c:j≠0)(h:k.wrap (i.tdiv j)=i.tdiv j):Py P n L w ⟨d,.binOp .quo b x y G,B,p,r,g⟩ (.int k (i.tdiv j)):=λa H=>by
  simp[À,H.eval e,H.eval f,ġ,ł,Op.intDiv,h,c]
theorem uh(c:evL L x=á (.int k i))(e:evL L y=á (.int k j))(H:j≠0):Py P n L w ⟨d,.binOp .rem b x y G,B,p,r,g⟩ (.int k (i.tmod j)):=λa h=>by
  simp[À,h.eval c,h.eval e,ġ,ł,Op.intDiv,H]
theorem ji(H:evL L x=á (.int k i))(c:evL L y=á (.int k j)):Py P n L w ⟨d,.binOp .eql b x y G,B,p,r,g⟩ (.bool (decide (i=j))):=λa h=>by
  simp[À,h.eval H,h.eval c,ł]
  rfl
theorem J9(H:evL L x=á (.int k i))(c:evL L y=á (.int k j)):Py P n L w ⟨d,.binOp .neq b x y G,B,p,r,g⟩ (.bool (decide (i≠j))):=λa h=>by
  simp[À,h.eval H,h.eval c,ġ,ł,H?,bne,BEq.beq]
theorem AI(H:evL L x=á (.int k i))(c:evL L y=á (.int k j)):Py P n L w ⟨d,.binOp .lss b x y G,B,p,r,g⟩ (.bool (decide (i<j))):=λa h=>by
  simp[À,h.eval H,h.eval c,ġ,ł,H?]
theorem OJ(H:evL L x=á (.int k i))(c:evL L y=á (.int k j)):Py P n L w ⟨d,.binOp .leq b x y G,B,p,r,g⟩ (.bool (decide (i<=j))):=λa h=>by
  simp[À,h.eval H,h.eval c,ġ,ł,H?]
theorem pG(H:evL L x=á (.int k i))(c:evL L y=á (.int k j)):Py P n L w ⟨d,.binOp .gtr b x y G,B,p,r,g⟩ (.bool (decide (j<i))):=λa h=>by
  simp[À,h.eval H,h.eval c,ġ,ł,H?]
theorem JP(H:evL L x=á (.int k i))(c:evL L y=á (.int k j)):Py P n L w ⟨d,.binOp .geq b x y G,B,p,r,g⟩ (.bool (decide (j<=i))):=λa h=>by
  simp[À,h.eval H,h.eval c,ġ,ł,H?]
theorem GO(H:evL L x=á (.int k i))(c:evL L y=á (.int k j)):Py P n L w ⟨d,.binOp .xor b x y G,B,p,r,g⟩ (.int k (k.wrap (Ć k.bits i ^^^ Ć k.bits j).toNat)):=λa h=>by
  simp[À,h.eval H,h.eval c,ġ,ł,Op.intBits]
theorem P0(H:evL L x=á (.int k i))(c:evL L y=á (.int k j)):Py P n L w ⟨d,.binOp .and b x y G,B,p,r,g⟩ (.int k (k.wrap (Ć k.bits i &&& Ć k.bits j).toNat)):=λa h=>by
  simp[À,h.eval H,h.eval c,ġ,ł,Op.intBits]
theorem Uc(H:evL L x=á (.int k i))(c:evL L y=á (.int N j))(e:0<=j):Py P n L w ⟨d,.binOp .shl b x y G,B,p,r,g⟩ (.int k (k.wrap (i*2^min j.toNat k.bits))):=λa h=>by
  simp[À,h.eval H,h.eval c,ġ,ł,Op.shift,show ¬ j<0 from by omega]
theorem KK(H:evL L x=á (.int k i))(c:evL L y=á (.int N j))(e:0<=j):Py P n L w ⟨d,.binOp .shr b x y G,B,p,r,g⟩ (.int k (i.fdiv (2^min j.toNat k.bits))):=λa h=>by
  simp[À,h.eval H,h.eval c,ġ,ł,Op.shift,show ¬ j<0 from by omega]
theorem jZ{t}(s:P.underlying O=á t)(b:P.underlying K=á (.int N))(c:evL L x=á (.int k i))(h:N.wrap i=i):
    Py P n L w ⟨d,.convert O K x,B,p,r,g⟩ (.int N i):=λa H=>by
  simp[À,H.eval c,convert,þ s,þ b,Conv.intToInt,h]
theorem ON{t}(s:P.underlying O=á t)(H:P.underlying K=á (.int N))(b:evL L x=á (.int k i)):
    Py P n L w ⟨d,.convert O K x,B,p,r,g⟩ (.int N (N.wrap i)):=λa h=>by
  simp[À,h.eval b,convert,þ s,þ H,Conv.intToInt]
end ints
section strs
variable {s t:ByteArray}{b:ì}
theorem xM(H:evL L x=á (.string s))(c:evL L y=á (.string t)):Py P n L w ⟨d,.binOp .eql b x y G,B,p,r,g⟩ (.bool (s.toList == t.toList)):=λa h=>by
  simp[À,h.eval H,h.eval c,ġ,ł,Op.stringOp]
theorem Rw(H:evL L x=á (.string s))(c:evL L y=á (.string t)):Py P n L w ⟨d,.binOp .lss b x y G,B,p,r,g⟩ (.bool (Op.bytesLess s.toList t.toList)):=λa h=>by
  simp[À,h.eval H,h.eval c,ġ,ł,Op.stringOp]
theorem s9(H:P.underlying J=á .string)(b:evL L x=á (.string s)):
    Py P n L w ⟨d,.call ⟨.builtin .len,#[x],#[J]⟩,B,p,r,g⟩ (.int .i64 s.size):=λa h=>by
  simp[À,ũ,X_,builtin,Builtin.len_,h.eval b,þ H,goInt]
def _root_.Go.Wk.gB (s:ByteArray) (k:Nat):UInt8:=if h:k<s.size then s[k] else 0
theorem jO(u:P.underlying J=á .string)(e:evL L x=á (.string s))(i:evL L U=á (.int V z))(k:Nat)(f:z=k)(h:k<s.size):
    Py P n L w ⟨d,.index J x U,B,p,r,g⟩ (.int .u8 (gB s k).toNat):=λa H=>by
  subst f
  have b:s[k]? = á (s[k]'h):=by simp
  have c:gB s k=s[k]'h:=by simp[gB,h]
  simp[À,H.eval e,H.eval i,Instr.index,asIntOf,þ u,b,c]
end strs
section bools
variable {b c:Bool}{xt:ì}
end bools
theorem od{A:Option ô}{l:Nat}(H:P.underlying J=á (.slice e))(b:evL L x=á (.slice A l cap)):
    Py P n L w ⟨d,.call ⟨.builtin .len,#[x],#[J]⟩,B,p,r,g⟩ (.int .i64 l):=λa h=>by
  simp[À,ũ,X_,builtin,Builtin.len_,h.eval b,þ H,goInt]
theorem lu(b o m:Nat):(⟨b,o,ç⟩:ô).add m=⟨b,o+m,ç⟩:=by
  unfold Addr.add;split<;>simp_all
theorem Ug{s:ì}{b l S:Nat}(u:P.underlying s=á (.slice e))(f:∀w,(sizeOf e).run P w = .ok S w)
    (i:evL L x=á (.slice (á ⟨b,o,ç⟩) l cap)) (H:evL L U=á (.int V k)) (c:k<l) :
    Py P n L w ⟨d,.indexAddr s x U,B,p,r,g⟩ (.pointer (á ⟨b,o+k*S,ç⟩)):=λa h=>by
  simp[À,h.eval i,h.eval H,Instr.indexAt,asIntOf,þ u,f,c,lu]
theorem bd{s:ì}{F:Array Field}{b S O:Nat}{f:Field}(u:P.underlying s=á (.struct F))(c:F[i]? = á f)(e:∀w,(sizeOf f.type).run P w = .ok (S+1) w)
    (h:(evL L x,o+f.offset)=(á (.pointer (á ⟨b,o,ç⟩)),O)):Py P n L w ⟨d,.fieldAddr s x i,B,p,r,g⟩ (.pointer (á ⟨b,O,ç⟩)):=have⟨j,k⟩:=pj2 h;λa H=>by
  simp[À,H.eval j,Instr.fieldAt,Ŀ,þ u,c,fieldPlace,e,lu]
theorem pD(H:evL L x=á (.pointer (á F))):Py P n L w ⟨d,.nilCheck x,B,p,r,g⟩ (.pointer (á F)):=λa h=>by
  simp[À,h.eval H]
theorem tc{V:Array è}{i v}(H:evL L x=á (.tuple V))(hv:V[i]? = á v):Py P n L w ⟨d,.extract x i,B,p,r,g⟩ v:=λa h=>by
  simp[À,h.eval H,Instr.extract,hv]
def single:TypeDesc->Bool
  | .struct _ | .array _ _=>â
  | _=>ã
theorem u9{t T}(h:P.underlying t=á T)(w:ä):(isAgg t).run P w = .ok (!single T) w:=by
  cases T<;>simp[isAgg,þ h,single]
theorem MT{v}(h:w.cell? F=á v):(load F).run P w = .ok v w:=by
  simp[Sem.run,h]
theorem Ga{t T}{v}(u:P.underlying t=á T)(h:single T=ã)(H:w.cell? F=á v):(loadVar t F).run P w = .ok v w:=by
  simp[loadVar,u9 u,h,Sem.run,H]
theorem bp{t T}{v}(u:P.underlying t=á T)(H:(single T,evL L x)=(ã,á (.pointer (á F))))(c:w.cell? F=á v):
    Py P n L w ⟨d,.load t x,B,p,r,g⟩ v:=have⟨h,e⟩:=pj2 H;λa b=>by
  simp[À,b.eval e,Instr.loadAt,Ŀ,Ga u h c]
theorem qm{b:Nat}{T f v}(h:w.heap[b]? = á (.cells c T f))(hv:c[o]? = á v):w.cell? ⟨b,o,ç⟩=á v:=by
  simp[World.cell?,h,hv]
theorem bD{b:Nat}{c:List è}{T f v}(h:w.heap[b]? = á (.cells c.toArray T f))(hv:c[o]? = á v):w.cell? ⟨b,o,ç⟩=á v:=
  qm h (by simpa using hv)
def At (w:ä) (b o:Nat) (c:List è):Prop:=∀j v,c[j]? = á v->w.cell? ⟨b,o+j,ç⟩=á v
theorem mu:∀(c:List è) (b o i:Nat) (a:Array è),At w b (o+i) c->(i? ⟨b,o,ç⟩ i c.length a).run P w = .ok (a++c.toArray) w
  | [],b,o,i,a,_=>by simp[i?]
  | v::c,b,o,i,a,h=>by
    have H:w.cell? ⟨b,o+i,ç⟩=á v:=by simpa using h 0 v rfl
    have I:=mu c b o (i+1) (a.push v) (λj u hj=>by
      have:=h (j+1) u sD
      rwa[show o+(i+1)+j=o+i+(j+1) from by omega])
    simp[i?,lu,MT H,I]
theorem cm{t T}{b:Nat}{c:List è}{s}(u:P.underlying t=á T)(h:single T=â)(a:∀w,(sizeOf t).run P w = .ok s w)(l:c.length=s)(H:At w b o c):
    (loadVar t ⟨b,o,ç⟩).run P w = .ok (.agg c.toArray) w:=by
  have:=mu (P:=P) c b o 0 #[] (by simpa using H)
  subst l
  simp[loadVar,u9 u,h,a,loadCells,this]
theorem eB{t T}{b:Nat}{c:List è}{s}(u:P.underlying t=á T)(h:single T=â)(i:∀w,(sizeOf t).run P w = .ok s w)(H:(evL L x,c.length)=(á (.pointer (á ⟨b,o,ç⟩)),s))(f:At w b o c):Py P n L w ⟨d,.load t x,B,p,r,g⟩ (.agg c.toArray):=have⟨j,l⟩:=pj2 H;λa e=>by
  simp[À,e.eval j,Instr.loadAt,Ŀ,cm u h i l f]
theorem At.whole{b:Nat}{c:List è}{T f}(h:w.heap[b]? = á (.cells c.toArray T f)):At w b 0 c:=λj v hj=>
  qm h sD
theorem At.sub{b:Nat}{c:List è}{T f}(H:w.heap[b]? = á (.cells c.toArray T f))(m:Nat):At w b o ((c.drop o).take m):=λj v h=>by
  refine bD H ?_
  rw[Ð] at h
  split at h
  · rwa[Ñ] at h
  · cases h
theorem At.part{b:Nat}{T f}{C:List è}(H:w.heap[b]? = á (.cells c T f))(h:∀j v,C[j]? = á v->c[o+j]? = á v):At w b o C:=λj v a=>
  qm H (h j v a)
theorem EL{v u:è}(h:v.oneCell'=ã)(H:w.cell? F=á u)(f:w.frozen? F=â):(store F v).run P w = .ok () (w.setCell F v):=by
  cases v<;>first|(simp[Value.oneCell'] at h;done)|simp[store,Sem.run,H,f]
theorem yX{b:Nat}{T}(h:w.heap[b]? = á (.cells c T (0,0))):w.frozen? ⟨b,o,ç⟩=false:=by
  simp[World.frozen?,h]
theorem IU{v:è}(h:v.oneCell'=ã):v.cells = #[v]:=by
  cases v<;>first|rfl|(simp[Value.oneCell'] at h;done)
def put (w:ä) (b:Nat) (o:Obj):ä:={ w with heap:=w.heap.setIfInBounds b o }
theorem Bn{b:Nat}{T f v}(a:w.heap[b]? = á (.cells c T f)):w.setCell ⟨b,o,ç⟩ v=put w b (.cells (c.setIfInBounds o v) T f):=by
  simp only[World.setCell]
  congr 1
  apply Array.ext σ
  intro i H e
  have hi:i<w.heap.size:=by simpa using H
  have d:=(ø.1 a).2
  rw[Array.getElem_modify,I? uq]
  by_cases h:b=i
  · subst h;simp[d]
  · simp[h]
theorem jM{t}{b:Nat}{T v}(s:∀w,(sizeOf t).run P w = .ok 1 w)(j:evL L x=á (.pointer (á ⟨b,o,ç⟩)))(k:evL L y=á v)(H:v.oneCell'=ã)
    (h:w.heap[b]? = á (.cells c T (0,0))) (i:o<c.size):Pd P n L w ⟨d,.store t x y,B,p,r,g⟩ (put w b (.cells (c.setIfInBounds o v) T (0,0))):=λa e=>by
  have f:=EL (P:=P) H (qm h (Ń i)) (yX h)
  rw[Bn h] at f
  simp[À,e.eval j,e.eval k,Instr.storeAt,Ŀ,storeVar,IU H,s,ť,lu,f]
theorem kJ{b:Nat}{o:Obj}(h:w.heap[b]? = á X):(put w b o).heap[b]? = á o:=by
  have H:=(ø.1 h).1
  simp[put,H]
theorem OY{b:Nat}{o:Obj}(h:w.heap[b]? = á o):put w b o=w:=by
  have hv:=(ø.1 h).2
  have:w.heap.setIfInBounds b o=w.heap:=by
    apply Array.ext σ
    intro i H h2
    rw[I? sr]
    split
    · rename_i e;subst e;exact hv.symm
    · rfl
  simp[put,this]
theorem SO{b:Nat}{o:Obj}:put (put w b o) b X=put w b X:=by simp[put]
def lay (c:Array è) (o:Nat):List è->Array è
  | []=>c
  | v::E=>lay (c.setIfInBounds o v) (o+1) E
theorem rp:∀(E:List è) (c:Array è) (o:Nat),(lay c o E).size=c.size
  | [],_,_=>rfl
  | v::E,c,o=>by simp[lay,rp E]
theorem kp{b:Nat}{T}:∀(E:List è) (w:ä) (o i:Nat) (c:Array è),w.heap[b]? = á (.cells c T (0,0))->(∀v∈E,v.oneCell'=ã)->o+i+E.length<=c.size ->
    (ť ⟨b,o,ç⟩ E i).run P w = .ok () (put w b (.cells (lay c (o+i) E) T (0,0)))
  | [],w,o,i,c,h,_,_=>by
    have:put w b (.cells (lay c (o+i) []) T (0,0))=w:=OY h
    simp[ť,this]
  | v::E,w,o,i,c,h,H,l=>by
    have t:=EL (P:=P) (H v σ) (qm h (o:=o+i) (Ń (by simp at l;omega))) (yX h)
    rw[Bn h] at t
    have I:=kp E (put w b (.cells (c.setIfInBounds (o+i) v) T (0,0))) o (i+1) _ (kJ h) (λu a=>H u (by simp[a])) (by simp at l ⊢;omega)
    rw[SO] at I
    simp[ť,lu,t,I,lay,Ŋ]
theorem o4{t}{b:Nat}{T}{s}(i:∀w,(sizeOf t).run P w = .ok s w)(k:evL L x=á (.pointer (á ⟨b,o,ç⟩)))(m:evL L y=á (.agg E.toArray))
    (l:E.length=s) (H:∀v∈E,v.oneCell'=ã) (e:w.heap[b]? = á (.cells c T (0,0))) (f:o+s<=c.size) :
    Pd P n L w ⟨d,.store t x y,B,p,r,g⟩ (put w b (.cells (lay c o E) T (0,0))):=λa h=>by
  subst l
  have j:=kp (P:=P) E w o 0 c e H (by simpa using f)
  simp[À,h.eval k,h.eval m,Instr.storeAt,Ŀ,storeVar,Value.cells,i,j]
theorem N8{t}{v}(H:evL L x=á v):Pn P n L w ⟨d,.box t x,B,p,r,g⟩ (.pointer (á ⟨w.heap.size,0,ç⟩)) (w.alloc (.cells v.cells t)):=λa h=>by
  simp[À,h.eval H,newVar,newObj]
  rfl
theorem IB{t}{z:è}(h:∀w,(zeroValue t).run P w = .ok z w):Pn P n L w ⟨d,.alloc t,B,p,r,g⟩ (.pointer (á ⟨w.heap.size,0,ç⟩)) (w.alloc (.cells z.cells t)):=λa H=>by
  simp[À,Instr.alloc,newRow,newObj,h]
  rfl
def kX (L:Env):List Â->Option (List è)
  | []=>á []
  | x::X=>match evL L x,kX L X with
    | some v,á E=>á (v::E)
    | _,_=>ç
theorem GN{f:Ŕ}{X:Array Â}{A:Array ì}(i:P.funcs[f]? = á I)(H:I.body.isNone=â)(m:(I.name == "runtime.NumGoroutine")=â)
    (hv:kX L X.toList=á E):Pc P n L w ⟨d,.call ⟨.value (.func f),X,A⟩,B,p,r,g⟩ f E.toArray:=λa b=>by
  have j:X.map a.eval=E.toArray:=by
    have K:∀(l:List Â) (E:List è),kX L l=á E->l.map a.eval=E:=by
      intro l
      induction l with
      | nil=>intro E h;simp[kX] at h;simp[h]
      | cons x l o=>
        intro E h
        unfold kX at h
        split at h
        · rename_i v u hv s
          cases h
          simp[b.eval hv,o u s]
        · cases h
    have:=K _ _ hv
    apply e?.1
    simpa using this
  have c:¬ I.body=none:=λe=>by rw[e] at H;simp at H
  have k:¬ I.name = "runtime.NumGoroutine" := λe=>by rw[e] at m;simp at m
  simp[À,ũ,Deferred.ofValue,X_,callFunc,i,c,k,j,Act.eval]
end
structure Ext (M:Nat->Prop) (w w':ä):Prop where
  os:w'.os=w.os
  tape:w'.tape=w.tape
  output:w'.output=w.output
  size:w.heap.size<=w'.heap.size
  block:∀b,b<w.heap.size->¬ M b->w'.heap[b]? = w.heap[b]?
def No:Nat->Prop:=λ_=>False
theorem Ext.refl{M w}:Ext M w w:=⟨rfl,rfl,rfl,aN _,λ_ _ _=>rfl⟩
theorem Ext.drawn{M w W}(h:Ext M w W)(k:Nat):Ext M w { W with drawn:=k }:=⟨h.os,h.tape,h.output,h.size,h.block⟩
theorem Ext.trans{M w W a}(h:Ext M w W)(k:Ext M W a):Ext M w a:=
  ⟨k.os.trans h.os,k.tape.trans h.tape,k.output.trans h.output,aF h.size k.size,λb H m=>(k.block b (Ů H h.size) m).trans (h.block b H m)⟩
theorem Ext.mono{M:Nat->Prop}{w W}(h:Ext M w W)(m:∀b,b<w.heap.size->M b->M' b):Ext M' w W:=⟨h.os,h.tape,h.output,h.size,λb H n=>h.block b H λa=>n (m b H a)⟩
theorem Ext.no{M w W}(h:Ext No w W):Ext M w W:=h.mono λ_ _ h=>h.elim
theorem Ext.step{M:Nat->Prop}{w W c}(h:Ext M w W)(k:Ext M' W c)(m:∀b,M' b->M b\/w.heap.size<=b):Ext M w c:=
  ⟨k.os.trans h.os,k.tape.trans h.tape,k.output.trans h.output,aF h.size k.size,λb a n=>
    (k.block b (Ů a h.size) λH=>by rcases m b H with H | H;exact n H;omega).trans (h.block b a n)⟩
theorem Ext.alloc{M w W}(h:Ext M w W)(o:Obj):Ext M w (W.alloc o):=
  h.trans ⟨rfl,rfl,rfl,σ,λ_ H _=>heap_alloc_old W o H⟩
theorem Ext.put{M w W b o}(h:Ext M w W)(H:M b\/w.heap.size<=b):Ext M w (put W b o):=
  h.step (M':=(· = b)) ⟨rfl,rfl,rfl,by simp[Wk.put],λk _ m=>by
    simp only[Wk.put];rw[Ĉ (λe=>m e.symm)]⟩ (λk a=>by subst a;exact H)
theorem Ext.heap{w W:ä}(h:Ext No w W){b:Nat}{o:Obj}(H:w.heap[b]? = á o):W.heap[b]? = á o:=
  (h.block b (ø.1 H).1 (λh=>h)).trans H
theorem Ext.heapM{M}{w W:ä}(h:Ext M w W){b:Nat}{o:Obj}(m:¬ M b)(H:w.heap[b]? = á o):W.heap[b]? = á o:=
  (h.block b (ø.1 H).1 m).trans H
theorem Ext.cell{w W:ä}(h:Ext No w W){v:è}(H:w.cell? F=á v):W.cell? F=á v:=
  (World.cell?_of_block (h.block F.block (World.block_lt_of_cell? w F H) (λh=>h))).trans H
theorem Ext.at{w W:ä}(h:Ext No w W){b:Nat}{c:List è}(H:At w b o c):At W b o c:=λj v a=>h.cell (H j v a)
class Rp (α:Type) where
  sz:Nat
  pos:0<sz
  own:Bool->ä->List è->α->List Nat->Prop
  len:∀ {s w cs x fp},own s w cs x fp->cs.length=sz
  one:∀ {s w cs x fp},own s w cs x fp->∀v∈cs,v.oneCell'=ã
  st:∀ {s w w' cs x fp},own s w cs x fp->(∀b∈fp,w'.heap[b]? = w.heap[b]?)->own s w' cs x fp
  lt:∀ {s w cs x fp},own s w cs x fp->∀b∈fp,b<w.heap.size
  weak:∀ {w cs x fp},own ã w cs x fp->own â w cs x fp
open Rp (sz own)
def Ak (x:Int):Prop := -9223372036854775808<=x/\x<=9223372036854775807
instance:Rp Int where
  sz:=1
  pos:=by decide
  own _ _ cs x fp:=cs=[.int .i64 x]/\fp=[]/\Ak x
  len h:=by rw[h.1];rfl
  one h v hv:=by rw[h.1] at hv;simp at hv;subst hv;rfl
  st h _:=h
  lt h b hb:=by rw[h.2.1] at hb;simp at hb
  weak h:=h
instance:Rp UInt8 where
  sz:=1
  pos:=by decide
  own _ _ cs x fp:=cs=[.int .u8 x.toNat]/\fp=[]
  len h:=by rw[h.1];rfl
  one h v hv:=by rw[h.1] at hv;simp at hv;subst hv;rfl
  st h _:=h
  lt h b hb:=by rw[h.2] at hb;simp at hb
  weak h:=h
instance:Rp Bool where
  sz:=1
  pos:=by decide
  own _ _ cs x fp:=cs=[.bool x]/\fp=[]
  len h:=by rw[h.1];rfl
  one h v hv:=by rw[h.1] at hv;simp at hv;subst hv;rfl
  st h _:=h
  lt h b hb:=by rw[h.2] at hb;simp at hb
  weak h:=h
structure Str where
  b:ByteArray
instance:Rp Str where
  sz:=1
  pos:=by decide
  own _ _ cs x fp:=cs=[.string x.b]/\fp=[]/\x.b.size<=Ë
  len h:=by rw[h.1];rfl
  one h v hv:=by rw[h.1] at hv;simp at hv;subst hv;rfl
  st h _:=h
  lt h b hb:=by rw[h.2.1] at hb;simp at hb
  weak h:=h
def dg {a:Type}[Rp a] (s:Bool) (w:ä):List è->List a->List Nat->Prop
  | _,[],f=>f=[]
  | c,x::X,f=>∃F b,f=F++b/\own s w (c.take (sz a)) x F/\dg s w (c.drop (sz a)) X b
section
variable {α:Type}[Rp α]
theorem dg.st{s w w'}:∀ {X:List α}{c f},dg s w c X f->(∀b∈f,w'.heap[b]? = w.heap[b]?)->dg s w' c X f
  | [],_,_,h,_=>h
  | x::X,c,f,⟨F,a,e,d,g⟩,H=>by
    subst e
    exact⟨F,a,rfl,Rp.st d λb hb'=>H b jT,dg.st g λb hb'=>H b jT⟩
theorem dg.lt{s w}:∀ {X:List α}{c f},dg s w c X f->∀b∈f,b<w.heap.size
  | [],_,_,h,b,H=>by rw[show _=_ from h] at H;simp at H
  | x::X,c,f,⟨F,g,e,a,d⟩,b,H=>by
    subst e
    rcases aI.1 H with H|H
    · exact Rp.lt a b H
    · exact dg.lt d b H
theorem dg.weak{w}:∀ {x:List α}{c f},dg ã w c x f->dg â w c x f
  | [],_,_,h=>h
  | _::_,_,_,⟨F,a,e,H,b⟩=>⟨F,a,e,Rp.weak H,dg.weak b⟩
theorem dg.cells{s w}:∀ {x:List α}{c f},dg s w c x f->x.length*sz α<=c.length
  | [],_,_,_=>by simp
  | _::_,_,_,⟨_,_,_,h,H⟩=>by
    have:=dg.cells H
    have a:=Rp.len h
    simp at *
    rw[b8]
    omega
theorem dg.get{s w}:∀ {X:List α}{c F},dg s w c X F->∀k (h:k<X.length),∃f,own s w ((c.drop (k*sz α)).take (sz α)) X[k] f/\(∀b∈f,b∈F)
  | [],_,_,_,k,h=>by simp at h
  | x::X,c,F,⟨a,g,e,h1,d⟩,0,_=>⟨a,xg,λb H=>by subst e;simp[H]⟩
  | x::X,c,F,⟨a,g,e,h1,d⟩,k+1,h=>by
    obtain⟨f,i,j⟩:=dg.get d k lN
    refine⟨f,?_,λb H=>by subst e;simp[j b H]⟩
    rw[b8,ĳ]
    simpa using i
theorem dg.congr{s w}:∀ {X:List α}{c cs' f},dg s w c X f->cs'.take (X.length*sz α)=c.take (X.length*sz α)->dg s w cs' X f
  | [],_,_,_,h,_=>h
  | x::X,c,cs',f,⟨F,a,e,b,d⟩,H=>by
    have g:sz α<=(x::X).length*sz α:=by rw[aR,b8];omega
    have t:cs'.take (sz α)=c.take (sz α):=by
      have:=congrArg (J? (sz α)) H
      rwa[ń,ń,ļ g] at this
    refine⟨F,a,e,by rw[t];exact b,dg.congr d ?_⟩
    have:=congrArg (List.drop (sz α)) H
    rw[İ,İ] at this
    rwa[show(x::X).length*sz α-sz α=X.length*sz α from by rw[aR,b8];omega] at this
def Ve (s:Bool) (w:ä) (c:List è) (x:List α) (f:List Nat):Prop:=
  (s=â/\∃F cap,c=[.slice F 0 cap]/\x=[]/\f=[])\/(c=[.slice ç 0 0]/\x=[]/\f=[]) \/
  ∃b o cap C T r a,c=[.slice (á ⟨b,o,ç⟩) x.length cap]/\f=b::a/\w.heap[b]? = á (.cells C T r)/\(s=ã->r=(0,0)) /\
    x.length<=cap/\cap<=Ë/\o+cap*sz α<=C.size/\dg s w (C.toList.drop o) x a
instance:Rp (List α) where
  sz:=1
  pos:=by decide
  own s w cs xs fp:=Ve s w cs xs fp
  len h:=by rcases h with ⟨_,_,_,rfl,_⟩|⟨rfl,_⟩|⟨_,_,_,_,_,_,_,rfl,_⟩<;>rfl
  one h v hv:=by rcases h with ⟨_,_,_,rfl,_⟩|⟨rfl,_⟩|⟨_,_,_,_,_,_,_,rfl,_⟩<;>simp at hv<;>subst hv<;>rfl
  st h hb:=by
    rcases h with h|h|⟨b,o,cap,cur,T,fr,fs,h1,h2,h3,h4,h5,h6,h7,h8⟩
    · exact .inl h
    · exact .inr (.inl h)
    · subst h2
      exact .inr (.inr ⟨b,o,cap,cur,T,fr,fs,h1,rfl,(hb b σ).trans h3,h4,h5,h6,h7,h8.st λx hx=>hb x sv⟩)
  lt h b' hb':=by
    rcases h with ⟨_,_,_,_,_,rfl⟩|⟨_,_,rfl⟩|⟨b,o,cap,cur,T,fr,fs,h1,h2,h3,h4,h5,h6,h7,h8⟩
    · simp at hb'
    · simp at hb'
    · subst h2
      rcases aM.1 hb' with rfl|hb'
      · exact(ø.1 h3).1
      · exact h8.lt _ hb'
  weak h:=by
    rcases h with ⟨h,_⟩|h|⟨b,o,cap,cur,T,fr,fs,h1,h2,h3,h4,h5,h6,h7,h8⟩
    · cases h
    · exact .inr (.inl h)
    · exact .inr (.inr ⟨b,o,cap,cur,T,fr,fs,h1,h2,h3,(λh=>by cases h),h5,h6,h7,h8.weak⟩)
theorem aL{s w c}{x:List α}{f}(h:own s w c x f):∃F cap,c=[.slice F x.length cap]:=by
  rcases h with ⟨_,F,cap,rfl,rfl,_⟩|⟨rfl,rfl,_⟩|⟨b,o,cap,_,_,_,_,rfl,_⟩
  · exact⟨_,_,rfl⟩
  · exact⟨_,_,rfl⟩
  · exact⟨_,_,rfl⟩
theorem gh{s w A n p}{x:List α}{F}(h:own s w [.slice A n p] x F)(k:Nat)(c:k<x.length):
    ∃b o C f,A=á ⟨b,o,ç⟩/\At w b (o+k*sz α) C/\own s w C x[k] f/\(∀b∈f,b∈F)/\b∈F:=by
  rcases h with ⟨_,_,_,_,rfl,_⟩|⟨_,rfl,_⟩|⟨b,o,q,r,T,t,u,a,d,e,y,z,B,D,g⟩
  · simp at c
  · simp at c
  · simp at a
    obtain⟨a,_,_⟩:=a
    subst a;subst d
    obtain⟨f,l,m⟩:=g.get k c
    refine⟨b,o,_,f,rfl,?_,l,λb i=>by simp[m b i],σ⟩
    refine At.part e λj v H=>?_
    rw[Ð] at H
    split at H
    · rw[Ñ] at H
      rw[<- H,Ŋ]
      simp
    · cases H
theorem kw{s w a n c}{x:List α}{f}(h:own s w [.slice a n c] x f):x.length<=Ë:=by
  rcases h with ⟨_,_,_,_,rfl,_⟩|⟨_,rfl,_⟩|⟨b,o,C,r,T,F,d,H,e,g,i,j,k,l,m⟩
  · simp
  · simp
  · omega
end
theorem Tz{s w c}{x:UInt8}{f}(h:own s w c x f):c=[.int .u8 x.toNat]/\f=[]:=h
theorem gj{s w c}{x:Int}{f}(h:own s w c x f):c=[.int .i64 x]/\f=[]/\Ak x:=h
theorem dN{s w a n c}{x:List UInt8}{F}(h:own s w [.slice a n c] x F)(k:Nat)(H:k<x.length):
    ∃b o,a=á ⟨b,o,ç⟩/\w.cell? ⟨b,o+k*1,ç⟩=á (.int .u8 (x.getD k 0).toNat):=by
  obtain⟨b,o,C,f,d,e,h3,_⟩:=gh h k H
  rw[show x.getD k 0=x[k] from by simp[H]]
  exact⟨b,o,d,e 0 _ zT⟩
theorem dW{s w a n c}{x:List Int}{F}(h:own s w [.slice a n c] x F)(k:Nat)(H:k<x.length):
    ∃b o,a=á ⟨b,o,ç⟩/\w.cell? ⟨b,o+k*1,ç⟩=á (.int .i64 (x.getD k 0)):=by
  obtain⟨b,o,C,f,d,e,h3,_⟩:=gh h k H
  rw[show x.getD k 0=x[k] from by simp[H]]
  exact⟨b,o,d,e 0 _ zT⟩
section
variable {n:Nat}{L:Env}{w:ä}{d:Option Tmp}
theorem bR{s:ì}{a:Option ô}{b l S:Nat}(u:P.underlying s=á (.slice e))(f:∀w,(sizeOf e).run P w = .ok S w)
    (h:(evL L x,evL L U)=(á (.slice a l cap),á (.int V z))) (H:a=á ⟨b,o,ç⟩) (k:Nat) (m:z=k) (c:k<l) :
    Py P n L w ⟨d,.indexAddr s x U,B,p,r,g⟩ (.pointer (á ⟨b,o+k*S,ç⟩)):=by
  have⟨j,i⟩:=pj2 h;subst H;subst m;exact Ug u f j i c
end
end Go.Wk
namespace Go.Wk
open Rp (sz own)
variable {g:Option (Nat × Bool)}{x y:Â}{c:Array ą}{D:Array Edge}{C:ì}{p:String}{n G I m j:Nat}{o:ą}{l:List è}{B:List ą}{S:ä->Prop}{L:Env}{Q:Post}{J:Array è}{s E:Bool}{R:è->ä->Prop}{f:Ŕ}
structure Rsc where
  fp:List Nat
  φ:ä->Prop
  st:∀ {w w':ä},φ w->(∀b∈fp,w'.heap[b]? = w.heap[b]?)->φ w'
  lt:∀ {w:ä},φ w->∀b∈fp,b<w.heap.size
def box (b:Nat) (o:Obj):Rsc:=⟨[b],λw=>w.heap[b]? = á o,λh k=>(k b σ).trans h,λh x H=>by
  simp at H;subst H;exact(ø.1 h).1⟩
def A4 {a:Type}[Rp a] (c:List è) (x:a) (f:List Nat):Rsc:=⟨f,λw=>own ã w c x f,λh k=>Rp.st h k,λh=>Rp.lt h⟩
def Ab {a:Type}[Rp a] (s:Bool) (c:List è) (x:a) (f:List Nat):Rsc:=⟨f,λw=>own s w c x f,λh k=>Rp.st h k,λh=>Rp.lt h⟩
def blocks:List Rsc->List Nat
  | []=>[]
  | r::a=>r.fp++blocks a
theorem cG{b:Nat}:∀ {a:List Rsc},b∈blocks a↔∃r∈a,b∈r.fp
  | []=>by simp[blocks]
  | r::a=>by simp[blocks,cG]
theorem eu:∀(b a:List Rsc),blocks (b++a)=blocks b++blocks a
  | [],_=>rfl
  | r::b,a=>by simp[blocks,eu b a]
structure Sep (M:Nat->Prop) (w0:ä) (Δ F:List Rsc) (w:ä):Prop where
  ext:Ext M w0 w
  rs:∀r∈Δ,r.φ w
  nd:(blocks Δ).Nodup
  new:∀b∈blocks Δ,M b\/w0.heap.size<=b
  fs:∀r∈F,r.φ w
  ap:∀r∈F,∀b∈r.fp,b ∉ blocks Δ
section
variable {M:Nat->Prop}{d w k:ä}{a F e:List Rsc}
theorem Sep.start{w:ä}{F:List Rsc}(h:∀r∈F,r.φ w):Sep No w [] F w:=
  ⟨Ext.refl,σ,by simp[blocks],by simp[blocks],h,by simp[blocks]⟩
theorem Sep.lt(h:Sep M d a F w):∀b∈blocks a,b<w.heap.size:=λb H=>by
  obtain⟨r,c,H⟩:=cG.1 H
  exact r.lt (h.rs r c) b H
theorem Sep.r(h:Sep M d a F w)(i:Nat){r:Rsc}(H:a[i]? = á r):r.φ w:=h.rs r (æ H)
theorem Sep.box(h:Sep M d a F w)(i:Nat){b o}(H:a[i]? = á (box b o)):w.heap[b]? = á o:=h.r i H
theorem Sep.A4{b:Type}[Rp b](h:Sep M d a F w)(i:Nat){c f}{x:b}(H:a[i]? = á (A4 c x f)):own ã w c x f:=h.r i H
theorem Sep.Ab{b:Type}[Rp b](h:Sep M d a F w)(i:Nat){s c f}{x:b}(H:F[i]? = á (Ab s c x f)):own s w c x f:=h.fs _ (æ H)
theorem Sep.to(h:Sep M d a F w)(e:Ext No w k):Sep M d a F k:=
  ⟨h.ext.trans e.no,λr H=>r.st (h.rs r H) λb c=>e.block b (r.lt (h.rs r H) b c) id,h.nd,h.new,
    λr H=>r.st (h.fs r H) λb c=>e.block b (r.lt (h.fs r H) b c) id,h.ap⟩
theorem Sep.drawn(h:Sep M d a F w)(k:Nat):Sep M d a F { w with drawn:=k }:=h.to (Ext.refl.drawn k)
theorem za{b a:List Rsc}(H:a.Sublist b)(h:(blocks b).Nodup):(blocks a).Nodup:=by
  have:(blocks a).Sublist (blocks b):=by
    induction H with
    | slnil=>exact .slnil
    | cons r _ i=>exact(i (by unfold blocks at h;exact(ë.1 h).2.1)).trans (List.sublist_append_right _ _)
    | cons_cons r _ i=>exact ŏ (.refl _) (i (by unfold blocks at h;exact(ë.1 h).2.1))
  exact h.sublist this
theorem Sep.sub(h:Sep M d a F w)(s:e.Sublist a):Sep M d e F w:=by
  have m:∀b∈blocks e,b∈blocks a:=λb H=>by
    obtain⟨r,c,H⟩:=cG.1 H
    exact cG.2 ⟨r,s.subset c,H⟩
  exact⟨h.ext,λr c=>h.rs r (s.subset c),za s h.nd,λb H=>h.new b (m b H),h.fs,λr c b H x=>h.ap r c b H (m b x)⟩
theorem Sep.add(h:Sep M d a F w)(e:Ext No w k){r:Rsc}(l:r.φ k)(n:r.fp.Nodup)(j:∀b∈r.fp,w.heap.size<=b):Sep M d (a++[r]) F k:=by
  have g:=h.to e
  have t:=h.lt
  have i:blocks (a++[r])=blocks a++r.fp:=by rw[eu];simp[blocks]
  refine⟨g.ext,λq c=>?_,?_,λb H=>?_,g.fs,λq c b H f=>?_⟩
  · rcases aI.1 c with c|c
    · exact g.rs q c
    · simp at c;subst c;exact l
  · rw[i]
    refine ë.2 ⟨h.nd,n,λx f y m e=>?_⟩
    subst e
    have:=t x f
    have:=j x m
    omega
  · rw[i] at H
    rcases aI.1 H with H | H
    · exact h.new b H
    · have:=j b H
      have:=h.ext.size
      exact .inr ω
  · rw[i] at f
    rcases aI.1 f with f|f
    · exact h.ap q c b H f
    · have:=j b f
      have:=q.lt (h.fs q c) b H
      omega
theorem Sep.alloc(h:Sep M d a F w)(o:Obj):Sep M d (a++[Wk.box w.heap.size o]) F (w.alloc o):=
  h.add (Ext.refl.alloc o) (ŋ w o) iQ iQ
theorem fR:∀ {a:List Rsc}{i:Nat}{r q:Rsc},a[i]? = á r->∀b,b∈blocks (a.set i q)->b∈q.fp\/b∈blocks a
  | [],i,r,q,h,b,H=>by simp at h
  | p::a,0,r,q,h,b,H=>by
    simp only[List.set_cons_zero,blocks,aI] at H ⊢
    rcases H with H|H
    · exact .inl H
    · exact .inr (.inr H)
  | p::a,i+1,r,q,h,b,H=>by
    simp only[List.set_cons_succ,blocks,aI] at H ⊢
    rcases H with H|H
    · exact .inr (.inl H)
    · rcases fR lN b H with H|H
      · exact .inl H
      · exact .inr (.inr H)
theorem nc:∀ {a:List Rsc}{i:Nat}{r q:Rsc},a[i]? = á r->(blocks a).Nodup->q.fp.Nodup->(∀b∈q.fp,b∈blocks a->b∈r.fp)->(blocks (a.set i q)).Nodup
  | [],i,r,q,h,_,_,_=>by simp at h
  | p::a,0,r,q,h,n,l,f=>by
    simp at h
    subst h
    obtain⟨m,g,d⟩:=ë.1 n
    refine ë.2 ⟨l,g,λx c y H e=>?_⟩
    subst e
    exact d x (f x c (by simp[blocks,H])) x H rfl
  | p::a,i+1,r,q,h,n,l,f=>by
    obtain⟨m,g,d⟩:=ë.1 n
    have k:a[i]? = á r:=by simpa using h
    have s:∀b∈r.fp,b∈blocks a:=λb j=>cG.2 ⟨r,æ k,j⟩
    refine ë.2 ⟨m,nc k g l λb j o=>f b j (by simp[blocks,o]),λx c y H e=>?_⟩
    subst e
    rcases fR k x H with H|H
    · exact d x c x (s x (f x H (by simp[blocks,c]))) rfl
    · exact d x c x H rfl
theorem kN{c:List Rsc}{i:Nat}{r q:Rsc}(d:c[i]? = á r)(n:(blocks c).Nodup):∀p∈c.set i q,p=q\/(p∈c/\∀b∈p.fp,b ∉ r.fp):=by
  induction c generalizing i with
  | nil=>simp at d
  | cons a c I=>
    intro p h
    obtain⟨k,j,f⟩:=ë.1 n
    cases i with
    | zero=>
      simp at d;subst d
      simp at h
      rcases h with rfl|h
      · exact .inl rfl
      · exact .inr ⟨by simp[h],λb H e=>f b e b (cG.2 ⟨p,h,H⟩) rfl⟩
    | succ i=>
      have g:c[i]? = á r:=by simpa using d
      simp at h
      rcases h with rfl|h
      · exact .inr ⟨σ,λb H e=>f b H b (cG.2 ⟨r,æ g,e⟩) rfl⟩
      · rcases I g j p h with rfl|⟨h,H⟩
        · exact .inl rfl
        · exact .inr ⟨by simp[h],H⟩
theorem Sep.set(h:Sep M d a F w){i:Nat}{r q:Rsc}(f:a[i]? = á r)(e:Ext (· ∈ r.fp) w k)(o:q.φ k)(n:q.fp.Nodup)(j:∀b∈q.fp,b∈r.fp\/w.heap.size<=b):
    Sep M d (a.set i q) F k:=by
  have g:∀b∈r.fp,b∈blocks a:=λb H=>cG.2 ⟨r,æ f,H⟩
  have t:=h.lt
  refine⟨h.ext.step e λb H=>h.new b (g b H),λp c=>?_,nc f h.nd n λb H l=>?_,λb H=>?_,λp c=>?_,λp c b H x=>?_⟩
  · rcases kN f h.nd p c with rfl|⟨c,m⟩
    · exact o
    · exact p.st (h.rs p c) λb H=>e.block b (p.lt (h.rs p c) b H) (m b H)
  · rcases j b H with H|H
    · exact H
    · have:=t b l;omega
  · rcases fR f b H with H|H
    · rcases j b H with H|H
      · exact h.new b (g b H)
      · have:=h.ext.size;exact .inr ω
    · exact h.new b H
  · exact p.st (h.fs p c) λb H=>e.block b (p.lt (h.fs p c) b H) λx=>h.ap p c b H (g b x)
  · rcases fR f b x with x|x
    · rcases j b x with x|x
      · exact h.ap p c b H (g b x)
      · have:=p.lt (h.fs p c) b H;omega
    · exact h.ap p c b H x
theorem Sep.put(h:Sep M d a F w)(i:Nat){b o}(O:Obj)(H:a[i]? = á (Wk.box b o)):Sep M d (a.set i (Wk.box b O)) F (put w b O):=
  h.set H (Ext.refl.put (.inl iQ)) (kJ (h.box i H)) iQ iQ
theorem Sep.perm(h:Sep M d a F w)(p:a.Perm e):Sep M d e F w:=by
  have m:∀b,b∈blocks e->b∈blocks a:=λb H=>by
    obtain⟨r,c,H⟩:=cG.1 H
    exact cG.2 ⟨r,p.mem_iff.2 c,H⟩
  have H:(blocks a).Perm (blocks e):=by
    have:∀a:List Rsc,blocks a=a.flatMap (·.fp):=λa=>by
      induction a with
      | nil=>rfl
      | cons r a i=>simp[blocks,i]
    rw[this,this]
    exact p.flatMap_right _
  exact⟨h.ext,λr c=>h.rs r (p.mem_iff.2 c),H.nodup_iff.1 h.nd,λb x=>h.new b (m b x),h.fs,λr c b x y=>h.ap r c b x (m b y)⟩
end
def Res {a:Type}[Rp a] (w W:ä) (c:List è) (x:a):Prop:=∃f,own ã W c x f/\f.Nodup/\∀b∈f,w.heap.size<=b
theorem Sep.res{d:Type}[Rp d]{M a b F}{w W:ä}{c:List è}{x:d}(h:Sep M a b F w)(e:Ext No w W)(r:Res w W c x):∃f,Sep M a (b++[Wk.A4 c x f]) F W:=by
  obtain⟨f,H,g,i⟩:=r
  exact⟨f,h.add e H g i⟩
theorem Sep.out{d:Type}[Rp d]{W a F}{w:ä}{c:List è}{x:d}{f}(h:Sep No W a F w)(i:Nat)(H:a[i]? = á (Wk.A4 c x f)):Res W w c x:=by
  have m:=æ H
  refine⟨f,h.A4 i H,?_,λb e=>?_⟩
  · have:=List.singleton_sublist.2 m
    simpa[blocks,Wk.A4] using za this h.nd
  · exact(h.new b (cG.2 ⟨_,m,e⟩)).resolve_left id
section
variable {w:ä}{F:List Rsc}
theorem aC{a:Type}[Rp a]{c:List è}{x:a}{f:List Nat}(h:Rp.own s w c x f)(k:∀r∈F,r.φ w):∀r∈Ab s c x f::F,r.φ w:=λr H=>(aM.1 H).elim (λe=>e ▸ h) (k r)
theorem dc{b:Nat}{o:Obj}(h:w.heap[b]? = á o)(k:∀r∈F,r.φ w):∀r∈box b o::F,r.φ w:=λr H=>(aM.1 H).elim (λe=>e ▸ h) (k r)
theorem ba:∀r∈([]:List Rsc),r.φ w:=λ_ h=>by cases h
end
structure Ty (P:Æ) (e:ì) (z:è) (size bytes:Nat):Prop where
  h:(P.info? e).map (λi=>(i.zero,i.size,i.bytes))=á (á z,size,bytes)
theorem Ty.parts{P e z s b}(t:Ty P e z s b):∃i,P.info? e=á i/\i.zero=á z/\i.size=s/\i.bytes=b:=by
  have h:=t.h
  cases H:P.info? e with
  | none=>rw[H] at h;cases h
  | some i=>rw[H] at h;simp at h;exact⟨i,rfl,h.1,h.2.1,h.2.2⟩
theorem Ty.size{P e z s b}(t:Ty P e z s b)(w:ä):(sizeOf e).run P w = .ok s w:=by
  obtain⟨i,h,a,H,c⟩:=t.parts
  simp[sizeOf,Y?,h,H]
section
variable {a:Type}[Rp a] {P:Æ}
theorem xG{w:ä}{b o:Nat}{c:Array è}{T f}(H:w.heap[b]? = á (.cells c T f))(m:Nat):At w b o ((c.toList.drop o).take m):=λj v h=>by
  refine qm H ?_
  rw[Ð] at h
  split at h
  · simpa using h
  · cases h
theorem Cf{w:ä}{b o:Nat}{c:List è}(h:At w b o c):∀j v,c[j]? = á v->w.cell? ((⟨b,o,ç⟩:ô).add j)=á v:=λj v H=>by
  rw[lu];exact h j v H
theorem px:∀(l:List è) (c:Array è) (o:Nat),o+l.length<=c.size->(lay c o l).toList=c.toList.take o++l++c.toList.drop (o+l.length)
  | [],c,o,_=>by simp[lay]
  | v::l,c,o,h=>by
    have a:o<c.toList.length:=by simp at h ⊢;omega
    rw[lay,px l _ _ (by simp at h ⊢;omega)]
    simp
    rw[List.set_eq_take_append_cons_drop,ae a]
    have H:(c.toList.take o).length=o:=by rw[aY];omega
    rw[List.take_append,j?,H]
    simp
    rw[Ĕ (by rw[H];omega),List.drop_of_length_le (by rw[H];omega)]
    simp[Ŋ,ĳ 1]
theorem dg.append{w:ä}:∀ {X:List a}{c F d f} {y:List a},dg s w c X F->c.length=X.length*sz a->dg s w d y f->dg s w (c++d) (X++y) (F++f)
  | [],c,F,d,f,y,i,h,H=>by
    have:=í (by simpa using h)
    subst this
    have l:=i
    subst l
    simpa using H
  | x::X,c,F,d,f,y,⟨b,g,E,j,k⟩,h,H=>by
    subst E
    have e:sz a<=c.length:=by rw[h,aR,b8];omega
    refine⟨b,g++f,σ,?_,?_⟩
    · rw[List.take_append_of_le_length e];exact j
    · rw[List.drop_append_of_le_length e]
      exact dg.append k (by rw[bZ,h,aR,b8];omega) H
theorem nh{w:ä}{t e:ì}{z:è}{a_:Nat}(S:P.underlying t=á (.slice e))(hT:Ty P e z (sz a) a_)(hz:z.cells.size=sz a)
    {n_:è}{X Y:List a}{g:List Nat}(c_:own ã w [n_] X g){O:Nat}{n:List è}(l:n.length=m*sz a) (hm:m=Y.length) (K:At w G O n)
    (h1:∀y_∈n,y_.oneCell'=ã) {d:List Nat}(A:dg ã w n Y d) (r:∀b∈d,b ∉ g) (V:g.Nodup) (n2:d.Nodup) (u_:0<m)
    (d_:X.length+m<=Ë) (e_:(X.length+m)*a_<=140737488355328) :
    ∃v' W f,(Ô #[t,t] C #[n_,.slice (á ⟨G,O,ç⟩) m I]).run P w = .ok v' W/\own ã W [v'] (X++Y) f/\Ext (· ∈ g) w W /\
      (∀b∈f,b∈g\/b∈d\/w.heap.size<=b)/\f.Nodup:=by
  obtain⟨m_,N,g_,u,h_⟩:=hT.parts
  have x_:X.length+m<=9223372036854775807:=by simp only[Ë] at d_;omega
  subst hm
  have b_:∀(j:Nat) (s:List è) (F:List Nat),s.length=X.length*sz a->dg ã w s X F->(∀b∈F,b∈g)->F.Nodup->∀W,W= w.drew.alloc (.cells (s.toArray++n.toArray++Ø z.cells (grownCap w (X.length+Y.length) j e-(X.length+Y.length))) e) ->
      ∃f,own ã W [.slice (á ⟨w.heap.size,0,ç⟩) (X.length+Y.length) (grownCap w (X.length+Y.length) j e)] (X++Y) f/\Ext (· ∈ g) w W /\
      (∀b∈f,b∈g\/b∈d\/w.heap.size<=b)/\f.Nodup:=by
    intro j s F H j_ M v_ W l_
    have hE:Ext No w W:=by subst l_;exact(Ext.refl.drawn _).alloc _
    have s_:=grownCap_ge w (X.length+Y.length) j e
    have L:grownCap w (X.length+Y.length) j e<=Ë:=grownCap_le_maxLen w (X.length+Y.length) j e d_
    refine⟨w.heap.size::(F++d),.inr (.inr ⟨w.heap.size,0,_,_,e,(0,0),F++d,σ,rfl,by subst l_;exact ŋ w.drew _,λ_=>rfl,by simpa using s_,L,?_,?_⟩),hE.no,λb h=>?_,?_⟩
    · simp only[Array.size_append,ĵ,size_zeroCells,hz,H,l,<- b8,K?]
      exact Nat.le_of_eq (by congr 1;omega)
    · have:=(j_.append H A).st (w':=W) λb h=>hE.block b (by
        rcases aI.1 h with h|h
        · exact j_.lt b h
        · exact A.lt b h) id
      refine this.congr ?_
      have Q:(X++Y).length*sz a=(s++n).length:=by rw[aO,aO,b8,H,l]
      rw[Q]
      simp only[ě,Array.toList_append]
      rw[ö,Y_ rfl]
    · simp only[aM,aI] at h
      rcases h with rfl|h|h
      · exact .inr (.inr (aN _))
      · exact .inl (M b h)
      · exact .inr (.inl h)
    · refine ù.2 ⟨λhx=>?_,ë.2 ⟨v_,n2,λx hx y U E=>?_⟩⟩
      · rcases aI.1 hx with hx|hx
        · have:=Rp.lt c_ _ (M _ hx);omega
        · have:=A.lt _ hx;omega
      · subst E;exact r x U (M x hx)
  rcases c_ with ⟨hf,_⟩|⟨hv,rfl,rfl⟩|⟨b,o,p,c,T,fr,F,hv,i,h,q_,hc,L,p_,i_⟩
  · cases hf
  · simp at hv;subst hv
    have v:=run_append_nil (P:=P) w t C e m_ z S N g_ ⟨G,O,ç⟩ Y.length I n (by rw[u];exact l) (Cf K) u_ (by simp at x_;omega) (by rw[h_];simp at e_;omega)
    obtain⟨f,k,q,D,J⟩:=b_ 0 [] [] σ rfl σ .nil _ rfl
    simp only[aV,K?,Ý] at k q v ⊢
    refine⟨_,_,f,v,?_,?_,D,J⟩
    · simpa using k
    · simpa using q
  · simp at hv;subst hv
    have r_:=q_ rfl
    subst r_
    have z_:X.length*sz a<=p*sz a:=Å _ hc
    by_cases R:X.length+Y.length<=p
    ·
      have f_:o+X.length*sz a+n.length<=c.size:=by
        have:(X.length+Y.length)*sz a<=p*sz a:=Å _ R
        rw[b8] at this
        rw[l];omega
      have k_:=kp (P:=P) n w (o+X.length*sz a) 0 c h h1 (by simpa using f_)
      have t_:(loadCells ⟨G,O,ç⟩ (Y.length*sz a)).run P w = .ok n.toArray w:=by
        have:=mu (P:=P) n G O 0 #[] (by simpa using K)
        rw[l] at this
        simpa[loadCells] using this
      refine⟨.slice (á ⟨b,o,ç⟩) (X.length+Y.length) p,put w b (.cells (lay c (o+X.length*sz a) n) T (0,0)),b::(F++d),?_,.inr (.inr ⟨b,o,p,_,T,(0,0),F++d,σ,rfl,kJ h,λ_=>rfl,by simpa using R,L,by rw[rp];exact p_,?_⟩),?_,λB hb'=>?_,?_⟩
      · simp[Ô,þ S,sizeOf,Y?,N,u,V_,R,Ŧ,t_,lu]
        simp only[Nat.add_zero] at k_
        rw[k_]
        rfl
      · have o_:Ext (· = b) w (put w b (.cells (lay c (o+X.length*sz a) n) T (0,0))):=Ext.refl.put (.inl rfl)
        have H:((c.toList.drop o).take (X.length*sz a)).length=X.length*sz a:=by
          rw[aY,bZ]
          have:c.toList.length=c.size:=by simp
          omega
        have h2:=(i_.congr (cs':=(c.toList.drop o).take (X.length*sz a)) Dl).append H A
        have h3:=h2.st (w':=put w b (.cells (lay c (o+X.length*sz a) n) T (0,0))) λB hb'=>o_.block B (h2.lt B hb') λe=>by
          subst e;subst i
          rcases aI.1 hb' with hb' | hb'
          · exact(ù.1 V).1 hb'
          · exact r B hb' σ
        refine h3.congr ?_
        have Q:(X++Y).length*sz a=((c.toList.drop o).take (X.length*sz a)++n).length:=by rw[aO,aO,b8,H,l]
        rw[Q,ö,px _ _ _ f_,Î,j?]
        have h5:(c.toList.take (o+X.length*sz a)).length=o+X.length*sz a:=by
          rw[aY]
          have:c.toList.length=c.size:=by simp
          omega
        rw[h5,İ,show o+X.length*sz a-o=X.length*sz a from by omega,show o-(o+X.length*sz a)=0 from by omega,ě,<- Î,Y_ rfl]
      · exact Ext.refl.put (.inl (by subst i;simp))
      · subst i
        simp only[aM,aI] at hb' ⊢
        rcases hb' with rfl|hb' | hb'
        · exact .inl (.inl rfl)
        · exact .inl (.inr hb')
        · exact .inr (.inl hb')
      · subst i
        obtain⟨n3,n4⟩:=ù.1 V
        refine ù.2 ⟨λhx=>?_,ë.2 ⟨n4,n2,λx hx y U E=>?_⟩⟩
        · rcases aI.1 hx with hx|hx
          · exact n3 hx
          · exact r b hx σ
        · subst E;exact r x U sv
    · have hg:p<X.length+Y.length:=by omega
      have w_:=xG h (o:=o) (X.length*sz a)
      have H:((c.toList.drop o).take (X.length*sz a)).length=X.length*sz a:=by
        rw[aY,bZ]
        have:c.toList.length=c.size:=by simp
        omega
      have v:=run_append_grow (P:=P) w t C e m_ z S N g_ ⟨b,o,ç⟩ X.length p _ (by rw[u];exact H) (Cf w_) ⟨G,O,ç⟩ Y.length I n (by rw[u];exact l) (Cf K) hg ω (by rw[h_];exact growslice_fits hg e_)
      obtain⟨f,k,q,D,J⟩:=b_ p _ F H (i_.congr Dl) (λb h=>by subst i;simp[h]) (by subst i;exact(ù.1 V).2) _ rfl
      exact⟨_,_,f,v,k,q,D,J⟩
theorem dg.one{w:ä}{c:List è}{x:a}{f}(h:own s w c x f):dg s w c [x] f:=by
  refine⟨f,[],σ,?_,rfl⟩
  rw[<- Rp.len h,ö];exact h
end
def gone:Rsc:=⟨[],λ_=>True,λ_ _=>trivial,λ_ b h=>by simp at h⟩
section
variable {M:Nat->Prop}{u w k:ä}{d F:List Rsc}
theorem kr:∀ {d:List Rsc}{j:Nat}{p:Rsc},d[j]? = á p->(blocks d).Nodup->∀b∈p.fp,b ∉ blocks (d.set j gone)
  | [],j,p,h,_,_,_=>by simp at h
  | a::d,0,p,h,n,b,c=>by
    simp only[List.getElem?_cons_zero,Option.some.injEq] at h
    subst h
    simp only[List.set_cons_zero,blocks,gone,Ý] at n ⊢
    exact λH=>(ë.1 n).2.2 b c b H rfl
  | a::d,j+1,p,h,n,b,c=>by
    simp only[List.set_cons_succ,blocks] at n ⊢
    obtain⟨i,f,g⟩:=ë.1 n
    have e:d[j]? = á p:=by simpa using h
    intro H
    rcases aI.1 H with H|H
    · exact g b H b (cG.2 ⟨p,æ e,c⟩) rfl
    · exact kr e f b c H
theorem Sep.set2(h:Sep M u d F w){i:Nat}{r p q:Rsc}(s:d[i]? = á r)(c:d[j]? = á p)(z:î j i=â)(e:Ext (· ∈ r.fp) w k)(G:q.φ k)(B:q.fp.Nodup)
    (n:∀b∈q.fp,b∈r.fp\/b∈p.fp\/w.heap.size<=b):Sep M u ((d.set j gone).set i q) F k:=by
  have D:j≠i:=λe=>by subst e;simp at z
  have E:∀b∈p.fp,b∈blocks d:=λb H=>cG.2 ⟨p,æ c,H⟩
  have g:∀b∈r.fp,b∈blocks d:=λb H=>cG.2 ⟨r,æ s,H⟩
  have f:(d.set j gone)[i]? = á r:=by rw[bh D];exact s
  have o:∀b∈blocks (d.set j gone),b∈blocks d:=λb H=>by
    rcases fR c b H with H|H
    · simp[gone] at H
    · exact H
  have t:(blocks (d.set j gone)).Nodup:=nc c h.nd df df
  have A:=h.lt
  have C:(blocks ((d.set j gone).set i q)).Nodup:=nc f t B λb H m=>by
    rcases n b H with H|H|H
    · exact H
    · exact absurd m (kr c h.nd b H)
    · have:=A b (o b m);omega
  have l:∀b∈blocks ((d.set j gone).set i q),b∈blocks d\/w.heap.size<=b:=λb H=>by
    rcases fR f b H with H|H
    · rcases n b H with H|H|H
      · exact .inl (g b H)
      · exact .inl (E b H)
      · exact .inr H
    · exact .inl (o b H)
  refine⟨h.ext.step e λb H=>h.new b (g b H),λx a=>?_,C,λb H=>?_,λx a=>?_,λx a b H y=>?_⟩
  · rcases kN f t x a with rfl|⟨a,v⟩
    · exact G
    · rcases kN c h.nd x a with rfl|⟨a,_⟩
      · trivial
      · exact x.st (h.rs x a) λb H=>e.block b (x.lt (h.rs x a) b H) (v b H)
  · rcases l b H with H|H
    · exact h.new b H
    · have:=h.ext.size;exact .inr ω
  · exact x.st (h.fs x a) λb H=>e.block b (x.lt (h.fs x a) b H) λy=>h.ap x a b H (g b y)
  · rcases l b y with y|y
    · exact h.ap x a b H y
    · have:=x.lt (h.fs x a) b H;omega
theorem Sep.Aj(h:Sep M u d F w){i:Nat}{r:Rsc}(H:d[i]? = á r):r.fp.Nodup:=by
  have:[r].Sublist d:=List.singleton_sublist.2 (æ H)
  simpa[blocks] using za this h.nd
theorem Sep.apart{i:Nat}{r p:Rsc}(h:Sep M u d F w)(a:d[i]? = á r)(g:d[j]? = á p)(f:î j i=â):∀b∈p.fp,b ∉ r.fp:=λb H l=>by
  have k:j≠i:=λe=>by subst e;simp at f
  have c:(d.set j gone)[i]? = á r:=by rw[bh k];exact a
  exact kr g h.nd b H (cG.2 ⟨r,æ c,l⟩)
variable {r:Type}[Rp r] {P:Æ}{t e:ì}{z:è}{a:Nat}
theorem Sep.app1(h:Sep M u d F w)(i:Nat){v:è}{x:List r}{p}(H:d[i]? = á (Wk.A4 [v] x p))(J:P.underlying t=á (.slice e))(T:Ty P e z (sz r) a)(K:z.cells.size=sz r)
{s:List è}{y:r}(B:At w G 0 s) (c:own ã w s y []) (A:x.length+1<=Ë) (E:(x.length+1)*a<=140737488355328) :
    ∃V k f,(Ô #[t,t] C #[v,.slice (á ⟨G,0,ç⟩) 1 I]).run P w = .ok V k/\Sep M u (d.set i (Wk.A4 [V] (x++[y]) f)) F k:=by
  obtain⟨V,k,f,g,j,l,n,o⟩:=nh (C:=C) J T K (h.A4 i H) (Y:=[y]) (I:=I) (m:=1) (by rw[Rp.len c];simp) rfl B (Rp.one c) (.one c) σ (h.Aj H) .nil ω A E
  exact⟨V,k,f,g,h.set H (q:=Wk.A4 [V] (x++[y]) f) l j o λb D=>by rcases n b D with h|h|h;exact .inl h;simp at h;exact .inr h⟩
theorem Sep.app2(h:Sep M u d F w)(i j:Nat){v:è}{x:List r}{p}(H:d[i]? = á (Wk.A4 [v] x p))(L:P.underlying t=á (.slice e))(T:Ty P e z (sz r) a)(N:z.cells.size=sz r)
{s:List è}{y:r}{l} (b:d[j]? = á (Wk.A4 s y l)) (g:î j i=â) (J:At w G 0 s) (E:x.length+1<=Ë) (K:(x.length+1)*a<=140737488355328) :
    ∃V k f,(Ô #[t,t] C #[v,.slice (á ⟨G,0,ç⟩) 1 I]).run P w = .ok V k/\Sep M u ((d.set j gone).set i (Wk.A4 [V] (x++[y]) f)) F k:=by
  have c:=h.A4 j b
  obtain⟨V,k,f,n,o,A,B,D⟩:=nh (C:=C) L T N (h.A4 i H) (Y:=[y]) (I:=I) (m:=1) (by rw[Rp.len c];simp) rfl J (Rp.one c) (.one c) (h.apart H b g) (h.Aj H) (h.Aj b) ω E K
  exact⟨V,k,f,n,h.set2 H b g (q:=Wk.A4 [V] (x++[y]) f) A o D B⟩
end
section
variable {P:Æ}{w e:ä}{d:Option Tmp}
theorem pU{t T:ì}{v u V:è}(b:evL L x=á v)(c:evL L y=á u)(H:(Ô #[t,T] C #[v,u]).run P w = .ok V e):
    Pn P n L w ⟨d,.call ⟨.builtin .append,#[x,y],#[t,T]⟩,C,p,D,g⟩ V e:=λa h=>by
  simp[À,ũ,X_,builtin,h.eval b,h.eval c,H]
theorem Le{t e:ì}{z:è}{s b:Nat}(u:P.underlying t=á (.slice e))(T:Ty P e z s b)(v:evL L x=á (.int .i64 m))(y:b*m<=281474976710656)(c:m<=Ë):
    Pn P n L w ⟨d,.makeSlice t x x,C,p,D,g⟩ (.slice (á ⟨w.heap.size,0,ç⟩) m m) (w.alloc (.cells (madeCells z.cells (m*s)) e)):=λa j=>by
  obtain⟨i,l,o,q,r⟩:=T.parts
  have f:(m:Int)<=9223372036854775807:=by unfold Ë at c;omega
  have k:(i.bytes:Int)*(m:Int)<=281474976710656:=by
    have h:((i.bytes*m:Nat):Int)<=281474976710656:=by rw[r];omega
    rwa[Int.natCast_mul] at h
  have H:=run_make (P:=P) w t e i z u l o .i64 .i64 m m ω (Int.le_refl _) k f
  simp only[f?,q] at H
  simp[À,j.eval v,H]
section
variable {a:Type}[Rp a]
theorem dg.of_get{w:ä}:∀ {X:List a}{c:List è},(∀k (h:k<X.length),own s w ((c.drop (k*sz a)).take (sz a)) X[k] [])->dg s w c X []
  | [],_,_=>rfl
  | x :: X,c,h=>⟨[],[],rfl,by have:=h 0 σ;simp only[Nat.zero_mul,ě,List.getElem_cons_zero] at this;exact this,dg.of_get λk hk=>by
      have:=h (k+1) oi
      rw[ė]
      rw[b8,ľ,ĳ] at this
      simpa using this⟩
theorem Nv(z:Array è)(m k:Nat)(a:k<m):((madeCells z (m*z.size)).toList.drop (k*z.size)).take z.size=z.toList:=by
  have e:(k+1)*z.size<=m*z.size:=Å _ a
  rw[b8,ľ] at e
  apply ĉ
  intro j
  rw[Ð]
  split
  · rename_i hj
    have h:k*z.size+j<m*z.size:=by omega
    rw[Ñ]
    have H:(k*z.size+j) % z.size=j:=by rw[ĳ,Nat.add_mul_mod_self_right,C? hj]
    simp[madeCells,h,H,hj]
  · rename_i hj
    rw[Í sD]
theorem Qy{w:ä}{z:è}{x:a}{e:ì}(h:∀w,own ã w z.cells.toList x [])(H:m<=Ë):
    own ã (w.alloc (.cells (madeCells z.cells (m*sz a)) e)) [.slice (á ⟨w.heap.size,0,ç⟩) m m] (å m x) [w.heap.size]:=by
  have s:z.cells.size=sz a:=by simpa using Rp.len (h w)
  refine .inr (.inr ⟨w.heap.size,0,m,_,e,(0,0),[],σ,rfl,ŋ _ _,λ_=>rfl,σ,H,by rw[size_madeCells];simp,?_⟩)
  rw[ě]
  refine dg.of_get λk b=>?_
  rw[List.getElem_replicate]
  have c:k<m:=by simpa using b
  rw[<- s,Nv z.cells m k c]
  exact h _
theorem Sep.made{M:Nat->Prop}{W w:ä}{b F:List Rsc}(h:Sep M W b F w){z:è}{x:a}{e:ì}(c:∀w,own ã w z.cells.toList x [])(H:m<=Ë):
    Sep M W (b++[Wk.A4 [.slice (á ⟨w.heap.size,0,ç⟩) m m] (å m x) [w.heap.size]]) F (w.alloc (.cells (madeCells z.cells (m*sz a)) e)):=
  h.add (Ext.refl.alloc _) (r:=Wk.A4 [.slice (á ⟨w.heap.size,0,ç⟩) m m] (å m x) [w.heap.size]) (Qy c H) q8 q8
theorem dg.zoom{w:ä}:∀ {x:List a}{C:List è}{p:List Nat}{k:Nat},dg ã w C x p->∀hk:k<x.length,
    ∃f i F,p=f++(i++F)/\own ã w ((C.drop (k*sz a)).take (sz a)) x[k] i /\
      ∀e c X d,c.take (k*sz a)=C.take (k*sz a)->c.drop ((k+1)*sz a)=C.drop ((k+1)*sz a)->(∀b∈f,e.heap[b]? = w.heap[b]?)->(∀b∈F,e.heap[b]? = w.heap[b]?) ->
        own ã e ((c.drop (k*sz a)).take (sz a)) X d->dg ã e c (x.set k X) (f++(d++F))
  | [],_,_,k,_,hk=>by simp at hk
  | y::x,C,p,0,⟨f,F,E,h1,h⟩,_=>by
    refine⟨[],f,F,by simpa using E,xg,λe c X d _ H _ hb g=>?_⟩
    refine⟨d,F,σ,by simpa using g,?_⟩
    have:c.drop (sz a)=C.drop (sz a):=by simpa using H
    rw[this]
    exact h.st hb
  | y::x,C,p,k+1,⟨f,F,E,h1,h⟩,hk=>by
    obtain⟨G,r,j,q,m,s⟩:=dg.zoom (k:=k) h oi
    have v:sz a<=(k+1)*sz a:=by rw[b8];omega
    have o:∀l:List è,(l.drop (sz a)).drop (k*sz a)=l.drop ((k+1)*sz a):=λl=>by rw[ė,b8,ľ,ĳ]
    refine⟨f++G,r,j,by rw[E,q];simp,by rw[o] at m;simpa using m,λe c X d t H n u g=>?_⟩
    refine⟨f,G++(d++j),σ,?_,s e (c.drop (sz a)) X d ?_ ?_ (λb hb=>n b mb) u (by rw[o];exact g)⟩
    · have z:c.take (sz a)=C.take (sz a):=by
        have:=congrArg (J? (sz a)) t
        rwa[ń,ń,ļ v] at this
      rw[z]
      exact Rp.st h1 λb hb=>n b mb
    · have:=congrArg (List.drop (sz a)) t
      rw[İ,İ] at this
      rwa[show(k+1)*sz a-sz a=k*sz a from by rw[b8];omega] at this
    · rw[ė,ė]
      rwa[show(k+1+1)*sz a=sz a+(k+1)*sz a from by rw[b8 (k+1)];omega] at H
theorem yK{w:ä}{A n p}{X:List a}{i:List Nat}(h:own ã w [.slice A n p] X i)(k:Nat)(m:k<X.length):
    ∃b o c T f g F,A=á ⟨b,o,ç⟩/\i=b::(f++(g++F))/\w.heap[b]? = á (.cells c T (0,0))/\o+k*sz a+sz a<=c.size /\
      own ã w ((c.toList.drop (o+k*sz a)).take (sz a)) X[k] g /\
      ∀e C x d,e.heap[b]? = á (.cells C T (0,0))->C.size=c.size->(∀j,j<o+k*sz a\/o+(k+1)*sz a<=j->C[j]? = c[j]?)->(∀b∈f,e.heap[b]? = w.heap[b]?)->(∀b∈F,e.heap[b]? = w.heap[b]?) ->
        own ã e ((C.toList.drop (o+k*sz a)).take (sz a)) x d->own ã e [.slice A n p] (X.set k x) (b::(f++(d++F))):=by
  rcases h with ⟨K,_⟩|⟨_,rfl,_⟩|⟨b,o,P,c,T,Q,R,H,s,t,u,v,y,z,B⟩
  · cases K
  · simp at m
  · simp only[Ŗ,Value.slice.injEq,and_true] at H
    obtain⟨H,M,J⟩:=H
    have L:=u rfl
    subst H;subst s;subst M;subst J;subst L
    obtain⟨f,g,F,E,l,r⟩:=B.zoom m
    have V:(k+1)*sz a<=p*sz a:=Å _ ω
    have U:(k+1)*sz a=k*sz a+sz a:=by rw[b8,ľ]
    refine⟨b,o,c,T,f,g,F,rfl,by rw[E],t,ω,by rw[ė] at l;exact l,λe C x d D N q G I O=>?_⟩
    refine .inr (.inr ⟨b,o,p,C,T,(0,0),f++(d++F),σ,rfl,D,λ_=>rfl,by simpa using v,y,by rw[N];exact z,?_⟩)
    refine r e _ x d ?_ ?_ G I (by rw[ė];exact O)
    · apply ĉ
      intro j
      rw[Ð,Ð]
      split
      · rename_i S
        rw[Ñ,Ñ]
        simpa using q (o+j) (.inl ω)
      · rfl
    · apply ĉ
      intro j
      simpa using q (o+(k+1)*sz a+j) (.inr ω)
theorem Cj:∀(l:List è) (c:Array è) (o j:Nat),j<o\/o+l.length<=j->(lay c o l)[j]? = c[j]?
  | [],_,_,_,_=>rfl
  | v::l,c,o,j,h=>by
    simp only[aR] at h
    rw[lay,Cj l _ _ _ ω,Ĉ ω]
theorem Dj(v:List è)(c:Array è)(o:Nat)(h:o+v.length<=c.size):((lay c o v).toList.drop o).take v.length=v:=by
  have H:(c.toList.take o).length=o:=by
    rw[aY]
    have:c.toList.length=c.size:=by simp
    omega
  rw[px _ _ _ h,Î,j?,H,İ]
  simp
theorem Sep.elset{M:Nat->Prop}{W w:ä}{r F:List Rsc}(h:Sep M W r F w)(i:Nat){A n C}{X:List a}{s:List Nat}(g:r[i]? = á (Wk.A4 [.slice A n C] X s))(k:Nat)(J:k<X.length):
    ∃b o c T,A=á ⟨b,o,ç⟩/\w.heap[b]? = á (.cells c T (0,0))/\o+k*sz a+sz a<=c.size /\
      ∀l x,own ã w l x []->∃G,Sep M W (r.set i (Wk.A4 [.slice A n C] (X.set k x) G)) F (Wk.put w b (.cells (lay c (o+k*sz a) l) T (0,0))):=by
  have p:=h.Aj g
  obtain⟨b,o,c,T,f,D,d,y,z,t,L,O,I⟩:=yK (h.A4 i g) k J
  refine⟨b,o,c,T,y,t,L,λl x v=>⟨b::(f++([]++d)),?_⟩⟩
  have m:=Rp.len v
  change s.Nodup at p
  subst z
  obtain⟨N,P⟩:=ù.1 p
  have E:Ext (· = b) w (Wk.put w b (.cells (lay c (o+k*sz a) l) T (0,0))):=Ext.refl.put (.inl rfl)
  have u:=Rp.lt (h.A4 i g)
  have K:(k+1)*sz a=k*sz a+sz a:=by rw[b8,ľ]
  refine h.set g (q:=Wk.A4 [.slice A n C] (X.set k x) (b::(f++([]++d)))) (E.mono λB _ e=>by subst e;simp[Wk.A4]) ?_ ?_ ?_
  · refine I _ _ x [] (kJ t) (rp _ _ _) (λj H=>Cj _ _ _ _ (by rcases H with H|H;exact .inl H;exact .inr (by rw[m,Ŋ,<- K];exact H))) (λB hb'=>E.block B (u B jT) λe=>?_) (λB hb'=>E.block B (u B jT) λe=>?_) ?_
    · subst e;exact N jT
    · subst e;exact N jT
    · rw[<- m,Dj _ _ _ (by rw[m];omega)]
      exact Rp.st v σ
  · change (b::(f++([]++d))).Nodup
    refine p.sublist ?_
    exact List.Sublist.cons_cons _ (ŏ (.refl _) (ŏ (List.nil_sublist _) (.refl _)))
  · intro B hb'
    refine .inl ?_
    change B∈b::(f++([]++d)) at hb'
    change B∈b::(f++(D++d))
    simp only[aM,aI,Ý] at hb' ⊢
    rcases hb' with h|h|h
    · exact .inl h
    · exact .inr (.inl h)
    · exact .inr (.inr (.inr h))
end
end
theorem zk{x:Int}(h:Ak x):Ď.wrap x=x:=by
  obtain⟨H,a⟩:=h
  exact IntWalk.i64_in _ ⟨ω,ω⟩
section
variable {P:Æ}{w r:ä}{M:Nat->Prop}{a F:List Rsc}{d:Nat}
theorem x7{O:Obj}{v:Nat->è}(f:Wn c n L o)(h:o.dst=á d)(e:ò d n=ã)(p:Pn P n L w o (v w.heap.size) (w.alloc O))(H:Sep M r a F w)
    (k:∀b W,Ext No w W->w.heap.size<=b->Sep M r (a++[box b O]) F W->RL P n c Q B ((d,v b)::L) W):RL P n c Q (o::B) L w:=
  ue f h e p (k _ _ (Ext.refl.alloc O) (aN _) (H.alloc O))
theorem ci{t:ì}{v:è}(f:Wn c n L ⟨á d,.box t x,C,p,D,g⟩)(h:(ò d n,evL L x)=(ã,á v))(H:Sep M r a F w)
    (k:∀b W,Ext No w W->w.heap.size<=b->Sep M r (a++[box b (.cells v.cells t)]) F W->RL P n c Q B ((d,.pointer (á ⟨b,0,ç⟩))::L) W) :
    RL P n c Q (⟨á d,.box t x,C,p,D,g⟩::B) L w:=
  have⟨e,i⟩:=pj2 h;x7 f rfl e (N8 i) H k
theorem cz{t:ì}{z:è}(e:Wn c n L ⟨á d,.alloc t,C,p,D,g⟩)(h:ò d n=ã)(f:∀w,(zeroValue t).run P w = .ok z w)(H:Sep M r a F w)
    (k:∀b W,Ext No w W->w.heap.size<=b->Sep M r (a++[box b (.cells z.cells t)]) F W->RL P n c Q B ((d,.pointer (á ⟨b,0,ç⟩))::L) W) :
    RL P n c Q (⟨á d,.alloc t,C,p,D,g⟩::B) L w:=
  x7 e rfl h (IB f) H k
theorem cL{t:ì}{b o:Nat}{s:List è}{T v}(m:Wn c n L ⟨ç,.store t x y,C,p,D,g⟩)(l:∀w,(sizeOf t).run P w = .ok 1 w)(J:(evL L x,evL L y,v.oneCell')=(á (.pointer (á ⟨b,o,ç⟩)),á v,ã))
    (H:Sep M r a F w) (i:Nat) (f:(a[i]?,ò o s.length)=(á (box b (.cells s.toArray T)),ã))
    (k:∀W,Ext (· = b) w W->Sep M r (a.set i (box b (.cells (s.set o v).toArray T))) F W->RL P n c Q B L W) :
    RL P n c Q (⟨ç,.store t x y,C,p,D,g⟩::B) L w:=by
  have⟨q,u,e⟩:=pj3 J;have⟨d,j⟩:=pj2 f;have h:=k _ (Ext.refl.put (.inl rfl)) (H.put i _ d)
  rw[<- Z?] at h
  exact GW m rfl (jM l q u e (H.box i d) (by rw[ĵ];exact ü j)) h
def FO (c:List è) (o:Nat) (v:List è):List è:=c.take o++v++c.drop (o+v.length)
theorem DP{c:List è}{o:Nat}(h:o+l.length<=c.length):lay c.toArray o l=(FO c o l).toArray:=by
  apply e?.1
  rw[px _ _ _ lN]
  simp[FO]
def CS:List è->Bool
  | []=>ã
  | v::l=>v.oneCell' && CS l
theorem qw:∀ {l:List è},CS l=ã->∀v∈l,v.oneCell'=ã
  | [],_,v,hv=>by simp at hv
  | u::l,h,v,hv=>by
    unfold CS at h
    simp at h
    rcases aM.1 hv with rfl|hv
    · exact h.1
    · exact qw h.2 v hv
theorem bw{t:ì}{b o S:Nat}{s:List è}{T}(v:Wn c n L ⟨ç,.store t x y,C,p,D,g⟩)(u:∀w,(sizeOf t).run P w = .ok S w)(J:(evL L x,evL L y,l.length,CS l)=(á (.pointer (á ⟨b,o,ç⟩)),á (.agg l.toArray),S,ã))(H:Sep M r a F w)(i:Nat)(m:(a[i]?,ĭ (o+S) s.length)=(á (box b (.cells s.toArray T)),ã))
    (k:∀W,Ext (· = b) w W->Sep M r (a.set i (box b (.cells (FO s o l).toArray T))) F W->RL P n c Q B L W) :
    RL P n c Q (⟨ç,.store t x y,C,p,D,g⟩::B) L w:=by
  have⟨z,A,e,j⟩:=pj4 J;have⟨d,q⟩:=pj2 m;have f:=ü q
  have h:=k _ (Ext.refl.put (.inl rfl)) (H.put i _ d)
  rw[<- DP (by rw[e];exact f)] at h
  exact GW v rfl (o4 u z A e (qw j) (H.box i d) (by simpa using f)) h
section
variable {A:Type}[Rp A]
theorem mj{t e:ì}{z:è}{s:Nat}{y:A}(l:Wn c n L ⟨á d,.makeSlice t x x,C,p,D,g⟩)(i:ò d n=ã)(j:P.underlying t=á (.slice e))(T:Ty P e z (sz A) s)(q:∀w,own ã w z.cells.toList y [])
    (o:evL L x=á (.int .i64 m)) (f:s*m<=281474976710656) (h:m<=Ë) (H:Sep M r a F w)
    (k:∀b W,Ext No w W->w.heap.size<=b->Sep M r (a++[A4 [.slice (á ⟨b,0,ç⟩) m m] (å m y) [b]]) F W->RL P n c Q B ((d,.slice (á ⟨b,0,ç⟩) m m)::L) W) :
    RL P n c Q (⟨á d,.makeSlice t x x,C,p,D,g⟩::B) L w:=
  ue l rfl i (Le j T o f h) (k _ _ (Ext.refl.alloc _) (aN _) (H.made q h))
theorem fC{t e:ì}{z:è}{b:Nat}{v:è}{X:List A}{h:List Nat}{T}{s:List è}{u:A}(U:Wn c n L ⟨á d,.call ⟨.builtin .append,#[x,y],#[t,t]⟩,C,p,D,g⟩)(O:ò d n=ã)
    (R:P.underlying t=á (.slice e)) (q:Ty P e z (sz A) b) (J:(z.cells.size,evL L x,evL L y)=(sz A,á v,á (.slice (á ⟨G,0,ç⟩) 1 I)))
    (H:Sep M r a F w) (i j:Nat) (o:(a[i]?,a[j]?)=(á (A4 [v] X h),á (box G (.cells s.toArray T)))) (S:own ã w s u []) (m:X.length+1<=Ë) (E:(X.length+1)*b<=140737488355328)
    (a_:∀V W f,Sep M r (a.set i (A4 [V] (X++[u]) f)) F W->RL P n c Q B ((d,V)::L) W) :
    RL P n c Q (⟨á d,.call ⟨.builtin .append,#[x,y],#[t,t]⟩,C,p,D,g⟩::B) L w:=by
  have⟨hz,Y,hy⟩:=pj3 J;have⟨K,N⟩:=pj2 o;obtain⟨V,W,f,k,l⟩:=H.app1 i K R q hz (At.whole (H.box j N)) S m E
  exact ue U rfl O (pU Y hy k) (a_ _ _ _ l)
theorem kC{t e:ì}{z:è}{b:Nat}{v:è}{X:List A}{h:List Nat}{T}{s:List è}{u:A}{k}(hw:Wn c n L ⟨á d,.call ⟨.builtin .append,#[x,y],#[t,t]⟩,C,p,D,g⟩)(S:ò d n=ã)
    (ht:P.underlying t=á (.slice e)) (K:Ty P e z (sz A) b) (E:(z.cells.size,evL L x,evL L y)=(sz A,á v,á (.slice (á ⟨G,0,ç⟩) 1 I)))
    (H:Sep M r a F w) (i j q:Nat) (J:(a[i]?,a[j]?,a[q]?,î q i)=(á (A4 [v] X h),á (box G (.cells s.toArray T)),á (A4 s u k),â)) (o:X.length+1<=Ë) (N:(X.length+1)*b<=140737488355328)
    (a_:∀V W f,Sep M r ((a.set q gone).set i (A4 [V] (X++[u]) f)) F W->RL P n c Q B ((d,V)::L) W) :
    RL P n c Q (⟨á d,.call ⟨.builtin .append,#[x,y],#[t,t]⟩,C,p,D,g⟩::B) L w:=by
  have⟨O,R,U,Y⟩:=pj4 J;have⟨hz,hx,hy⟩:=pj3 E;obtain⟨V,W,f,l,m⟩:=H.app2 i q O ht K hz U Y (At.whole (H.box j R)) o N
  exact ue hw rfl S (pU hx hy l) (a_ _ _ _ m)
theorem w4{t:ì}{b o:Nat}{v:è}{d:Option ô}{l e:Nat}{X:List A}{m:List Nat}{u:A}(O:Wn c n L ⟨ç,.store t x y,C,p,D,g⟩)(s:∀w,(sizeOf t).run P w = .ok (sz A) w)(z:sz A=1)
    (H:Sep M r a F w) (i:Nat) (J:a[i]? = á (A4 [.slice d l e] X m)) (q:Nat) (N:q<X.length) (R:evL L x=á (.pointer (á ⟨b,o+q*sz A,ç⟩))) (G:d=á ⟨b,o,ç⟩) (S:evL L y=á v) (j:own ã w [v] u [])
    (k:∀W f,Ext (· = b) w W->Sep M r (a.set i (A4 [.slice d l e] (X.set q u) f)) F W->RL P n c Q B L W) :
    RL P n c Q (⟨ç,.store t x y,C,p,D,g⟩::B) L w:=by
  obtain⟨U,o',V,T,E,I,Y,K⟩:=H.elset i J q N
  rw[G] at E
  obtain⟨rfl,rfl⟩:=E
  obtain⟨f,h⟩:=K [v] u j
  refine GW O rfl (jM (by rw[z] at s;exact s) R S (Rp.one j v σ) I ω) ?_
  exact k _ f (Ext.refl.put (.inl rfl)) h
end
theorem fD{x:è}(i:Wn c n L o)(a:(o.dst,ò d n)=(á d,ã))(p:Pc P n L w o f J)
    (b:Ret P f J w λv W=>Ext No w W/\v=x) (k:∀W,Ext No w W->RL P n c Q B ((d,x)::L) W):RL P n c Q (o::B) L w:=
  have⟨e,g⟩:=pj2 a;dE i (pm2 e g) p b λ_ W h=>by obtain⟨H,rfl⟩:=h;exact k W H
theorem zr{t e:ì}{z:è}{s B b:Nat}{d:Option Tmp}{f:Array (Nat × Â)}(A:P.underlying t=á (.slice e))(T:Ty P e z s B)(c:0<s)
    (r:l.length=b) (y:∀a,Good n a L->(f.map λ(i,x)=>(i,a.eval x)).toList=(l.zipIdx 0).map λx=>(x.2,x.1)) (k:∀v∈l,v.cells.size=s) (j:0<b) (F:b*s<=2^24) :
    Pn P n L w ⟨d,.buildSlice t b f,C,p,D,g⟩ (.slice (á ⟨w.heap.size,0,ç⟩) b b) (w.alloc (.cells (l.flatMap λv=>v.cells.toList).toArray e)):=λa m=>by
  obtain⟨i,o,q,h,E⟩:=T.parts
  have u:¬ b*i.size=0:=by rw[h];exact Nat.ne_of_gt (Nat.mul_pos j c)
  have H:=run_buildSlice w t e b _ (l.flatMap λv=>v.cells.toList).toArray i z A o q (by rw[h];omega) u (by
    rw[y a m,h]
    exact Great.fill_whole c l _ k (by rw[r];simp))
  simp[À] at H ⊢
  rw[H]
  rfl
theorem zF{v:è}(H:evL L x=á v):∀a,Good n a L->((#[(0,x)]:Array (Nat × Â)).map λ(i,x)=>(i,a.eval x)).toList=(([v]:List è).zipIdx 0).map λx=>(x.2,x.1):=λa h=>by
  simp[h.eval H]
theorem dx{t e:ì}{z v:è}{s f:Nat}(m:Wn c n L ⟨á d,.buildSlice t 1 #[(0,x)],C,p,D,g⟩)(i:ò d n=ã)(l:P.underlying t=á (.slice e))(T:Ty P e z s f)(J:(ò 0 s,evL L x,v.cells.size,ĭ s 16777216)=(ã,á v,s,ã))(H:Sep M r a F w)
    (k:∀b W,Ext No w W->w.heap.size<=b->Sep M r (a++[box b (.cells v.cells.toList.toArray e)]) F W->RL P n c Q B ((d,.slice (á ⟨b,0,ç⟩) 1 1)::L) W) :
    RL P n c Q (⟨á d,.buildSlice t 1 #[(0,x)],C,p,D,g⟩::B) L w:=by
  have⟨j,o,h1,hsmall⟩:=pj4 J;have h:=zr (n:=n) (w:=w) (C:=C) (p:=p) (D:=D) (g:=g) (d:=á d) (b:=1) l T (ü j) rfl (zF o) xg ω KE
  simp at h
  exact x7 m rfl i h H k
theorem Lk{t e:ì}{z:è}{s b:Nat}{d:Option Tmp}(c:P.underlying t=á (.slice e))(h:Ty P e z s b):
    Pn P n L w ⟨d,.buildSlice t 0 #[],C,p,D,g⟩ (.slice (á ⟨w.heap.size,0,ç⟩) 0 0) (w.alloc (.cells #[] e)):=λa f=>by
  obtain⟨i,H,j,k,l⟩:=h.parts
  simp[À,Instr.buildSlice,þ c,sizeOf,Y?,H,newRow,newObj,Array.range_zero']
  rfl
theorem dG{f:Type}[Rp f]{t e:ì}{z:è}{S s:Nat}(l:Wn c n L ⟨á d,.buildSlice t 0 #[],C,p,D,g⟩)(i:ò d n=ã)(j:P.underlying t=á (.slice e))(h:Ty P e z S s)(H:Sep M r a F w)
    (k:∀b W,Ext No w W->w.heap.size<=b->Sep M r (a++[A4 [.slice (á ⟨b,0,ç⟩) 0 0] ([]:List f) [b]]) F W->RL P n c Q B ((d,.slice (á ⟨b,0,ç⟩) 0 0)::L) W) :
    RL P n c Q (⟨á d,.buildSlice t 0 #[],C,p,D,g⟩::B) L w:=
  ue l rfl i (Lk j h) (k _ _ (Ext.refl.alloc _) (aN _) (H.add (Ext.refl.alloc _)
    (.inr (.inr ⟨w.heap.size,0,0,#[],e,(0,0),[],rfl,rfl,ŋ _ _,λ_=>rfl,aN _,ý _,σ,rfl⟩)) (by simp[A4]) (by simp[A4])))
theorem Qu{t:ì}{s:Array (Nat × Â)}{d:Option Tmp}{c:Array è}(b:∀a,Good n a L->P.built t (s.map λ(i,x)=>(i,a.eval x)).toList=á c):
    Py P n L w ⟨d,.build t s,C,p,D,g⟩ (.agg c):=λa H=>by
  have h:=run_build w t _ c (b a H)
  simp[À] at h ⊢
  rw[h]
  rfl
end
theorem Z{b:Sort _}{a:b}:a=a:=rfl
def oQ:List Nat->List (Nat × Bool)
 | []=>[]
 | x::X=>(x / 2,x % 2 == 1)::oQ X
theorem iO{x:Int}(h1 : -9223372036854775808<=x:=by omega)(h2:x<=9223372036854775807:=by omega):Ď.wrap x=x:=zk ⟨h1,h2⟩
/-- A plain operation,carried out: what it leaves,or nothing is known. -/
def evB (L:Env):Op->Option è
 | .move x=>evL L x
 | .assign x=>evL L x
 | .nilCheck x=>match evL L x with
  | some (.pointer (á a))=>á (.pointer (á a))
  | _=>ç
 | .extract x i=>match evL L x with
  | some (.tuple l)=>l[i]?
  | _=>ç
 | .binOp b _ x y _=>match evL L x with
  | some (.int k i)=>match evL L y with
   | some (.int K j)=>match decide (k=K) with
    | true=>match b with
     | .eql=>á (.bool (decide (i=j)))
     | .neq=>á (.bool (decide (i≠j)))
     | .lss=>á (.bool (decide (i<j)))
     | .leq=>á (.bool (decide (i<=j)))
     | .gtr=>á (.bool (decide (j<i)))
     | .geq=>á (.bool (decide (j<=i)))
     | _=>ç
    | false=>ç
   | _=>ç
  | _=>ç
 | _=>ç
theorem J4{P:Æ}{w:ä}{o:Op}{v:è}{d:Option Tmp}(h:evB L o=á v):Py P n L w ⟨d,o,C,p,D,g⟩ v:=by
  unfold evB at h
  repeat' split at h
  all_goals (try(have e:=of_decide_eq_true (by assumption:decide (_=(_:Ť))=ã);subst e))
  all_goals first
    | exact bL h
    | exact cr h
    | (cases h;exact pD η)
    | (exact tc η h)
    | (cases h;exact ji η η)
    | (cases h;exact J9 η η)
    | (cases h;exact AI η η)
    | (cases h;exact OJ η η)
    | (cases h;exact pG η η)
    | (cases h;exact JP η η)
    | cases h
/-- Whether a guard says that it is left out. -/
def evG (o:Array ą) (L:Env) (j:Nat) (b:Bool):Bool:=match ll o j with
 | some t=>match look L t with
  | some (.bool c)=>match b,c with
   | true,â=>ã
   | false,ã=>ã
   | _,_=>â
  | _=>â
 | none=>â
theorem zH{b:Bool}(H:o.guard=á (j,b))(h:evG c L j b=ã):Wo c n L o:=by
  unfold evG at h
  repeat' split at h
  all_goals first
    | (exact wog (b:=â) H η η)
    | (exact wog (b:=ã) H η η)
    | cases h
def evS (n:Nat) (o:Array ą):Nat->List ą->Env->Option (List ą × Env)
 | 0,l,L=>á (l,L)
 | k+1,⟨á d,O,_,_,_,g⟩::l,L=>match ò d n with
  | true=>match g with
   | none=>match evB L O with
    | some v=>evS n o k l ((d,v)::L)
    | none=>ç
   | some (j,b)=>match evG o L j b with
    | true=>evS n o k l ((d,undef)::L)
    | false=>ç
  | false=>ç
 | _+1,_,_=>ç
theorem sR{P:Æ}{w:ä}:∀(k:Nat) {l b:List ą}{L a:Env},evS n c k l L=á (b,a)->RL P n c Q b a w->RL P n c Q l L w
 | 0,_,_,_,_,h,K=>by cases h;exact K
 | k+1,[],_,_,_,h,_=>by cases h
 | k+1,⟨ç,_,_,_,_,_⟩::_,_,_,_,h,_=>by cases h
 | k+1,⟨á d,o,C,p,D,g⟩::l,b,L,a,h,K=>by
  unfold evS at h
  repeat' split at h
  all_goals first
   | (cases h;done)
   | exact bc (wn rfl) (pm2 rfl η) (J4 η) (sR k h K)
   | exact Kj (zH rfl η) rfl η (sR k h K)
def evD (n:Nat) (o:Array ą):Nat->List (Nat × Bool)->Env->Option (List (Nat × Bool) × Env)
 | 0,l,L=>á (l,L)
 | k+1,(i,a)::l,L=>match o.toList[i]? with
  | some ⟨á d,O,_,_,_,g⟩=>match ò d n with
   | true=>match g with
    | none=>match a with
     | true=>match evB L O with
      | some v=>evD n o k l ((d,v)::L)
      | none=>ç
     | false=>ç
    | some (j,b)=>match evG o L j b with
     | true=>evD n o k l ((d,undef)::L)
     | false=>ç
   | false=>ç
  | _=>ç
 | _+1,[],_=>ç
theorem dR{P:Æ}{w:ä}:∀(k:Nat) {l d:List (Nat × Bool)}{L b:Env},evD n c k l L=á (d,b)->DL P n c Q S d b w->DL P n c Q S l L w
 | 0,_,_,_,_,h,K=>by cases h;exact K
 | k+1,[],_,_,_,h,_=>by cases h
 | k+1,(i,a)::l,d,L,b,h,K=>by
  unfold evD at h
  repeat' split at h
  all_goals first
   | (cases h;done)
   | exact eS η (wn rfl) (pm2 rfl η) (λx _=>J4 η) (dR k h K)
   | (cases a;(exact LZ η (zH rfl η) rfl η (dR k h K));(exact eK η (zH rfl η) (pm2 rfl η) (dR k h K)))
section
variable {P:Æ}{w z A:ä}{M N:Nat->Prop}{K F:List Rsc}{d:Nat}{b:Func}{u v:è}{a:List (Nat × Bool)}{i:Nat}{t:Array Â}{q:Array ì}
theorem pcK{f:Ŕ}{fn:Func}{d:Option Tmp}{xs:Array Â}{ats:Array ì}{vs:List è}(hf:P.funcs[f]? = á fn)(hb:(fn.body.isNone,kX L xs.toList)=(â,á vs))(hm:(fn.name == "runtime.NumGoroutine")=false:=by decide):Pc P n L w ⟨d,.call ⟨.value (.func f),xs,ats⟩,C,p,D,g⟩ f vs.toArray:=GN hf (Prod.mk.inj hb).1 hm (Prod.mk.inj hb).2
theorem sC(hf:P.funcs[f]? = á b)(hb:(ò d n,b.body.isNone,kX L t.toList)=(ã,â,á l))(hc:Ret P f l.toArray w R)
  (k:∀v w',R v w'->RL P n c Q B ((d,v)::L) w') (hm:(b.name == "runtime.NumGoroutine")=false:=by decide):RL P n c Q (⟨á d,.call ⟨.value (.func f),t,q⟩,C,p,D,ç⟩::B) L w:=by
 simp only[ú] at hb
 exact dE (wn rfl) (pm2 rfl hb.1) (GN hf hb.2.1 hm hb.2.2) hc k
theorem sE(hf:P.funcs[f]? = á b)(hb:(ò d n,b.body.isNone,kX L t.toList)=(ã,â,á l))(hc:Ret P f l.toArray w λv w'=>Ext No w w'/\v=u)(H:Sep M z K F w)
  (k:∀w',Ext No w w'->Sep M z K F w'->RL P n c Q B ((d,u)::L) w') (hm:(b.name == "runtime.NumGoroutine")=false:=by decide):RL P n c Q (⟨á d,.call ⟨.value (.func f),t,q⟩,C,p,D,ç⟩::B) L w:=
 sC hf hb hc (λ_ w' r=>by obtain⟨e,rfl⟩:=r;exact k w' e (H.to e)) hm
theorem τ1 {p:Prop}(h:p:=by exact λhS _ _ r _=>hS.trans r.1.no):p:=h
theorem dC(hf:P.funcs[f]? = á b)(hb:(c.toList[i]?,ò d n,b.body.isNone,kX L t.toList)=(á ⟨á d,.call ⟨.value (.func f),t,q⟩,C,p,D,ç⟩,ã,â,á l))(hc:Ret P f l.toArray w λv w'=>Ext No w w'/\R v w')
  (k:∀v w',Ext No w w'/\R v w'->DL P n c Q (Ext N A) a ((d,v)::L) w') (hm:(b.name == "runtime.NumGoroutine")=false:=by decide):DL P n c Q (Ext N A) ((i,â)::a) L w:=by
 simp only[ú] at hb
 exact cb hb.1 (wn rfl) (pm2 rfl hb.2.1) (GN hf hb.2.2.1 hm hb.2.2.2) hc τ1 k
theorem sF{s:ì}{F:Array Field}{b o i S O:Nat}{f:Field}(u:P.underlying s=á (.struct F))(h:(ò d n,F[i]?,evL L x,o+f.offset)=(ã,á f,á (.pointer (á ⟨b,o,ç⟩)),O))(H:∀w,(sizeOf f.type).run P w = .ok (S+1) w)
  (k:RL P n c Q B ((d,.pointer (á ⟨b,O,ç⟩))::L) w):RL P n c Q (⟨á d,.fieldAddr s x i,C,p,D,ç⟩::B) L w:=by
 simp only[ú] at h
 exact bc (wn rfl) (pm2 rfl h.1) (bd u h.2.1 H (pm2 h.2.2.1 h.2.2.2)) k
theorem sLd{t a}{b o:Nat}{s:List è}{T f}(u:P.underlying t=á a)(H:w.heap[b]? = á (.cells s.toArray T f))(h:(ò d n,single a,evL L x,s[o]?)=(ã,ã,á (.pointer (á ⟨b,o,ç⟩)),á v))
  (k:RL P n c Q B ((d,v)::L) w):RL P n c Q (⟨á d,.load t x,C,p,D,ç⟩::B) L w:=by
 simp only[ú] at h
 exact bc (wn rfl) (pm2 rfl h.1) (bp u (pm2 h.2.1 h.2.2.1) (bD H h.2.2.2)) k
theorem rN{t:Nat}(a:∀L w,fin P b R .ret L w->Q .ret L w)(H:(b.results,look L t)=(#[.tmp t],á v))(h:R v w):RL P n c (thn P n .ret Q) [] L w:=have⟨r,hv⟩:=pj2 H;aH (rT a (pm2 r hv) h)
theorem rA(a:∀L w,fin P b R .ret L w->Q .ret L w)(r:b.results = #[.tmp d])(H:(ò d n,evL L x)=(ã,á v))(h:R v w):RL P n c (thn P n .ret Q) [⟨á d,.assign x,C,p,D,ç⟩] L w:=by
 simp only[ú] at H
 exact sA (pm2 H.1 H.2) (rN a (pm2 r (by simp[look])) h)
theorem dF(h:(ĭ c.size 1000,ĭ 1000 i,ĭ (i-1000) a.length,(a.take (i-1000)).isEmpty,(a.drop (i-1000)).isEmpty)=(ã,ã,ã,â,â))(H:DL P n c Q S (a.take (i-1000)) L w)(b:DL P n c Q S (a.drop (i-1000)) L w):DL P n c Q S ((i,â)::a) L w:=by
 simp only[ú] at h
 have d:=ü h.2.1
 have e:=ü h.2.2.1
 refine Tw (b:=a.take (i-1000)) (c:=a.drop (i-1000)) h.1 ?_ h.2.2.2.1 h.2.2.2.2 H b
 rw[Ġ,aY,ļ e,Nat.add_sub_cancel' d]
end
def gv (e w:Bool) (v:è):è:=if e=w then v else undef
section
variable {P:Æ}{w:ä}
theorem wgE{j t b e}(H:(o.guard,ll c j,look L t)=(á (j,b),á t,á (.bool e)))(f:e=b):Wn c n L o:=by
  have⟨h,d,a⟩:=pj3 H;subst f;exact wg (pm3 h d a)
theorem ko{c:Â}{e b:Bool}{d:Option Tmp}(h:evL L c=á (.bool e))(H:evL L y=á (gv e â (.bool b))):
    Py P n L w ⟨d,.pick c (.const (.bool ã)) y,C,p,D,g⟩ (.bool (e || b)):=by
  cases e
  · exact fL h H
  · exact dJ h rfl
theorem cX{c:Â}{e b:Bool}{d:Option Tmp}(H:(evL L c,evL L y)=(á (.bool e),á (gv e ã (.bool b)))):
    Py P n L w ⟨d,.pick c y (.const (.bool â)),C,p,D,g⟩ (.bool (e && b)):=by
  have⟨h,a⟩:=pj2 H;cases e
  · exact fL h rfl
  · exact dJ h a
def fresh (d:Nat):Env->Bool
  | []=>ã
  | p::L => !(î p.1 d) && fresh d L
theorem CE{d:Nat}:∀ {L:Env},fresh d L=ã->look L d=ç
  | [],_=>rfl
  | (u,x)::L,h=>by
    unfold fresh at h
    simp at h
    unfold look
    cases H:î u d with
    | true=>rw[H] at h;simp at h
    | false=>exact CE h.2
theorem PO{j t b}(h:o.guard=á (j,b))(d:ll c j=á t)(u:look L t=á undef):Wo c n L o:=λa g=>by
  have H:=g.cov t _ u
  have e:(c[j]?).bind (·.dst)=á t:=by simpa[ll] using d
  have y:U_ c a.tmps j=none:=by
    simp only[U_,e,Option.bind_some]
    simp at H
    cases f:a.tmps[t]? with
    | none=>rfl
    | some v=>rw[f] at H;simp at H;subst H;rfl
  simp[ĝ,h,y]
theorem Uw{j t b e}(h:o.guard=á (j,b))(d:ll c j=á t)(H:look L t=á (.bool e))(f:e≠b):Wo c n L o:=λa g=>by
  simp[ĝ,h,AN g d H,f]
def skG (O:Array ą) (n:Nat) (L:Env) (j:Nat) (w:Bool):List Nat->List ą->Bool
  | _,[]=>ã
  | D,o::l=>(match o.guard with
      | some (J,b)=>(î J j && (b == w)) || (match ll O J with|some t=>D.contains t|none=>â)
      | none=>â) && (match o.dst with
      | some d=>fresh d L && ò d n && skG O n L j w (d::D) l
      | none=>skG O n L j w D l)
def keeps (l L:Env):Prop:=∀t v,look L t=á v->look l t=á v
theorem k0:keeps L L:=λ_ _ h=>h
theorem kx{l:Env}{d v}(f:fresh d L=ã)(h:keeps l L):keeps ((d,v)::l) L:=λt u H=>by
  unfold look
  cases b:î d t with
  | true=>
    have:=Á b
    subst this
    rw[CE f] at H;cases H
  | false=>exact h t u H
theorem Dd{T t:Nat}{e:Bool}(p:ll c j=á T)(v:e≠E)(m:look L T=á (.bool e))(k:∀a,look a t=á undef->keeps a L->RL P n c Q B a w):
    ∀(l:List ą) (D:List Nat) (a:Env),skG c n L j E D l=ã->(∀d∈D,look a d=á undef)->keeps a L->(t∈D\/(l.any λo=>match o.dst with|some d=>î d t|none=>â)=ã)->RL P n c Q (l++B) a w
  | [],D,a,_,g,s,h=>k a (g t (h.resolve_right σ)) s
  | o::l,D,a,H,g,s,h=>by
    unfold skG at H
    simp at H
    obtain⟨i,H⟩:=H
    have z:Wo c n a o:=by
      cases u:o.guard with
      | none=>rw[u] at i;cases i
      | some q=>
        obtain⟨J,b⟩:=q
        rw[u] at i
        simp only[bJ,aP] at i
        rcases i with ⟨h1,A⟩|h1
        · have:=Á h1
          subst this
          have F:b=E:=by simpa using A
          subst F
          exact Uw u p (s _ _ m) v
        · cases r:ll c J with
          | none=>rw[r] at h1;cases h1
          | some t=>rw[r] at h1;exact PO u r (g t xg)
    cases f:o.dst with
    | none=>
      rw[f] at H
      refine R7 z f (Dd p v m k l D a H g s ?_)
      simpa[f] using h
    | some d=>
      rw[f] at H
      simp only[aP] at H
      refine Kj z f H.1.2 (Dd p v m k l (d::D) _ H.2 (λx y=>?_) (kx H.1.1 s) ?_)
      · unfold look
        cases C:î d x with
        | true=>rfl
        | false=>
          rcases aM.1 y with rfl|y
          · simp at C
          · exact g x y
      · rcases h with h|h
        · exact .inl (by simp[h])
        · simp only[List.any_cons,f,bJ] at h
          rcases h with h|h
          · exact .inl (by rw[Á h];simp)
          · exact .inr h
theorem tP{t:Nat}{v:è}{M:Env}(s:keeps M L)(a:look M t=á v):keeps M ((t,v)::L):=λu x h=>by
  unfold look at h
  cases H:î t u with
  | true=>
    have:=Á H
    subst this
    rw[H] at h;cases h;exact a
  | false=>rw[H] at h;exact s u x h
theorem cU{l:List ą}(m:Nat){T t:Nat}{e:Bool}{v:è}(J:(ll c j,look L T,skG c n L j E [] (l.take m),((l.take m).any λo=>match o.dst with|some d=>î d t|none=>â))=(á T,á (.bool e),ã,ã))
    (p:e=E->(∀b W,keeps b L->look b t=á v->Ext No w W->RL P n c Q (l.drop m) b W)->RL P n c Q l L w)
    (k:∀W,Ext No w W->RL P n c Q (l.drop m) ((t,gv e E v)::L) W):RL P n c Q l L w:=by
  have⟨z,r,y,D⟩:=pj4 J;by_cases H:e=E
  · refine p H λb W s f q a h=>k W q a ⟨h.size,h.defers,λu x g=>h.cov u x (tP s f u x ?_)⟩
    rwa[gv,ae H] at g
  · have i:=k w Ext.refl
    rw[gv,ac H] at i
    have:=Dd z H r (λb f s a h=>i a ⟨h.size,h.defers,λu x g=>h.cov u x (tP s f u x g)⟩) _ [] L y σ k0 (.inr D)
    rwa[Ġ] at this
end
theorem all_cons{b:Type}{p:b->Prop}{a:b}{l:List b}(h:p a)(k:∀x∈l,p x):∀x∈a::l,p x:=λx H=>by
  rcases aM.1 H with rfl|H
  · exact h
  · exact k x H
theorem ol:∀w,own ã w (é .u8 0).cells.toList (0:UInt8) []:=λ_=>⟨rfl,rfl⟩
theorem Tm:∀w,own ã w (Value.bool â).cells.toList â []:=λ_=>⟨rfl,rfl⟩
theorem GL{a:Type}[Rp a]:∀w,own ã w (Value.slice ç 0 0).cells.toList ([]:List a) []:=λ_ => .inr (.inl ⟨rfl,rfl,rfl⟩)
theorem iB{w:ä}{x:UInt8}:own ã w [.int .u8 x.toNat] x []:=⟨rfl,rfl⟩
theorem mh{w:ä}{x:Int}(h:Ak x):own ã w [.int .i64 x] x []:=⟨rfl,rfl,h⟩
def ins (v l h:Int):Bool:=decide (l<=v) && decide (v<=h)
theorem bH{v l h:Int}:ins v l h=ã↔l<=v/\v<=h:=by simp[ins]
theorem T7{v l h:Int}:ins v l h=â↔¬ (l<=v/\v<=h):=by rw[<- bH];simp
structure A0 where
  A2:Int
  A5:Int
  Data:Int
  Af:Int
  Rows:Int
  Cap:Int
  An:Int
  Ao:Int
  Ap:Int
def A0.v (s:A0):è := .agg #[.int .i64 s.A2,.int .i64 s.A5,.int .i64 s.Data,.int .i64 s.Af,.int .i64 s.Rows,.int .i64 s.Cap,.int .i64 s.An,.int .i64 s.Ao,.int .i64 s.Ap]
def cOK (g c:Int):Bool:=ins g 1 4 && ins c 0 2
def rOK (d s:Int):Bool:=ins d 1 3 && ins s 0 2
def A0.ok (s:A0):Bool:=cOK s.A2 s.A5 && rOK s.Data s.Af && ins s.Rows 1 6 && ins s.Cap 1 6 && ins s.An 1 4 && ins s.Ao 1 6 && ins s.Ap 0 400
def A0.fault (s:A0):Int:=if s.ok then 0 else 3
theorem A0.no{s:A0}(h:(!s.ok)=ã):é .i64 3 = .int .i64 s.fault:=by
  unfold A0.fault;cases H:s.ok<;>simp_all
theorem A0.yes{s:A0}(h:(!s.ok)=â):é .i64 0 = .int .i64 s.fault:=by
  unfold A0.fault;cases H:s.ok<;>simp_all
theorem fX{b:Bool}(h:(!b)=ã):b=false:=by cases b<;>simp_all
theorem not_false{b:Bool}(h:(!b)=â):b=true:=by cases b<;>simp_all
def Hz (i:Nat) (c:UInt8):Bool:=(decide (97<=(c.toNat:Int)) && decide ((c.toNat:Int)<=122)) || (!(decide (i=0)) && (decide (48<=(c.toNat:Int)) && decide ((c.toNat:Int)<=57)))
def Ji (b:ByteArray):Nat->Bool
  | 0=>ã
  | k+1=>Ji b k && Hz k (gB b k)
theorem Is{b:ByteArray}:∀ {n:Nat},Ji b n=ã->∀k,k<n->Hz k (gB b k)=ã
  | 0,_,k,H=>by omega
  | n+1,h,k,H=>by
    unfold Ji at h
    simp at h
    by_cases e:k=n
    · subst e;exact h.2
    · exact Is h.1 k ω
def ow (b:ByteArray):Bool:=decide (1<=b.size) && decide (b.size<=8) && Ji b b.size
def bU (b:ByteArray):Int:=if ow b then 0 else 5
theorem Ck{b:ByteArray}(h:ow b=â):é .i64 5 = .int .i64 (bU b):=by simp[bU,h]
theorem Ht{b:ByteArray}(h:ow b=ã):é .i64 0 = .int .i64 (bU b):=by simp[bU,h]
theorem xv{b:ByteArray}(k:Nat)(a:k<b.size)(h:Hz k (gB b k)=â):ow b=false:=by
  cases H:ow b with
  | false=>rfl
  | true=>
    unfold ow at H
    simp at H
    rw[Is H.2 k a] at h
    cases h
def pN (b:ByteArray):Nat->Int
  | 0=>0
  | k+1=>pN b k+((gB b k).toNat:Int)
theorem rF{b:ByteArray}:∀k,0<=pN b k/\pN b k<=255*k
  | 0=>by simp[pN]
  | k+1=>by
    have:=rF (b:=b) k
    have:=(gB b k).toNat_lt
    unfold pN
    omega
def dy (s:A0) (b:ByteArray):Int:=(pN b b.size).tmod s.A2
theorem jE{b:ByteArray}(h:bU b=0):1<=b.size/\b.size<=8:=by
  unfold bU at h
  split at h
  · rename_i H
    unfold ow at H
    simp at H
    omega
  · omega
theorem gS{s:A0}(h:s.fault=0):s.ok=true:=by
  unfold A0.fault at h
  split at h
  · assumption
  · omega
structure Ticket where
  Id:Int
  Kind:Int
  Name:ByteArray
  Group:Int
def Ticket.v (t:Ticket):è := .agg #[.int .i64 t.Id,.int .i64 t.Kind,.string t.Name,.int .i64 t.Group]
theorem bm{s:A0}(h:s.ok=ã):1<=s.A2/\s.A2<=4/\0<=s.A5/\s.A5<=2/\1<=s.Data/\s.Data<=3/\0<=s.Af/\s.Af<=2/\1<=s.Rows/\s.Rows<=6/\1<=s.Cap/\s.Cap<=6/\1<=s.An/\s.An<=4/\1<=s.Ao/\s.Ao<=6/\0<=s.Ap/\s.Ap<=400:=by
  unfold A0.ok cOK rOK at h
  simp only[aP,bH] at h
  omega
theorem Ch{a b:ByteArray}:a.toList=b.toList↔a=b:=by
  rw[ByteArray.toList_eq,ByteArray.toList_eq]
  exact⟨λh=>WideShapes.bytes_inj h,λh=>by rw[h]⟩
theorem Hb{a b:ByteArray}:(a.toList == b.toList)=decide (a=b):=by
  rw[Bool.eq_iff_iff]
  simp[Ch]
end Go.Wk
namespace Go.Wk
open Rp (sz own)
open Go.ChangeShapes Go.WideShapes Go.ChangeAt Go.RowKit
theorem Jn{c:List è}{v:è}(n:Nat)(h:v∈c):v∈c.take n\/v∈c.drop n:=by
  rw[<- Ġ n c] at h
  exact aI.1 h
instance {α β:Type}[Rp α] [Rp β]:Rp (α × β) where
  sz:=sz α+sz β
  pos:=by have:=Rp.pos (α:=α);omega
  own s w cs x fp:=∃f1 f2,fp=f1++f2/\own s w (cs.take (sz α)) x.1 f1/\own s w (cs.drop (sz α)) x.2 f2
  len h:=by
    obtain⟨f1,f2,_,h1,h2⟩:=h
    have a:=Rp.len h1
    have b:=Rp.len h2
    have:=Rp.pos (α:=α)
    have:=Rp.pos (α:=β)
    simp only[aY,bZ] at a b
    omega
  one h v hv:=by
    obtain⟨f1,f2,_,h1,h2⟩:=h
    rcases Jn (sz α) hv with hv|hv
    · exact Rp.one h1 v hv
    · exact Rp.one h2 v hv
  st h hb:=by
    obtain⟨f1,f2,rfl,h1,h2⟩:=h
    exact⟨f1,f2,rfl,Rp.st h1 λb hb'=>hb b jT,Rp.st h2 λb hb'=>hb b jT⟩
  lt h b hb:=by
    obtain⟨f1,f2,rfl,h1,h2⟩:=h
    rcases aI.1 hb with hb|hb
    · exact Rp.lt h1 b hb
    · exact Rp.lt h2 b hb
  weak h:=by
    obtain⟨f1,f2,rfl,h1,h2⟩:=h
    exact⟨f1,f2,rfl,Rp.weak h1,Rp.weak h2⟩
abbrev Rp.via {b a:Type}[Rp a] (f:b->a):Rp b where
  sz:=sz a
  pos:=Rp.pos (α:=a)
  own s w cs x fp:=own s w cs (f x) fp
  len h:=Rp.len h
  one h:=Rp.one h
  st h:=Rp.st h
  lt h:=Rp.lt h
  weak h:=Rp.weak h
def Opens (P:Æ) (t:ì) (b:Type) [Rp b]:Prop:=
  ∀(H:Type) (e:ì × è->H) (w:ä) (F:Nat) (c:List è) (x:DataW H × List MemPlace),
    DataW.trod e P w 0 (λ_=>ã) ã F t c=á x->∃(a:b) (f:List Nat),own â w c a f
section
variable {P:Æ}{t e:ì}
theorem QK(a:P.underlying t=á (.int .u8)):Opens P t UInt8:=λH e w f c x h=>by
  obtain⟨n,rfl,_,b⟩:=DataW.trod_int a h
  simp[Lit.wf,IntKind.min,IntKind.max,ķ,Ŝ] at b
  refine⟨Ì n.toNat,[],?_,rfl⟩
  have:n=((Ì n.toNat).toNat:Int):=by simp;omega
  rw[<- this]
theorem IS(b o n:Nat):Addr.add ⟨b,o,ç⟩ n=⟨b,o+n,ç⟩:=by
  unfold Addr.add
  split
  · rename_i h;subst h;rfl
  · rfl
theorem KQ{w:ä}{a:ô}{n:Nat}{c:List è}(d:0<n)(h:w.cells? 0 a n=á c):a.spot=none:=by
  obtain⟨_,l,b⟩:=World.cells?_some h
  have:=b 0 d
  cases H:c[0]? with
  | none=>rw[List.getElem?_eq_none_iff] at H;omega
  | some v=>
    rw[H] at this
    have e:(a.add 0)=a:=by simp[Addr.add]
    exact World.cell?_spot this
theorem EA{w:ä}{b o n:Nat}{c:List è}(k:0<n)(h:w.cells? 0 ⟨b,o,ç⟩ n=á c):
    ∃C T f,w.heap[b]? = á (.cells C T f)/\o+n<=C.size/\(C.toList.drop o).take n=c:=by
  obtain⟨_,m,g⟩:=World.cells?_some h
  simp only[IS] at g
  have l:∀i,i<n->∃v,c[i]? = á v/\w.cell? ⟨b,o+i,ç⟩=á v:=λi H=>by
    have j:i<c.length:=by omega
    exact⟨c[i],σ,by have:=g i H;rw[Ã j] at this;exact this⟩
  obtain⟨V,_,a⟩:=l 0 k
  unfold World.cell? at a
  split at a
  case h_2=>cases a
  case h_1 C T f e=>
    have t:∀i,i<n->C[o+i]? = c[i]? := λi H=>by
      obtain⟨v,hv,d⟩:=l i H
      unfold World.cell? at d
      simp only[e] at d
      rw[hv]
      simpa using d
    refine⟨C,T,f,e,?_,?_⟩
    · have:=t (n-1) ω
      rw[Ã ω] at this
      have:=(ø.1 this).1
      omega
    · apply ĉ
      intro i
      rw[Ð]
      split
      · rename_i H
        rw[Ñ,Array.getElem?_toList]
        exact t i H
      · rw[Í ω]
theorem LE{b:Type}[Rp b]{w:ä}:∀(n:Nat) (c:List è),(∀k,k<n->∃(a:b) (f:List Nat),own â w ((c.drop (k*sz b)).take (sz b)) a f) ->
    ∃(x:List b) (f:List Nat),x.length=n/\dg â w c x f
  | 0,_,_=>⟨[],[],rfl,rfl⟩
  | n+1,c,h=>by
    obtain⟨a,F,h1⟩:=h 0 ω
    obtain⟨x,d,l,H⟩:=LE n _ λk e=>by
      obtain⟨a,f,h⟩:=h (k+1) ω
      refine⟨a,f,?_⟩
      rw[ė]
      rwa[show sz b+k*sz b=(k+1)*sz b from by rw[b8];omega]
    exact⟨a::x,F++d,by simp[l],F,d,rfl,xg,H⟩
theorem KI{d:Type}[Rp d](S:P.underlying t=á (.slice e))(W:P.cellsOf e=sz d)(Q:Opens P e d):Opens P t (List d):=λH E w c_ cs g_ h=>by
  rcases DataW.trod_slice S h with ⟨rfl,_⟩|⟨a,l,C,G,X,n,_,rfl,rfl,hb,hl,O,d_,j,B,e_⟩
  · exact⟨[],[],.inr (.inl ⟨rfl,rfl,rfl⟩)⟩
  rcases Nat.eq_zero_or_pos l with m|m
  · subst m
    exact⟨[],[],.inl ⟨rfl,_,_,rfl,rfl,rfl⟩⟩
  rw[W] at j B
  have s:=Rp.pos (α:=d)
  obtain⟨f_,z⟩:=B rfl
  have R:a.spot=none:=by
    have f:=j 0 m
    rw[Ã ω,Option.bind_eq_some_iff] at f
    obtain⟨c,f,_⟩:=f
    rw[show(a.add _)=a from by simp[Addr.add]] at f
    exact KQ s f
  obtain⟨b,o,sp⟩:=a
  subst R
  simp only[IS] at j z
  have A:∀i,i<C->∃(c:List è) (y:DataW H × List MemPlace),w.cells? 0 ⟨b,o+i*sz d,ç⟩ (sz d)=á c/\DataW.trod E P w 0 (λ_=>ã) ã n e c=á y:=λi x=>by
    have:∃y,(w.cells? 0 ⟨b,o+i*sz d,ç⟩ (sz d)).bind (DataW.trod E P w 0 (λ_=>ã) ã n e)=á y:=by
      by_cases N:i<l
      · exact⟨G[i]'(by omega),(j i N).trans (Ã _)⟩
      · have:=z (i-l) ω
        rw[show l+_=i from by omega] at this
        exact⟨X[i-l]'(by omega),this.trans (Ã _)⟩
    obtain⟨y,D⟩:=this
    rw[Option.bind_eq_some_iff] at D
    obtain⟨c,f,g⟩:=D
    exact⟨c,y,f,g⟩
  obtain⟨c0,_,M,_⟩:=A 0 ω
  obtain⟨r,T,J,u,_,_⟩:=EA s M
  have q:∀i,i<C->∃(c:List è) (y:DataW H × List MemPlace),o+i*sz d+sz d<=r.size/\(r.toList.drop _).take (sz d)=c/\DataW.trod E P w 0 (λ_=>ã) ã n e c=á y:=λi x=>by
    obtain⟨c,y,f,g⟩:=A i x
    obtain⟨a_,T',b_,v,p,K⟩:=EA s f
    rw[u] at v
    obtain⟨rfl,_⟩:=v
    exact⟨c,y,p,K,g⟩
  obtain⟨Y,F,U,V⟩:=LE l _ λk hk=>by
    obtain⟨c,y,_,g,p⟩:=q k ω
    obtain⟨a,I,L⟩:=Q H E w n c y p
    refine⟨a,I,?_⟩
    rw[ė,g]
    exact L
  refine⟨Y,b::F,.inr (.inr ⟨b,o,C,r,T,J,F,by rw[U],rfl,u,(λh=>by cases h),ω,O,?_,V⟩)⟩
  obtain⟨_,_,f,_⟩:=q (C-1) ω
  have:C*sz d=(C-1)*sz d+sz d:=by
    rw[<- Ō,Nat.succ_eq_add_one,Nat.sub_add_cancel ω]
  omega
theorem Oi{b:Type}[Rp b](o:Opens P t b){H:Type}{e:ì × è->H}{w:ä}{v:è}{d:DataW H}{p:List MemPlace}
    (h:DataW.Trod e P w 0 (λ_=>ã) ã t v d p):∃(a:b) (f:List Nat),own â w v.cells.toList a f:=by
  obtain⟨F,c⟩:=h
  exact o H e w F _ _ c
end
theorem Ext.below{w W:ä}(h:Ext No w W):Below w.heap.size w W:=⟨h.os,h.tape,h.output,h.size,λk H=>h.block k H (λh=>h)⟩
instance:Rp A0:=Rp.via λx=>(x.A2,x.A5,x.Data,x.Af,x.Rows,x.Cap,x.An,x.Ao,x.Ap)
theorem dw{g i:Type}[Rp g][Rp i]{s w d}{a:g}{b:i}{p}(h:own s w d (a,b) p):∃c C f F,d=c++C/\p=f++F/\own s w c a f/\own s w C b F:=by
  obtain⟨f,F,e,H,j⟩:=h
  exact⟨_,_,f,F,(Ġ _ _).symm,e,H,j⟩
def A0.Ok (x:A0):Prop:=Ak x.A2/\Ak x.A5/\Ak x.Data/\Ak x.Af/\Ak x.Rows/\Ak x.Cap/\Ak x.An/\Ak x.Ao/\Ak x.Ap
end Go.Wk
namespace Go.Wk
open Rp (sz own)
variable {g:Option (Nat × Bool)}{I:Array Edge}{x y lo V:Â}{n k C m b c2 b2 j C6 C7 C8 C1:Nat}{E e yt:ì}{D T:List UInt8}{M:Nat->Prop}{fp f6 f7 f8 X fy:List Nat}{L:Env}{a c:UInt8}{Y k1:Ť}{z u:è}{A:Array ą}{F N:List Rsc}{O w':ä}{a_:Array ì}{H:List è}{J:List (Nat × Bool)}{Q:Post}{A6 A7 A8 A1:Option ô}{S:ä->Prop}{U:Option Nat}{l:Int}{B:Env->ä->Prop}{o:ą}{q:Rsc}
def Ag {a:Type}[Rp a] (w:ä) (c:List è) (x:a):Prop:=∃f,own â w c x f
theorem aJ{a:Type}[Rp a]{s w c}{x:a}{f}(h:own s w c x f):own â w c x f:=by
  cases s
  · exact h
  · exact Rp.weak h
section
variable {w:ä}{G:List Rsc}{d:Type}[Rp d]
theorem Sep.Ae(h:Sep M O N F w)(i:Nat){s c f}{x:d}(H:F[i]? = á (Wk.Ab s c x f)):Ag w c x:=⟨f,aJ (h.Ab i H)⟩
theorem Sep.As(h:Sep M O N F w)(i:Nat){c f}{x:d}(H:N[i]? = á (Wk.A4 c x f)):Ag w c x:=⟨f,Rp.weak (h.A4 i H)⟩
theorem Sep.look{r:Rsc}(h:Sep M O N F w)(a:r.φ w)(d:∀b∈r.fp,b ∉ blocks N):Sep M O N (F++[r]) w:=
  ⟨h.ext,h.rs,h.nd,h.new,λp H=>by
    rcases aI.1 H with H|H
    · exact h.fs p H
    · simp at H;subst H;exact a,λp H=>by
    rcases aI.1 H with H|H
    · exact h.ap p H
    · simp at H;subst H;exact d⟩
theorem Sep.look1{a:Type}[Rp a](h:Sep M O N F w)(i:Nat){s C p}{x:d}(e:F[i]? = á (Wk.Ab s C x p)){S c f}{y:a}(o:own S w c y f)(g:∀b∈f,b∈p):
    Sep M O N (F++[Wk.Ab S c y f]) w:=
  h.look o λb H=>h.ap _ (æ e) b (g b H)
theorem Sep.fsub(h:Sep M O N (F++G) w):Sep M O N F w:=
  ⟨h.ext,h.rs,h.nd,h.new,λp H=>h.fs p (by simp[H]),λp H=>h.ap p (by simp[H])⟩
theorem Sep.Aq(h:Sep M O N F w)(n:Nat):Sep M O N (F.take n) w:=
  Sep.fsub G9
theorem Sep.dtake(h:Sep M O N F w)(n:Nat):Sep M O (N.take n) F w:=h.sub (List.take_sublist _ _)
theorem Sep.Ba(h:Sep M O N F w)(i:Nat){C f}{x:d}(a:N[i]? = á (Wk.A4 C x f)):Sep M O (N.set i gone) (F++[Wk.Ab ã C x f]) w:=by
  have m:=kr a h.nd
  have g:Sep M O (N.set i gone) F w:=by
    refine⟨h.ext,λp c=>?_,nc a h.nd df df,λb H=>?_,h.fs,λp c b H e=>?_⟩
    · rcases kN a h.nd p c with rfl|⟨c,_⟩
      · trivial
      · exact h.rs p c
    · rcases fR a b H with H|H
      · simp[gone] at H
      · exact h.new b H
    · rcases fR a b e with e|e
      · simp[gone] at e
      · exact h.ap p c b H e
  exact g.look (h.A4 i a) m
end
theorem fA{e:Type}[Rp e]{s w A n C}{x:List (List e)}{F}(h:own s w [.slice A n C] x F)(k:Nat)(d:k<x.length):
    ∃b o a c f,A=á ⟨b,o,ç⟩/\w.cell? ⟨b,o+k*1,ç⟩=á (.slice a (x.getD k []).length c)/\own s w [.slice a (x.getD k []).length c] (x.getD k []) f/\∀b∈f,b∈F:=by
  obtain⟨b,o,l,f,g,i,H,j,_⟩:=gh h k d
  rw[show x.getD k []=x[k] from by simp[d]]
  obtain⟨a,c,rfl⟩:=aL H
  exact⟨b,o,a,c,f,g,i 0 _ rfl,H,j⟩
theorem gM{s w a n c}{x:List Int}{F}(h:own s w [.slice a n c] x F)(k:Nat)(H:k<x.length):Ak (x.getD k 0):=by
  obtain⟨b,o,C,f,_,_,d,_⟩:=gh h k H
  rw[show x.getD k 0=x[k] from by simp[H]]
  exact(gj d).2.2
theorem Qi{a:Type}[Rp a]{w A n c}{x:List a}(h:Ag w [.slice A n c] x):x.length<=Ë:=by
  obtain⟨f,h⟩:=h
  exact kw h
theorem Sep.elset2{c:Type}[Rp c]{w:ä}(h:Sep M O N F w)(i j:Nat){A n v}{u:List c}(g:N[i]? = á (Wk.A4 [.slice A n v] u fp))
{x:c}{f:List Nat}(a:N[j]? = á (Wk.A4 H x f)) (z:î j i=â) (k:Nat) (V:k<u.length) :
    ∃b o C T S,A=á ⟨b,o,ç⟩/\w.heap[b]? = á (.cells C T (0,0))/\o+k*sz c+sz c<=C.size /\
      Sep M O ((N.set j gone).set i (Wk.A4 [.slice A n v] (u.set k x) S)) F (Wk.put w b (.cells (lay C (o+k*sz c) H) T (0,0))):=by
  have a_:=h.Aj g
  have t:=h.A4 j a
  have d:=h.apart g a z
  have b_:=h.Aj a
  obtain⟨b,o,C,T,X,fk,R,P,Q,y,d_,hx,U⟩:=yK (h.A4 i g) k V
  refine⟨b,o,C,T,b::(X++(f++R)),P,y,d_,?_⟩
  have s:=Rp.len t
  have Y:=Rp.lt t
  change ∀b∈f,b ∉ fp at d
  subst Q
  obtain⟨l,I⟩:=ù.1 a_
  have E:Ext (· = b) w (Wk.put w b (.cells (lay C (o+k*sz c) H) T (0,0))):=Ext.refl.put (.inl rfl)
  have D:=Rp.lt (h.A4 i g)
  have W:(k+1)*sz c=k*sz c+sz c:=by rw[b8,ľ]
  refine h.set2 g a z (E.mono λB _ e=>by subst e;simp[Wk.A4]) ?_ ?_ ?_
  · refine U _ _ x f (kJ y) (rp _ _ _) (λj a=>Cj _ _ _ _ (by rcases a with a|a;exact .inl a;exact .inr (by rw[s,Ŋ,<- W];exact a))) (λB hb'=>E.block B (D B jT) λe=>?_) (λB hb'=>E.block B (D B jT) λe=>?_) ?_
    · subst e;exact l jT
    · subst e;exact l jT
    · have c_:=Rp.st t λB hb'=>E.block B (Y B hb') λe=>by subst e;exact d B hb' σ
      have G:=Dj H C _ (by rw[s];omega)
      rw[s] at G
      rw[G]
      exact c_
  · rw[ë,ë] at I
    obtain⟨J,⟨d2,K,d4⟩,L⟩:=I
    refine ù.2 ⟨λm=>?_,ë.2 ⟨J,ë.2 ⟨b_,K,λp r q hq e=>?_⟩,λp r q hq e=>?_⟩⟩
    · simp at m l
      rcases m with m|m|m
      · exact l.1 m
      · exact d b m σ
      · exact l.2.2 m
    · subst e;exact d p r rd
    · subst e
      rcases aI.1 hq with hq|hq
      · exact d p hq (by simp[r])
      · exact L p r p rd rfl
  · intro B hb'
    change B∈b::_ at hb'
    change B∈b::_\/B∈f\/_
    simp at hb' ⊢
    rcases hb' with h|h|h|h
    · exact .inl (.inl h)
    · exact .inl (.inr (.inl h))
    · exact .inr (.inl h)
    · exact .inl (.inr (.inr (.inr h)))
theorem js{a:Type}{d:a}{x y:List a}(l:x.length=y.length)(h:∀k,k<x.length->x.getD k d=y.getD k d):x=y:=by
  apply List.ext_getElem l
  intro k H b
  have:=h k H
  simpa[H,b] using this
theorem mE{a:Type}{d:a}{x:List a}(h:k<x.length):x.take (k+1)=x.take k++[x.getD k d]:=by
  simp[h]
theorem gq{c:Type}[Rp c]{s w a n C}{x:List c}{f}(h:own s w [.slice a n C] x f)(k:Nat)(d:k<x.length):∃b o,a=á ⟨b,o,ç⟩:=by
  obtain⟨b,o,_,_,H,_⟩:=gh h k d
  exact⟨b,o,H⟩
def my (f:Nat->Nat):Nat->Nat
  | 0=>0
  | k+1=>my f k+f k
theorem LH{f:Nat->Nat}:∀ {k:Nat},j<=k->my f j<=my f k
  | 0,h=>by
    have:j=0:=by omega
    subst this;exact aN _
  | k+1,h=>by
    rcases Nat.lt_or_ge k j with H|H
    · have:j=k+1:=by omega
      subst this;exact aN _
    · have:=LH (f:=f) H
      show _<=my f k+f k
      omega
theorem yj{a:Type}{d x:a}{X:List a}(h:k<X.length)(e:X.getD k d=x):x∈X:=by
  subst e
  simp[h]
theorem yd{a:Type}{d x:a}{X:List a}(h:∀k,k<X.length->X.getD k d≠x):¬ x∈X:=λm=>by
  obtain⟨k,H,e⟩:=List.getElem_of_mem m
  exact h k H (by simp[H,e])
def idxOf (X:List Int) (x:Int):Int:=if x∈X then(X.idxOf x:Nat) else -1
theorem Ot{X:List Int}{x:Int}(h:∀k,k<X.length->X.getD k 0≠x):idxOf X x = -1:=by
  unfold idxOf;rw[ac (yd h)]
theorem Q4{X:List Int}{x:Int}(H:k<X.length)(e:X.getD k 0=x)(h:∀i,i<k->X.getD i 0≠x):idxOf X x=k:=by
  unfold idxOf
  rw[ae (yj H e)]
  have m:=yj H e
  have a:=List.idxOf_lt_length_iff.2 m
  have b:=List.getElem_idxOf a
  have c:¬ X.idxOf x<k:=λt=>h _ t (by simp[a])
  have d:¬ k<X.idxOf x:=λt=>by
    have:=List.not_of_lt_findIdx t
    simp[H] at e
    simp[e] at this
  omega
theorem Nd{X:List Int}{x:Int}:decide (0<=idxOf X x)=decide (x∈X):=by
  unfold idxOf
  by_cases h:x∈X
  · simp[h]
  · simp[h]
theorem oo{b:UInt8}:((a.toNat:Int)=(b.toNat:Int))↔a=b:=by
  constructor
  · intro h
    exact ŗ.1 ω
  · intro h;rw[h]
section
theorem oL{a:Type}[Rp a]{s w A n c}{x:List a}{f}(h:Rp.own s w [.slice A n c] x f):x.length<=2^63-1:=kw h
theorem sL{a:Type}[Rp a]{w A n c}{x:List a}(h:Ag w [.slice A n c] x):x.length<=2^63-1:=Qi h
end
theorem ew{d e:Type}[Rp d][Rp e]{s w c C}{a:d}{b:e}{f F}(h:own s w c a f)(g:own s w C b F):own s w (c++C) (a,b) (f++F):=by
  have H:=Rp.len h
  refine⟨f,F,rfl,?_,?_⟩
  · rw[<- H,List.take_left];exact h
  · rw[<- H,List.drop_left];exact g
theorem gU{s w}{x:Int}(h:Ak x):own s w [.int .i64 x] x []:=⟨rfl,rfl,h⟩
theorem SU{s w}{x:ByteArray}(h:x.size<=Ë):own s w [.string x] (Str.mk x) []:=⟨rfl,rfl,h⟩
theorem xU{s w}{x:Bool}:own s w [.bool x] x []:=⟨rfl,rfl⟩
theorem lM{a:Type}[Rp a]{s w c}{x:a}{f g}(h:own s w c x f)(e:f=g):own s w c x g:=e ▸ h
structure Rec where
  Kind:Int
  Seq:Int
  Name:ByteArray
  Length:Int
  Group:Int
  Row:Int
  Rows:List Int
  Data:List UInt8
  Ad:List UInt8
instance:Rp Rec:=Rp.via λx=>(x.Kind,x.Seq,Str.mk x.Name,x.Length,x.Group,x.Row,x.Rows,x.Data,x.Ad)
noncomputable instance:DecidableEq Rec:=λ_ _=>Classical.propDecidable _
instance:Inhabited Rec:=⟨⟨0,0,⟨#[]⟩,0,0,0,[],[],[]⟩⟩
def Rec.val (x:Rec) (A:Option ô) (C:Nat) (a:Option ô) (c:Nat) (b:Option ô) (d:Nat):è := .agg #[.int .i64 x.Kind,.int .i64 x.Seq,.string x.Name,.int .i64 x.Length,.int .i64 x.Group,.int .i64 x.Row,.slice A x.Rows.length C,.slice a x.Data.length c,.slice b x.Ad.length d]
def Rec.Ok (x:Rec):Prop:=Ak x.Kind/\Ak x.Seq/\x.Name.size<=Ë/\Ak x.Length/\Ak x.Group/\Ak x.Row
theorem dX{s w c}{x:Rec}{f}(h:own s w c x f):∃(A6:Option ô) (C6:Nat) (A7:Option ô) (C7:Nat) (A8:Option ô) (C8:Nat) (f6:List Nat) (f7:List Nat) (f8:List Nat) ,c=[.int .i64 x.Kind,.int .i64 x.Seq,.string x.Name,.int .i64 x.Length,.int .i64 x.Group,.int .i64 x.Row,.slice A6 x.Rows.length C6,.slice A7 x.Data.length C7,.slice A8 x.Ad.length C8]/\f=f6++(f7++(f8))/\x.Ok/\own s w [.slice A6 x.Rows.length C6] x.Rows f6/\own s w [.slice A7 x.Data.length C7] x.Data f7/\own s w [.slice A8 x.Ad.length C8] x.Ad f8:=by
  obtain⟨_,_,_,_,rfl,E,b,k0⟩:=dw h
  obtain⟨rfl,rfl,I⟩:=gj b
  obtain⟨_,_,_,_,rfl,u,d,k1⟩:=dw k0
  obtain⟨rfl,rfl,l⟩:=gj d
  obtain⟨_,_,_,_,rfl,v,e,Y⟩:=dw k1
  obtain⟨rfl,rfl,m⟩:=e
  obtain⟨_,_,_,_,rfl,y,g,K⟩:=dw Y
  obtain⟨rfl,rfl,n⟩:=gj g
  obtain⟨_,_,_,_,rfl,z,i,q⟩:=dw K
  obtain⟨rfl,rfl,o⟩:=gj i
  obtain⟨_,_,_,_,rfl,A,j,r⟩:=dw q
  obtain⟨rfl,rfl,p⟩:=gj j
  obtain⟨_,_,_,_,rfl,B,H,t⟩:=dw r
  obtain⟨A6,C6,rfl⟩:=aL H
  obtain⟨_,_,_,_,rfl,C,a,k⟩:=dw t
  obtain⟨A7,C7,rfl⟩:=aL a
  obtain⟨A8,C8,rfl⟩:=aL k
  exact⟨A6,C6,A7,C7,A8,C8,_,_,_,rfl,qL,⟨I,l,m,n,o,p⟩,H,a,k⟩
theorem me{s w A C a c b d}{x:Rec}{f}(h:own s w [.int .i64 x.Kind,.int .i64 x.Seq,.string x.Name,.int .i64 x.Length,.int .i64 x.Group,.int .i64 x.Row,.slice A x.Rows.length C,.slice a x.Data.length c,.slice b x.Ad.length d] x f):∃(f6:List Nat) (f7:List Nat) (f8:List Nat),f=f6++(f7++(f8))/\x.Ok/\own s w [.slice A x.Rows.length C] x.Rows f6/\own s w [.slice a x.Data.length c] x.Data f7/\own s w [.slice b x.Ad.length d] x.Ad f8:=by
  obtain⟨_,_,_,_,_,_,f6,f7,f8,e,E,k,o,O,g⟩:=dX h
  obtain⟨⟨rfl,rfl⟩,⟨rfl,rfl⟩,⟨rfl,rfl⟩⟩:=e
  exact⟨f6,f7,f8,E,k,o,O,g⟩
theorem Rec.own_mk{s:Bool}{w:ä}{x:Rec}(k:x.Ok)(o:own s w [.slice A6 x.Rows.length C6] x.Rows f6)(O:own s w [.slice A7 x.Data.length C7] x.Data f7)(e:own s w [.slice A8 x.Ad.length C8] x.Ad f8):own s w [.int .i64 x.Kind,.int .i64 x.Seq,.string x.Name,.int .i64 x.Length,.int .i64 x.Group,.int .i64 x.Row,.slice A6 x.Rows.length C6,.slice A7 x.Data.length C7,.slice A8 x.Ad.length C8] x (f6++(f7++(f8))):=by
  obtain⟨i,I,a,b,c,d⟩:=k
  have h:=(ew (gU i) (ew (gU I) (ew (SU a) (ew (gU b) (ew (gU c) (ew (gU d) (ew o (ew O e))))))))
  refine lM h ?_
  simp
theorem Rec.out{w:ä}{x:Rec}(h:Sep No O [A4 [.slice A6 x.Rows.length C6] x.Rows f6,A4 [.slice A7 x.Data.length C7] x.Data f7,A4 [.slice A8 x.Ad.length C8] x.Ad f8] F w)(o:x.Ok):Res O w [.int .i64 x.Kind,.int .i64 x.Seq,.string x.Name,.int .i64 x.Length,.int .i64 x.Group,.int .i64 x.Row,.slice A6 x.Rows.length C6,.slice A7 x.Data.length C7,.slice A8 x.Ad.length C8] x:=
  ⟨_,Rec.own_mk o (h.A4 0 rfl) (h.A4 1 rfl) (h.A4 2 rfl),AL,λb hb=>(h.new b AH).resolve_left id⟩
structure BytesResult where
  Code:Int
  Bytes:List UInt8
instance:Rp BytesResult:=Rp.via λx=>(x.Code,x.Bytes)
def BytesResult.val (x:BytesResult) (A:Option ô) (C:Nat):è := .agg #[.int .i64 x.Code,.slice A x.Bytes.length C]
def BytesResult.Ok (x:BytesResult):Prop:=Ak x.Code
theorem BO{s w c}{x:BytesResult}{f}(h:own s w c x f):∃(A1:Option ô) (C1:Nat) (X:List Nat) ,c=[.int .i64 x.Code,.slice A1 x.Bytes.length C1]/\f=X/\x.Ok/\own s w [.slice A1 x.Bytes.length C1] x.Bytes X:=by
  obtain⟨_,_,_,_,rfl,e,H,k0⟩:=dw h
  obtain⟨rfl,rfl,i⟩:=gj H
  obtain⟨A1,C1,rfl⟩:=aL k0
  exact⟨A1,C1,_,rfl,qL,i,k0⟩
theorem rv{s w A C}{x:BytesResult}{f}(h:own s w [.int .i64 x.Code,.slice A x.Bytes.length C] x f):∃(X:List Nat),f=X/\x.Ok/\own s w [.slice A x.Bytes.length C] x.Bytes X:=by
  obtain⟨_,_,X,e,E,O,o⟩:=BO h
  obtain⟨rfl,rfl⟩:=e
  exact⟨X,E,O,o⟩
theorem BytesResult.own_mk{s:Bool}{w:ä}{x:BytesResult}(O:x.Ok)(o:own s w [.slice A1 x.Bytes.length C1] x.Bytes X):own s w [.int .i64 x.Code,.slice A1 x.Bytes.length C1] x (X):=by
  have i:=O
  have h:=(ew (gU i) o)
  refine lM h ?_
  simp
theorem BytesResult.out{w:ä}{x:BytesResult}(h:Sep No O [A4 [.slice A1 x.Bytes.length C1] x.Bytes X] F w)(o:x.Ok):Res O w [.int .i64 x.Code,.slice A1 x.Bytes.length C1] x:=
  ⟨_,BytesResult.own_mk o (h.A4 0 rfl),AL,λb hb=>(h.new b AH).resolve_left id⟩
structure Answer where
  Id:Int
  Code:Int
  Turn:Int
  Bytes:List UInt8
structure Desk where
  Queues:List (List Ticket)
  Aside:List Ticket
  Answers:List Answer
  Turn:Int
  Next:Int
def GI (k:Int):UInt8:=Ì (k % 256).toNat
theorem Sv(k:Int):Ī.wrap k=((GI k).toNat:Int):=by
  unfold GI
  simp[ō,ķ,Ŝ]
  omega
def Mut {a:Type}[Rp a] (w W:ä) (F:List Nat) (c:List è) (x:a):Prop:=
  Ext (· ∈ F) w W/\∃f,own ã W c x f/\f.Nodup/\∀b∈f,b∈F\/w.heap.size<=b
section
variable {w:ä}{d:Type}[Rp d]
theorem Sep.begin{c:List è}{x:d}(h:own ã w c x fp)(n:fp.Nodup):Sep (· ∈ fp) w [Wk.A4 c x fp] [] w:=
  ⟨Ext.refl,by simpa[Wk.A4] using h,by simpa[blocks,Wk.A4] using n,λb H => .inl (by simpa[blocks,Wk.A4] using H),σ,σ⟩
theorem Sep.done{c:List è}{x:d}{f:List Nat}(h:Sep (· ∈ fp) O [Wk.A4 c x f] F w):Mut O w fp c x:=
  ⟨h.ext,f,h.A4 0 rfl,by simpa[blocks,Wk.A4] using h.nd,λb H=>h.new b (by simpa[blocks,Wk.A4] using H)⟩
theorem Sep.mut(h:Sep M O N F w)(i:Nat){C c}{x X:d}{p}(g:N[i]? = á (Wk.A4 C x p))(m:Mut w w' p c X):∃f,Sep M O (N.set i (Wk.A4 c X f)) F w':=by
  obtain⟨e,f,H,a,b⟩:=m
  exact⟨f,h.set g e H a b⟩
end
theorem wJ{f g:Nat->Nat}:∀ {k:Nat},(∀i,i<k->f i=g i)->my f k=my g k
  | 0,_=>rfl
  | k+1,h=>by
    show my f k+f k=my g k+g k
    rw[wJ λi V=>h i ω,h k ω]
theorem eqI{k:Ť}{a b:Int}(h:a=b):á (é k a)=á (é k b):=by rw[h]
theorem d8{a:Type}{d y:a}{x:List a}:(x.set k y).getD j d=if j=k/\k<x.length then y else x.getD j d:=by
  simp only[List.getD,List.getElem?_set]
  by_cases h:k=j
  · subst h
    by_cases H:k<x.length
    · simp[H]
    · simp[H]
  · rw[ac h,ac (λe=>h e.1.symm)]
def sd (a:UInt8) (k:Nat):UInt8:=Ì (a.toNat / 2^k)
def Ex (a:UInt8) (k:Nat):UInt8:=Ì (a.toNat*2^k)
theorem jg:(sd a k).toNat=a.toNat / 2^k:=by
  unfold sd
  have:=a.toNat_lt
  have h:a.toNat / 2^k<=a.toNat:=Nat.div_le_self _ _
  simp;omega
theorem Ti{i:Nat}(h:i<256):Ī.wrap (i:Int)=i:=by
  simp[ō,ķ,Ŝ];omega
theorem OS{i:Nat}(h:i<9223372036854775808):Ď.wrap (i:Int)=i:=by
  simp[ō,ķ];omega
theorem bv8:Ć 8 (a.toNat:Int)=a.toBitVec:=by
  simp
section
variable {P:Æ}{w:ä}{d:Option Tmp}{p:String}{f:ì}
theorem qC{b:UInt8}(H:evL L x=á (.int .u8 a.toNat))(c:evL L y=á (.int .u8 b.toNat)):Py P n L w ⟨d,.binOp .xor f x y yt,E,p,I,g⟩ (.int .u8 (a ^^^ b).toNat):=by
  have h:=GO (P:=P) (n:=n) (w:=w) (d:=d) (B:=E) (p:=p) (r:=I) (g:=g) (b:=f) (G:=yt) H c
  rwa[show Ī.bits=8 from rfl,bv8,bv8,Ti (BitVec.isLt _)] at h
theorem Co{b:UInt8}(H:evL L x=á (.int .u8 a.toNat))(c:evL L y=á (.int .u8 b.toNat)):Py P n L w ⟨d,.binOp .and f x y yt,E,p,I,g⟩ (.int .u8 (a &&& b).toNat):=by
  have h:=P0 (P:=P) (n:=n) (w:=w) (d:=d) (B:=E) (p:=p) (r:=I) (g:=g) (b:=f) (G:=yt) H c
  rwa[show Ī.bits=8 from rfl,bv8,bv8,Ti (BitVec.isLt _)] at h
theorem yf(c:evL L x=á (.int .u8 a.toNat))(i:evL L y=á (.int Y k)):Py P n L w ⟨d,.binOp .shr f x y yt,E,p,I,g⟩ (.int .u8 (sd a k).toNat):=by
  have h:=KK (P:=P) (n:=n) (w:=w) (d:=d) (B:=E) (p:=p) (r:=I) (g:=g) (b:=f) (G:=yt) c i ω
  have e:((a.toNat:Int).fdiv (2^min ((k:Int).toNat) Ī.bits))=((sd a k).toNat:Int):=by
    rw[jg,f?,show Ī.bits=8 from rfl,Int.fdiv_eq_ediv_of_nonneg _ (by exact Int.pow_nonneg ω)]
    have t:=a.toNat_lt
    rcases Nat.lt_or_ge k 8 with H|H
    · rw[ļ ω];norm_cast
    · rw[Nat.min_eq_right H]
      have b:=Nat.div_eq_of_lt (Ů t (Nat.pow_le_pow_right ω H))
      rw[b];norm_cast
      exact Nat.div_eq_of_lt t
  rwa[e] at h
theorem Ca(H:k<=8)(b:evL L x=á (.int .u8 a.toNat))(c:evL L y=á (.int Y k)):Py P n L w ⟨d,.binOp .shl f x y yt,E,p,I,g⟩ (.int .u8 (Ex a k).toNat):=by
  have h:=Uc (P:=P) (n:=n) (w:=w) (d:=d) (B:=E) (p:=p) (r:=I) (g:=g) (b:=f) (G:=yt) b c ω
  have e:Ī.wrap ((a.toNat:Int)*2^min ((k:Int).toNat) Ī.bits)=((Ex a k).toNat:Int):=by
    rw[f?,show Ī.bits=8 from rfl,ļ H]
    unfold Ex
    have:((a.toNat:Int)*2^k)=((a.toNat*2^k:Nat):Int):=by norm_cast
    simp[ō,ķ,Ŝ]
  rwa[e] at h
theorem mr{k:Ť}{i:Int}{s D:ì}{t}(a:P.underlying s=á t)(H:P.underlying D=á (.int .u8))(b:evL L x=á (.int k i)):
    Py P n L w ⟨d,.convert s D x,E,p,I,g⟩ (.int .u8 (GI i).toNat):=by
  have h:=ON (n:=n) (w:=w) (d:=d) (B:=E) (p:=p) (r:=I) (g:=g) a H b
  rwa[Sv] at h
end
theorem qv(h:(a.toNat:Int)=0):a=0:=(oo).1 h
theorem P1(h:(a.toNat:Int)=1):a=1:=(oo).1 h
def xt (a:UInt8):UInt8:=if a &&& 128=0 then Ex a 1 else Ex a 1 ^^^ 29
def oO:Nat->UInt8->UInt8->UInt8->UInt8
  | 0,_,_,o=>o
  | n+1,a,b,o=>oO n (xt a) (sd b 1) (if b &&& 1=1 then o ^^^ a else o)
def eN (a b:UInt8):UInt8:=oO 8 a b 0
theorem Nm:sd (sd a j) k=sd a (j+k):=by
  apply ŗ.1
  rw[jg,jg,jg,Nat.div_div_eq_div_mul,Nat.pow_add]
theorem MX:sd a 0=a:=by
  apply ŗ.1
  rw[jg];simp
theorem Fl:∀(n:Nat) (x y o:UInt8),y.toNat<2^n->oO (n+1) x y o=oO n x y o
  | 0,x,y,o,h=>by
    have:y=0:=ŗ.1 (by simp at h;simp[h])
    subst this
    rfl
  | n+1,x,y,o,h=>by
    exact Fl n _ _ _ (by rw[jg];rw[Nat.pow_succ] at h;omega)
theorem Ey:∀(n:Nat) (x o:UInt8),oO n x 0 o=o
  | 0,_,_=>rfl
  | n+1,x,o=>by
    show oO n (xt x) _ _=o
    rw[show sd 0 1=0 from rfl,Ey n];rfl
theorem tG(x y o:UInt8):oO 8 x y o=oO 8 (xt x) (sd y 1) (if y &&& 1=1 then o ^^^ x else o):=by
  rw[<- Fl 8 x y o (by have:=y.toNat_lt;omega)];rfl
theorem tb{p:UInt8->Bool}(h:(õ 256).all (λn=>p (Ì n))=ã)(a:UInt8):p a=true:=by
  have:=û.1 h a.toNat (ģ.2 a.toNat_lt)
  simpa using this
theorem Q9(a:UInt8):a &&& 128=0\/a &&& 128=128:=by
  have:=tb (p:=λa=>(a &&& 128 == 0) || (a &&& 128 == 128)) tt a
  simpa using this
theorem U8(a:UInt8):a &&& 1=0\/a &&& 1=1:=by
  have:=tb (p:=λa=>(a &&& 1 == 0) || (a &&& 1 == 1)) tt a
  simpa using this
theorem LD(a b c:UInt8):(a ^^^ b) &&& c=(a &&& c) ^^^ (b &&& c):=by
  apply UInt8.eq_of_toBitVec_eq
  ext i
  simp
  cases a.toBitVec[i]<;>cases b.toBitVec[i]<;>cases c.toBitVec[i]<;>rfl
theorem shl1(a:UInt8):Ex a 1=a <<< 1:=by
  have:=tb (p:=λa=>Ex a 1 == a <<< 1) tt a
  simpa using this
theorem shr1(a:UInt8):sd a 1=a >>> 1:=by
  have:=tb (p:=λa=>sd a 1 == a >>> 1) tt a
  simpa using this
theorem Qv(a b:UInt8):Ex (a ^^^ b) 1=Ex a 1 ^^^ Ex b 1:=by
  rw[shl1,shl1,shl1]
  exact UInt8.shiftLeft_xor
theorem QM(a b:UInt8):sd (a ^^^ b) 1=sd a 1 ^^^ sd b 1:=by
  rw[shr1,shr1,shr1]
  exact UInt8.shiftRight_xor
theorem TT(a b c d:UInt8):(a ^^^ b) ^^^ (c ^^^ d)=(a ^^^ c) ^^^ (b ^^^ d):=by
  rw[Ö,Ö]
  congr 1
  rw[<- Ö,<- Ö,W_ b c]
theorem Tt(a b:UInt8):xt (a ^^^ b)=xt a ^^^ xt b:=by
  unfold xt
  rw[LD,Qv]
  rcases Q9 a with h|h<;>rcases Q9 b with H|H<;>rw[h,H]
  · rfl
  · rw[ac dv,ae rfl,ac dv,Ö]
  · rw[ac dv,ac dv,ae rfl,Ö,Ö,W_ _ 29]
  · rw[ae dv,ac dv,ac dv,TT];simp
theorem Ez:∀(n:Nat) (x X y o O:UInt8),oO n (x ^^^ X) y (o ^^^ O)=oO n x y o ^^^ oO n X y O
  | 0,_,_,_,_,_=>rfl
  | n+1,x,X,y,o,O=>by
    show oO n _ _ _=oO n (xt x) _ _ ^^^ oO n (xt X) _ _
    rw[Tt,<- Ez n]
    split
    · rw[TT]
    · rfl
theorem CR:∀(n:Nat) (x y Y o O:UInt8),oO n x (y ^^^ Y) (o ^^^ O)=oO n x y o ^^^ oO n x Y O
  | 0,_,_,_,_,_=>rfl
  | n+1,x,y,Y,o,O=>by
    show oO n (xt x) _ _=oO n (xt x) _ _ ^^^ oO n (xt x) _ _
    rw[QM,<- CR n,LD]
    rcases U8 y with h|h<;>rcases U8 Y with H|H<;>rw[h,H]
    · rfl
    · rw[ae dv,ac dv,ae rfl,Ö]
    · rw[ae dv,ae rfl,ac dv,Ö,Ö,W_ O x]
    · rw[ae rfl,ae rfl,TT];simp
theorem jS(x X y:UInt8):eN (x ^^^ X) y=eN x y ^^^ eN X y:=Ez 8 x X y 0 0
theorem lP(x y Y:UInt8):eN x (y ^^^ Y)=eN x y ^^^ eN x Y:=CR 8 x y Y 0 0
theorem Dy{p:UInt8->Prop}(h:p 0)(H:∀k,k<8->p (Ì (2^k)))(x:∀a b,p a->p b->p (a ^^^ b))(a:UInt8):p a:=by
  have K:∀k,k<=8->p (Ì (a.toNat % 2^k)):=by
    intro k c
    induction k with
    | zero=>simpa[Nat.mod_one] using h
    | succ k i=>
      have i:=i ω
      have s:Ì (a.toNat % 2^(k+1))=Ì (a.toNat % 2^k) ^^^ (if a.toNat.testBit k then Ì (2^k) else 0):=by
        have:=tb (p:=λa=>(õ 8).all λk=>Ì (a.toNat % 2^(k+1)) == Ì (a.toNat % 2^k) ^^^ (if a.toNat.testBit k then Ì (2^k) else 0)) tt a
        have:=û.1 this k (ģ.2 ω)
        simpa using this
      rw[s]
      refine x _ _ i ?_
      split
      · exact H k ω
      · exact h
  have:=K 8 (aN _)
  have t:=a.toNat_lt
  simpa using this
theorem jI(y:UInt8):eN 0 y=0:=by
  have:=jS 0 0 y
  simpa using this
theorem kf(x:UInt8):eN x 0=0:=by
  have:=lP x 0 0
  simpa using this
theorem xB(a b:UInt8):eN a b=eN b a:=by
  revert b
  refine Dy (p:=λa=>∀b,eN a b=eN b a) (λb=>by rw[jI,kf]) (λk d=>?_) (λa A h H b=>by rw[jS,lP,h,H]) a
  refine Dy (by rw[jI,kf]) (λj c=>?_) (λb B h H=>by rw[jS,lP,h,H])
  have:(õ 8).all (λk=>(õ 8).all λj=>eN (Ì (2^k)) (Ì (2^j)) == eN (Ì (2^j)) (Ì (2^k)))=true:=by decide +kernel
  simpa using û.1 (û.1 this k (ģ.2 d)) j (ģ.2 c)
theorem zN(a b c:UInt8):eN (eN a b) c=eN a (eN b c):=by
  revert b c
  refine Dy (p:=λa=>∀b c,eN (eN a b) c=eN a (eN b c)) (λb c=>by rw[jI,jI,jI]) (λk e=>?_) (λa A h H b c=>by rw[jS,jS,jS,h,H]) a
  refine Dy (λc=>by rw[kf,jI,kf]) (λj d=>?_) (λb B h H c=>by rw[lP,jS,jS,lP,h,H])
  refine Dy (by rw[kf,kf,kf]) (λi V=>?_) (λc C h H=>by rw[lP,lP,lP,h,H])
  have:(õ 8).all (λk=>(õ 8).all λj=>(õ 8).all λi=>eN (eN (Ì (2^k)) (Ì (2^j))) (Ì (2^i)) == eN (Ì (2^k)) (eN (Ì (2^j)) (Ì (2^i))))=true:=by decide +kernel
  simpa using û.1 (û.1 (û.1 this k (ģ.2 e)) j (ģ.2 d)) i (ģ.2 V)
theorem AD(a:UInt8):eN a 1=a:=by
  have:=tb (p:=λa=>eN a 1 == a) tt a
  simpa using this
theorem pf(a:UInt8):eN 1 a=a:=by rw[xB,AD]
def pw (a:UInt8):Nat->UInt8
  | 0=>1
  | n+1=>eN (pw a n) a
theorem OL(a:UInt8):∀n,pw (eN a a) n=pw a (2*n)
  | 0=>rfl
  | n+1=>by
    show eN _ _=eN (eN (pw a (2*n)) a) a
    rw[OL a n,zN]
def pm (a:UInt8):UInt8:=pw a 254
theorem vx(h:k<8)(x b o:UInt8):oO (8-k) x (sd b k) o=oO (8-(k+1)) (xt x) (sd b (k+1)) (if sd b k &&& 1=1 then o ^^^ x else o):=by
  rw[show 8-k=(8-(k+1))+1 from by omega,<- Nm]
  rfl
theorem QG(x:UInt8)(h:(255:Int)<2*(x.toNat:Int)):Ď.wrap ((Ć Ď.bits (2*(x.toNat:Int)) ^^^ Ć Ď.bits 285).toNat:Int)=((xt x).toNat:Int):=by
  have:=tb (p:=λx=>decide (¬ (255:Int)<2*(x.toNat:Int)) || decide (Ď.wrap ((Ć Ď.bits (2*(x.toNat:Int)) ^^^ Ć Ď.bits 285).toNat:Int)=((xt x).toNat:Int))) tt x
  simp only[bJ,ab] at this
  exact this.resolve_left (λH=>H h)
theorem ID(x:UInt8)(h:¬ (255:Int)<2*(x.toNat:Int)):2*(x.toNat:Int)=((xt x).toNat:Int):=by
  have:=tb (p:=λx=>decide ((255:Int)<2*(x.toNat:Int)) || decide (2*(x.toNat:Int)=((xt x).toNat:Int))) tt x
  simp at this
  exact this.resolve_left h
theorem QE(a:UInt8):GI (a.toNat:Int)=a:=by
  have:=tb (p:=λa=>GI (a.toNat:Int) == a) tt a
  simpa using this
theorem IM{x:Int}(h:0<=x/\x<=9223372036854775807):IntKind.u64.wrap x=x:=by
  simp[ō,ķ];omega
theorem bv64:Ć 64 (a.toNat:Int)=BitVec.ofNat 64 a.toNat:=by
  simp
section
variable {P:Æ}{w:ä}{d:Option Tmp}{p:String}{f:ì}
theorem Rx(a b:UInt8)(H:evL L x=á (.int .i64 a.toNat))(c:evL L y=á (.int .i64 b.toNat)):Py P n L w ⟨d,.binOp .xor f x y yt,E,p,I,g⟩ (.int .i64 (a ^^^ b).toNat):=by
  have h:=GO (P:=P) (n:=n) (w:=w) (d:=d) (B:=E) (p:=p) (r:=I) (g:=g) (b:=f) (G:=yt) H c
  have e:(BitVec.ofNat 64 a.toNat ^^^ BitVec.ofNat 64 b.toNat).toNat=(a ^^^ b).toNat:=by
    have i:=a.toNat_lt
    have j:=b.toNat_lt
    rw[BitVec.toNat_xor,BitVec.toNat_ofNat,BitVec.toNat_ofNat,C? ω,C? ω,UInt8.toNat_xor]
  have t:=(a ^^^ b).toNat_lt
  rwa[show Ď.bits=64 from rfl,bv64,bv64,e,OS ω] at h
end
theorem GA(o a:UInt8)(n:Nat):eN o (pw a (n+1))=eN (eN o a) (pw a n):=by
  show eN o (eN (pw a n) a)=_
  rw[xB (pw a n) a,<- zN]
theorem SI(o x:UInt8)(h:m % 2≠1):eN o (pw x m)=eN o (pw (eN x x) (m / 2)):=by
  rw[OL,show 2*(m / 2)=m from by omega]
theorem TP(o x:UInt8)(h:m % 2=1):eN o (pw x m)=eN (eN o x) (pw (eN x x) (m / 2)):=by
  rw[OL,<- GA,show 2*(m / 2)+1=m from by omega]
def cauchy (j i:Int):UInt8:=pm (GI (128+j) ^^^ GI i)
theorem IA:pm 0=0:=by decide +kernel
section
variable {P:Æ}{w:ä}{d:Option Tmp}{p:String}{f:ì}
theorem Oh(b:m<9223372036854775808)(H:evL L x=á (.int .i64 m))(a:evL L y=á (.int .i64 1)):Py P n L w ⟨d,.binOp .and f x y yt,E,p,I,g⟩ (.int .i64 ((m % 2:Nat):Int)):=by
  have h:=P0 (P:=P) (n:=n) (w:=w) (d:=d) (B:=E) (p:=p) (r:=I) (g:=g) (b:=f) (G:=yt) H a
  have e:(Ć 64 (m:Int) &&& Ć 64 1).toNat=m % 2:=by
    rw[BitVec.toNat_and,BitVec.toNat_ofInt,show(Ć 64 1).toNat=1 from rfl,Nat.and_one_is_mod]
    omega
  rwa[show Ď.bits=64 from rfl,e,OS ω] at h
theorem Ii(H:evL L x=á (.int .i64 m))(a:evL L y=á (.int Y 1)):Py P n L w ⟨d,.binOp .shr f x y yt,E,p,I,g⟩ (.int .i64 ((m / 2:Nat):Int)):=by
  have h:=KK (P:=P) (n:=n) (w:=w) (d:=d) (B:=E) (p:=p) (r:=I) (g:=g) (b:=f) (G:=yt) H a ω
  have e:((m:Int).fdiv (2^min ((1:Int).toNat) Ď.bits))=((m / 2:Nat):Int):=by
    rw[show(2:Int)^min _ Ď.bits=2 from rfl,Int.fdiv_eq_ediv_of_nonneg _ ω]
    norm_cast
  rwa[e] at h
end
theorem Ext.cellM{w:ä}(h:Ext M w w'){a:ô}{v:è}(m:¬ M a.block)(H:w.cell? a=á v):w'.cell? a=á v:=
  (World.cell?_of_block (h.block a.block (World.block_lt_of_cell? w a H) m)).trans H
theorem Sep.off{M W a F}{w:ä}(h:Sep M W a F w)(i:Nat){r:Rsc}(c:F[i]? = á r)(j:Nat)(d:a[j]? = á q)(H:b∈r.fp):b ∉ q.fp:=λm=>
  h.ap r (æ c) b H (cG.2 ⟨q,æ d,m⟩)
theorem Sep.Bh{M W a F}{w:ä}(h:Sep M W a F w)(i:Nat){o:Obj}(c:a[i]? = á (Wk.box b o))(j:Nat)(H:(a[j]?,î i j)=(á q,â)):b ∉ q.fp:=
  have⟨e,d⟩:=pj2 H;h.apart e c d b iQ
theorem r8{s w a n c}{F}(h:own s w [.slice a n c] D F)(k:Nat)(H:k<D.length):
    ∃b o,a=á ⟨b,o,ç⟩/\w.cell? ⟨b,o+k*1,ç⟩=á (.int .u8 (D.getD k 0).toNat)/\b∈F:=by
  obtain⟨b,o,C,f,d,e,h3,_,g⟩:=gh h k H
  rw[show D.getD k 0=D[k] from by simp[H]]
  exact⟨b,o,d,e 0 _ zT,g⟩
theorem Ib{e:Type}[Rp e]{s w A n C}{x:List (List e)}{F}(h:own s w [.slice A n C] x F)(k:Nat)(d:k<x.length):
    ∃b o a c f,A=á ⟨b,o,ç⟩/\w.cell? ⟨b,o+k*1,ç⟩=á (.slice a (x.getD k []).length c)/\own s w [.slice a (x.getD k []).length c] (x.getD k []) f/\(∀b∈f,b∈F)/\b∈F:=by
  obtain⟨b,o,m,f,g,i,H,j,l⟩:=gh h k d
  rw[show x.getD k []=x[k] from by simp[d]]
  obtain⟨a,c,rfl⟩:=aL H
  exact⟨b,o,a,c,f,g,i 0 _ rfl,H,j,l⟩
section
variable {P:Æ}{w:ä}{i d:Nat}{p:String}
theorem Lq{a:Obj}{v:Nat->è}(g:A.toList[i]? = á o)(j:Wn A n L o)(e:o.dst=á d)(f:ò d n=ã)(p:Pn P n L w o (v w.heap.size) (w.alloc a))(H:Sep M O N F w)(c:∀w',S w->Ext No w w'->S w')
    (k:∀b w',Ext No w w'->w.heap.size<=b->Sep M O (N++[box b a]) F w'->DL P n A Q S J ((d,v b)::L) w'):DL P n A Q S ((i,â)::J) L w:=
  tO g j e f p (λh _=>c _ h (Ext.refl.alloc _)) (k _ _ (Ext.refl.alloc _) (aN _) (H.alloc _))
theorem dB{t:ì}{v:è}{s:Nat}(o:A.toList[i]? = á ⟨á d,.buildSlice t 1 #[(0,x)],E,p,I,g⟩)(m:Wn A n L ⟨á d,.buildSlice t 1 #[(0,x)],E,p,I,g⟩)(f:ò d n=ã)(l:P.underlying t=á (.slice e))(T:Ty P e z s C)(a:(ò 0 s,evL L x,v.cells.size,ĭ s 16777216)=(ã,á v,s,ã))(H:Sep M O N F w)(c:∀w',S w->Ext No w w'->S w')
    (k:∀b w',Ext No w w'->w.heap.size<=b->Sep M O (N++[box b (.cells v.cells.toList.toArray e)]) F w'->DL P n A Q S J ((d,.slice (á ⟨b,0,ç⟩) 1 1)::L) w') :
    DL P n A Q S ((i,â)::J) L w:=by
  have⟨j,q,h1,hsmall⟩:=pj4 a;have h:=zr (n:=n) (w:=w) (C:=E) (p:=p) (D:=I) (g:=g) (d:=á d) (b:=1) l T (ü j) rfl (zF q) xg ω KE
  simp at h
  exact Lq o m rfl f h H c k
theorem jD{a:Type}[Rp a]{t:ì}{s:Nat}(o:A.toList[i]? = á ⟨á d,.buildSlice t 0 #[],E,p,I,g⟩)(l:Wn A n L ⟨á d,.buildSlice t 0 #[],E,p,I,g⟩)(f:ò d n=ã)(j:P.underlying t=á (.slice e))(T:Ty P e z s C)(H:Sep M O N F w)(c:∀w',S w->Ext No w w'->S w')
    (k:∀b w',Ext No w w'->w.heap.size<=b->Sep M O (N++[A4 [.slice (á ⟨b,0,ç⟩) 0 0] ([]:List a) [b]]) F w'->DL P n A Q S J ((d,.slice (á ⟨b,0,ç⟩) 0 0)::L) w') :
    DL P n A Q S ((i,â)::J) L w:=
  tO o l rfl f (Lk j T) (λh _=>c _ h (Ext.refl.alloc _)) (k _ _ (Ext.refl.alloc _) (aN _) (H.add (Ext.refl.alloc _)
    (.inr (.inr ⟨w.heap.size,0,0,#[],e,(0,0),[],rfl,rfl,ŋ _ _,λ_=>rfl,aN _,ý _,σ,rfl⟩)) (by simp[A4]) (by simp[A4])))
section
variable {f:Type}[Rp f]
theorem Uj{t:ì}{y:f}(o:A.toList[i]? = á ⟨á d,.makeSlice t x x,E,p,I,g⟩)(r:Wn A n L ⟨á d,.makeSlice t x x,E,p,I,g⟩)(l:ò d n=ã)(q:P.underlying t=á (.slice e))(T:Ty P e z (sz f) C)(u:∀w,own ã w z.cells.toList y [])
    (s:evL L x=á (.int .i64 m)) (c:C*m<=281474976710656) (a:m<=Ë) (H:Sep M O N F w) (j:∀w',S w->Ext No w w'->S w')
    (k:∀b w',Ext No w w'->w.heap.size<=b->Sep M O (N++[A4 [.slice (á ⟨b,0,ç⟩) m m] (å m y) [b]]) F w'->DL P n A Q S J ((d,.slice (á ⟨b,0,ç⟩) m m)::L) w') :
    DL P n A Q S ((i,â)::J) L w:=
  tO o r rfl l (Le q T s c a) (λh _=>j _ h (Ext.refl.alloc _)) (k _ _ (Ext.refl.alloc _) (aN _) (H.made u a))
theorem pY{t:ì}{v:è}{X:List f}{T}{s:List è}{u:f}(ho:A.toList[i]? = á ⟨á d,.call ⟨.builtin .append,#[x,y],#[t,t]⟩,E,p,I,g⟩)(hw:Wn A n L ⟨á d,.call ⟨.builtin .append,#[x,y],#[t,t]⟩,E,p,I,g⟩)(hn:ò d n=ã)
    (ht:P.underlying t=á (.slice e)) (R:Ty P e z (sz f) C) (G:(z.cells.size,evL L x,evL L y)=(sz f,á v,á (.slice (á ⟨b2,0,ç⟩) 1 c2)))
    (H:Sep M O N F w) (q j:Nat) (a:N[q]? = á (A4 [v] X fp)) (Y:N[j]? = á (box b2 (.cells s.toArray T))) (c:own ã w s u []) (D:X.length+1<=Ë) (W:(X.length+1)*C<=140737488355328)
    (K:∀w',S w->Ext (· ∈ fp) w w'->S w')
    (a_:∀V w' k,Sep M O (N.set q (A4 [V] (X++[u]) k)) F w'->DL P n A Q S J ((d,V)::L) w') :
    DL P n A Q S ((i,â)::J) L w:=by
  have⟨hz,hx,hy⟩:=pj3 G;obtain⟨V,w',k,m,o,l,r,B⟩:=nh ht R hz (H.A4 q a) (by rw[Rp.len c];simp) rfl (At.whole (H.box j Y)) (Rp.one c) (.one c) σ (H.Aj a) .nil σ D W
  exact tO ho hw rfl hn (pU hx hy m) (λh _=>K _ h l) (a_ _ _ _ (H.set a l o B λb U=>by rcases r b U with h|h|h;exact .inl h;simp at h;exact .inr h))
theorem kj{t:ì}{v:è}{X:List f}{T}{s:List è}{u:f}{r}(ho:A.toList[i]? = á ⟨á d,.call ⟨.builtin .append,#[x,y],#[t,t]⟩,E,p,I,g⟩)(hw:Wn A n L ⟨á d,.call ⟨.builtin .append,#[x,y],#[t,t]⟩,E,p,I,g⟩)(hn:ò d n=ã)
    (ht:P.underlying t=á (.slice e)) (hT:Ty P e z (sz f) C) (W:(z.cells.size,evL L x,evL L y)=(sz f,á v,á (.slice (á ⟨b2,0,ç⟩) 1 c2)))
    (H:Sep M O N F w) (l j q:Nat) (U:(N[l]?,N[j]?,N[q]?,î q l)=(á (A4 [v] X fp),á (box b2 (.cells s.toArray T)),á (A4 s u r),â)) (R:X.length+1<=Ë) (a_:(X.length+1)*C<=140737488355328)
    (Y:∀w',S w->Ext (· ∈ fp) w w'->S w')
    (b_:∀c w' k,Sep M O ((N.set q gone).set l (A4 [c] (X++[u]) k)) F w'->DL P n A Q S J ((d,c)::L) w') :
    DL P n A Q S ((i,â)::J) L w:=by
  have⟨V,hj,a,o⟩:=pj4 U;have⟨hz,hx,hy⟩:=pj3 W;have b:=H.A4 q a
  obtain⟨c,w',k,B,D,m,G,K⟩:=nh ht hT hz (H.A4 l V) (by rw[Rp.len b];simp) rfl (At.whole (H.box j hj)) (Rp.one b) (.one b) (H.apart V a o) (H.Aj V) (H.Aj a) σ R a_
  exact tO ho hw rfl hn (pU hx hy B) (λh _=>Y _ h m) (b_ _ _ _ (H.set2 V a o m D K G))
theorem Ko{t:ì}{o:Nat}{v:è}{a:Option ô}{l C:Nat}{X:List f}{u:f}(R:A.toList[i]? = á ⟨ç,.store t x y,E,p,I,g⟩)(V:Wn A n L ⟨ç,.store t x y,E,p,I,g⟩)(s:∀w,(sizeOf t).run P w = .ok (sz f) w)(m:sz f=1)
    (H:Sep M O N F w) (j:Nat) (G:N[j]? = á (A4 [.slice a l C] X fp)) (q:Nat) (T:q<X.length) (W:evL L x=á (.pointer (á ⟨b,o+q*sz f,ç⟩))) (B:a=á ⟨b,o,ç⟩) (Y:evL L y=á v) (d:own ã w [v] u [])
    (r:∀w',S w->Ext (· = b) w w'->J≠[]->S w')
    (k:∀w' c,Ext (· = b) w w'->Sep M O (N.set j (A4 [.slice a l C] (X.set q u) c)) F w'->DL P n A Q S J L w') :
    DL P n A Q S ((i,â)::J) L w:=by
  obtain⟨b',o',b_,a_,e,D,c_,K⟩:=H.elset j G q T
  rw[B] at e
  obtain⟨rfl,rfl⟩:=e
  obtain⟨c,h⟩:=K [v] u d
  refine G5 R V rfl (jM (by rw[m] at s;exact s) W Y (Rp.one d v σ) D ω) (λz U=>r _ z (Ext.refl.put (.inl rfl)) U) ?_
  exact k _ c (Ext.refl.put (.inl rfl)) h
end
end
def cK (X:List UInt8) (c:UInt8):List UInt8:=X.map λx=>eN x c
theorem ik(x:List UInt8)(c:UInt8):(cK x c).length=x.length:=by simp[cK]
theorem Bu(h:k<D.length):cK (D.take k) c++[eN (D.getD k 0) c]=cK (D.take (k+1)) c:=by
  rw[mE (d:=0) h];simp[cK]
def eH (x y:List UInt8):List UInt8:=List.zipWith (· ^^^ ·) x y
theorem ip(h:D.length<=T.length):(eH D T).length=D.length:=by
  unfold eH;simp;omega
theorem NF(h:k<D.length)(H:D.length<=T.length):eH (D.take k) (T.take k)++[D.getD k 0 ^^^ T.getD k 0]=eH (D.take (k+1)) (T.take (k+1)):=by
  rw[mE h,mE (by omega:k<T.length)]
  unfold eH
  rw[List.zipWith_append xw]
  rfl
theorem NX(h:D.length<=T.length):eH D (T.take D.length)=eH D T:=by
  unfold eH
  apply ĉ
  intro i
  rw[List.getElem?_zipWith,List.getElem?_zipWith,Ð]
  by_cases V:i<D.length
  · rw[ae V]
  · rw[Í ω]
def BG (x y:List UInt8) (c:UInt8) (k:Nat):List UInt8:=eH (x.take k) (cK (y.take k) c)++x.drop k
theorem MA:BG D T c 0=D:=by simp[BG,eH]
theorem QV(h:D.length=k)(H:T.length=k):BG D T c k=eH D (cK T c):=by
  unfold BG
  rw[Ĕ ω,Ĕ ω,List.drop_eq_nil_of_le ω,List.append_nil]
theorem DO(h:D.length=T.length):(BG D T c k).length=D.length:=by
  unfold BG
  rw[aO,ip (by simp[cK];omega)]
  simp;omega
theorem PQ(h:D.length=T.length)(a:k<D.length):(BG D T c k).getD k 0=D.getD k 0:=by
  have H:(eH (D.take k) (cK (T.take k) c)).length=k:=by rw[ip (by simp[cK];omega)];simp;omega
  unfold BG
  simp
  rw[List.getElem?_append_right ω,H]
  simp
theorem MZ(h:D.length=T.length)(H:k<D.length):(BG D T c k).set k (D.getD k 0 ^^^ eN (T.getD k 0) c)=BG D T c (k+1):=by
  have a:(eH (D.take k) (cK (T.take k) c)).length=k:=by rw[ip (by simp[cK];omega)];simp;omega
  unfold BG
  rw[List.set_append,a,Nat.sub_self]
  have b:D.drop k=D.getD k 0::D.drop (k+1):=by rw[List.drop_eq_getElem_cons H];simp[H]
  have d:eH (D.take (k+1)) (cK (T.take (k+1)) c)=eH (D.take k) (cK (T.take k) c)++[D.getD k 0 ^^^ eN (T.getD k 0) c]:=by
    rw[mE H,<- Bu ω]
    unfold eH
    rw[List.zipWith_append (by simp[cK];omega)]
    rfl
  rw[b,d]
  simp
def mixTo (l:List (List UInt8)) (c:List UInt8) (n:Nat):Nat->List UInt8
  | 0=>å n 0
  | k+1=>eH (mixTo l c n k) (cK (l.getD k []) (c.getD k 0))
theorem lS{l:List (List UInt8)}{c:List UInt8}(h:∀i,i<l.length->(l.getD i []).length=n):∀ {k:Nat},k<=l.length->(mixTo l c n k).length=n
  | 0,_=>by simp[mixTo]
  | k+1,b=>by
    have H:=lS (c:=c) h (k:=k) ω
    have a:=h k ω
    rw[mixTo,ip zM]
    exact H
theorem gA{a:Type}[Rp a]{s w A n c}{x:List a}{f}(h:own s w [.slice A n c] x f):n=x.length:=by
  obtain⟨_,_,e⟩:=aL h
  simp at e
  exact e.2.1
def mP (g:Nat->UInt8) (n k:Nat):List UInt8:=(õ k).map g++å (n-k) 0
theorem wM{g:Nat->UInt8}:mP g n 0=å n 0:=by simp[mP]
theorem FF{g:Nat->UInt8}:mP g n n=(õ n).map g:=by simp[mP]
theorem Fd{g:Nat->UInt8}(h:k<=n):(mP g n k).length=n:=by
  unfold mP;simp;omega
theorem AV{g:Nat->UInt8}(h:k<n):mP g n k=(õ k).map g++0::å (n-(k+1)) 0:=by
  unfold mP
  rw[show n-k=(n-(k+1))+1 from by omega,List.replicate_succ]
theorem DS{g:Nat->UInt8}:mP g n (k+1)=(õ k).map g++g k::å (n-(k+1)) 0:=by
  unfold mP
  rw[č];simp
theorem sa{g:Nat->UInt8}{x:UInt8}(h:k<n)(H:g k=x):(mP g n k).set k x=mP g n (k+1):=by
  rw[AV h,DS,List.set_append,H]
  simp
theorem CW{g:Nat->UInt8}(h:k<n)(H:g k=0):mP g n k=mP g n (k+1):=by
  rw[AV h,DS,H]
def genAt (n:Nat) (p b:Int) (i:Nat):UInt8:=if(n:Int)<=p then cauchy (b+p-n) i else if(i:Int)=p then 1 else 0
def kY (n:Nat) (p b:Int):List UInt8:=(õ n).map (genAt n p b)
theorem nN{p b:Int}:(kY n p b).length=n:=by simp[kY]
def cut {a:Type}(x:List a) (l h:Nat):List a:=(x.drop l).take (h-l)
theorem fb{a:Type}{x:List a}{l h:Nat}(H:h<=x.length):(cut x l h).length=h-l:=by
  unfold cut;rw[aY,bZ];omega
theorem LI{a:Type}{x:List a}{l h i:Nat}{d:a}(H:i<h-l):(cut x l h).getD i d=x.getD (l+i) d:=by
  unfold cut
  simp
  rw[Ð,ae H,Ñ]
theorem dg.weak'{a:Type}[Rp a]{s w c}{x:List a}{f}(h:dg s w c x f):dg â w c x f:=by
  cases s
  · exact h
  · exact h.weak
theorem dg.drop{a:Type}[Rp a]{s w}:∀(l:Nat) {D:List a}{c fp},dg s w c D fp->∃f,dg s w (c.drop (l*sz a)) (D.drop l) f/\∀b∈f,b∈fp
  | 0,D,c,fp,h=>⟨fp,lN,λ_ h=>h⟩
  | l+1,[],c,fp,h=>⟨[],by simp[dg],σ⟩
  | l+1,x::D,c,fp,⟨X,F,e,j,H⟩=>by
    obtain⟨f,g,i⟩:=dg.drop l H
    refine⟨f,?_,λb d=>by subst e;simp[i b d]⟩
    rw[b8,ĳ]
    simpa using g
theorem dg.take{a:Type}[Rp a]{s w}:∀(n:Nat) {D:List a}{c fp},dg s w c D fp->∃f,dg s w c (D.take n) f/\∀b∈f,b∈fp
  | 0,D,c,fp,h=>⟨[],by simp[dg],σ⟩
  | n+1,[],c,fp,h=>⟨fp,lN,λ_ h=>h⟩
  | n+1,x::D,c,fp,⟨X,F,e,d,g⟩=>by
    obtain⟨f,i,j⟩:=dg.take n g
    exact⟨X++f,⟨X,f,rfl,d,i⟩,λb H=>by subst e;rcases aI.1 H with H|H;simp[H];simp[j b H]⟩
def slA (a:Option ô) (l m s:Nat):Option ô:=if m=l then a else a.map (·.add (l*s))
theorem FT{a:Type}[Rp a]{s w A n C}{c:List a}{p}(h:own s w [.slice A n C] c p)(l k m:Nat)(J:l<=k)(H:k<=c.length)(K:k<=m)(L:m<=C):
    ∃f,own â w [.slice (slA A l m (sz a)) (k-l) (m-l)] (cut c l k) f/\∀b∈f,b∈p:=by
  have nil:k-l=0->own â w [.slice (slA A l m (sz a)) (k-l) (m-l)] (cut c l k) []:=λe=>by
    have E:cut c l k=[]:=by unfold cut;rw[e];simp
    rw[e,E]
    exact .inl ⟨rfl,_,_,rfl,rfl,rfl⟩
  by_cases e:k-l=0
  · exact⟨[],nil e,σ⟩
  rcases h with ⟨_,_,_,_,rfl,_⟩|⟨_,rfl,_⟩|⟨b,o,v,r,T,g,y,G,i,j,z,B,D,I,q⟩
  · simp at H;omega
  · simp at H;omega
  · obtain⟨rfl,rfl,rfl⟩:=G
    subst i
    obtain⟨X,k1,S⟩:=q.drop l
    obtain⟨F,Y,u⟩:=k1.take (k-l)
    have t:(cut c l k).length=k-l:=fb H
    refine⟨b::F,.inr (.inr ⟨b,o+l*sz a,m-l,r,T,g,F,?_,rfl,j,(λh=>by cases h),ω,ω,?_,?_⟩),λx d=>?_⟩
    · rw[t,slA,ac ω]
      simp[lu]
    · have:(l+(m-l))*sz a<=C*sz a:=Å _ ω
      rw[b8] at this
      omega
    · rw[ė] at Y;exact Y.weak'
    · rcases aM.1 d with rfl|d
      · simp
      · simp[S _ (u _ d)]
section
variable {P:Æ}{w:ä}{d:Option Tmp}{p:String}
theorem yz{t:ì}(h:P.underlying t=á (.slice e)):P.underlying t=á (.slice (P.elem t))/\P.elem t=e:=by
  have:P.elem t=e:=by simp[Program.elem,h]
  exact⟨by rw[this];exact h,this⟩
theorem T2{t:ì}{A:Option ô}{j c s:Nat}{h:Int}(v:P.underlying t=á (.slice e))(u:∀w,(sizeOf e).run P w = .ok s w)
    (y:evL L x=á (.slice A j c)) (r:evL L lo=á (.int k1 l)) (q:evL L V=á (.int Y h)) (b H:Nat) (m:l=b) (k:h=H) (z:b<=H) (B:H<=c) :
    Py P n L w ⟨d,.slice t x (á lo) (á V) ç,E,p,I,g⟩ (.slice (slA A b c s) (H-b) (c-b)):=λa f=>by
  obtain⟨i,o⟩:=yz v
  have:=run_slice_lh w t A j c i k1 Y l h ω ω ω
  rw[o,u] at this
  subst m;subst k
  simp[À,f.eval y,f.eval r,f.eval q,Ř w t _ _ _ _ i,this,sliced,slA]
theorem L8{t:ì}{A:Option ô}{l c s:Nat}{h:Int}(u:P.underlying t=á (.slice e))(m:∀w,(sizeOf e).run P w = .ok s w)
    (o:evL L x=á (.slice A l c)) (k:evL L V=á (.int Y h)) (H:Nat) (i:h=H) (q:H<=c) :
    Py P n L w ⟨d,.slice t x ç (á V) ç,E,p,I,g⟩ (.slice (slA A 0 c s) (H-0) (c-0)):=λa b=>by
  obtain⟨f,j⟩:=yz u
  have:=run_slice_h w t A l c f Y h ω ω
  rw[j,m] at this
  subst i
  simp[À,b.eval o,b.eval k,Ř w t _ _ _ _ f,this,sliced,slA]
theorem Cp{t:ì}{A:Option ô}{f c s:Nat}(u:P.underlying t=á (.slice e))(m:∀w,(sizeOf e).run P w = .ok s w)
    (o:evL L x=á (.slice A f c)) (k:evL L lo=á (.int k1 l)) (b:Nat) (i:l=b) (q:b<=f) :
    Py P n L w ⟨d,.slice t x (á lo) ç ç,E,p,I,g⟩ (.slice (slA A b c s) (f-b) (c-b)):=λa h=>by
  obtain⟨H,j⟩:=yz u
  have:=run_slice_l w t A f c H k1 l ω ω
  rw[j,m] at this
  subst i
  simp[À,h.eval o,h.eval k,Ř w t _ _ _ _ H,this,sliced,slA]
theorem K9{t:ì}{j:Â}{A:Option ô}{i C s:Nat}{k:Ť}{h m:Int}(D:P.underlying t=á (.slice e))(B:∀w,(sizeOf e).run P w = .ok s w)
    (F:evL L x=á (.slice A i C)) (y:evL L lo=á (.int k1 l)) (v:evL L V=á (.int Y h)) (z:evL L j=á (.int k m)) (b H M:Nat) (q:l=b) (o:h=H) (r:m=M) (G:b<=H) (J:H<=M) (K:M<=C) :
    Py P n L w ⟨d,.slice t x (á lo) (á V) (á j),E,p,I,g⟩ (.slice (slA A b M s) (H-b) (M-b)):=λa c=>by
  obtain⟨f,u⟩:=yz D
  have:=run_slice_lhm w t A i C f k1 Y k l h m ω ω ω ω
  rw[u,B] at this
  subst q;subst o;subst r
  simp[À,c.eval F,c.eval y,c.eval v,c.eval z,Ř w t _ _ _ _ f,this,sliced,slA]
end
class Flat (α:Type) [Rp α]:Prop where
  flat:∀ {s w cs f} {x:α},own s w cs x f->f=[]/\∀s' w',own s' w' cs x []
instance:Flat UInt8:=⟨λh=>⟨h.2,λ_ _=>⟨h.1,rfl⟩⟩⟩
instance:Flat Int:=⟨λh=>⟨h.2.1,λ_ _=>⟨h.1,rfl,h.2.2⟩⟩⟩
theorem dg.flat{a:Type}[Rp a][Flat a]{s w}:∀ {D:List a}{c f},dg s w c D f->f=[]/\∀S w',dg S w' c D []
  | [],_,_,h=>⟨h,λ_ _=>rfl⟩
  | _::_,_,_,⟨X,F,e,H,b⟩=>by
    obtain⟨rfl,k1⟩:=Flat.flat H
    obtain⟨rfl,Y⟩:=b.flat
    exact⟨e,λS w'=>⟨[],[],rfl,k1 S w',Y S w'⟩⟩
theorem Cn{a:Type}[Rp a]{s w A n p}{X:List a}{F}(h:own s w [.slice A n p] X F)(H:0<X.length):
    ∃b o c f,A=á ⟨b,o,ç⟩/\At w b o c/\c.length=X.length*sz a/\dg s w c X f/\(∀x∈f,x∈F)/\b∈F:=by
  rcases h with ⟨_,_,_,_,rfl,_⟩|⟨_,rfl,_⟩|⟨b,o,m,C,T,r,d,e,g,i,q,j,t,u,k⟩
  · simp at H
  · simp at H
  · obtain⟨rfl,_,rfl⟩:=e
    subst g
    have v:X.length*sz a<=p*sz a:=Å _ j
    refine⟨b,o,(C.toList.drop o).take _,d,rfl,xG i _,?_,k.congr Dl,λx l=>by simp[l],σ⟩
    rw[aY,bZ]
    have:C.toList.length=C.size:=by simp
    omega
theorem dg.one'{a:Type}[Rp a]{s w}:∀ {D:List a}{c f},dg s w c D f->c.length=D.length*sz a->∀v∈c,v.oneCell'=ã
  | [],c,f,_,hl,v,hv=>by have:c=[]:=í y9;subst this;simp at hv
  | x::D,c,f,⟨X,F,e,h,H⟩,hl,v,hv=>by
    rcases Jn (sz a) hv with hv|hv
    · exact Rp.one h v hv
    · exact H.one' (by rw[bZ,hl,aR,b8];omega) v hv
section
variable {d:Type}[Rp d] {P:Æ}{t:ì}{w:ä}
theorem Jp{a A:Option ô}{c:Nat}(g:P.underlying t=á (.slice e))(T:Ty P e z (sz d) C)(f:n<=c):
    (Ô #[t,t] E #[.slice a n c,.slice A 0 c2]).run P w = .ok (.slice a n c) w:=by
  obtain⟨i,h,j,H,k⟩:=T.parts
  cases A with
  | none=>cases a<;>simp[Ô,þ g,sizeOf,Y?,h,H,V_,f,Ŧ,ť]
  | some b=>cases a<;>simp[Ô,þ g,sizeOf,Y?,h,H,V_,f,Ŧ,loadCells,i?,ť]
theorem Ml{a n c}{x:List d}{f}(h:own ã w [.slice a n c] x f):n=x.length/\n<=c:=by
  rcases h with ⟨h,_⟩|⟨H,rfl,_⟩|⟨b,o,C,r,T,F,s,H,g,i,j,e,k,l,m⟩
  · cases h
  · simp at H;simp[H]
  · obtain⟨rfl,rfl,rfl⟩:=H
    exact⟨rfl,e⟩
theorem un[Flat d](j:P.underlying t=á (.slice e))(T:Ty P e z (sz d) C)(A:z.cells.size=sz d)
    {v:è}{x y:List d}(h:own ã w [v] x fp) {s a n c} (k:own s w [.slice a n c] y fy) (N:fp.Nodup)
    (m:x.length+y.length<=Ë) (r:(x.length+y.length)*C<=140737488355328) :
    ∃V w' F,(Ô #[t,t] E #[v,.slice a n c]).run P w = .ok V w'/\own ã w' [V] (x++y) F/\Ext (· ∈ fp) w w' /\
      (∀b∈F,b∈fp\/w.heap.size<=b)/\F.Nodup:=by
  obtain rfl:=gA k
  by_cases i:0<y.length
  · obtain⟨b,o,J,f,rfl,q,l,L,_,_⟩:=Cn k i
    obtain⟨rfl,p⟩:=L.flat
    obtain⟨V,w',F,k1,Y,K,B,D⟩:=nh j T A h l rfl q (L.one' l) (p ã w) σ N .nil i m r
    exact⟨V,w',F,k1,Y,K,λb H=>by rcases B b H with h|h|h;exact .inl h;simp at h;exact .inr h,D⟩
  · obtain rfl:y=[]:=í ω
    obtain⟨G,I,g⟩:=aL h
    simp at g
    subst g
    obtain⟨_,u⟩:=Ml h
    exact⟨_,_,fp,Jp j T u,lN,Ext.refl,λb H => .inl H,N⟩
end
section
variable {P:Æ}{w:ä}{d:Tmp}{p:String}{f:List ą}{h:Type}[Rp h] [Flat h]
theorem ma{t:ì}{v:è}{X Y:List h}{a_ b m c}(R:Wn A n L ⟨á d,.call ⟨.builtin .append,#[x,y],#[t,t]⟩,E,p,I,g⟩)(D:ò d n=ã)
    (G:P.underlying t=á (.slice e)) (T:Ty P e z (sz h) C) (J:(z.cells.size,evL L x,evL L y)=(sz h,á v,á (.slice b m c)))
    (H:Sep M O N F w) (i:Nat) (a:N[i]? = á (A4 [v] X fp)) (K:own a_ w [.slice b m c] Y fy) (u:X.length+Y.length<=Ë) (B:(X.length+Y.length)*C<=140737488355328)
    (k:∀V w' j,Sep M O (N.set i (A4 [V] (X++Y) j)) F w'->RL P n A Q f ((d,V)::L) w') :
    RL P n A Q (⟨á d,.call ⟨.builtin .append,#[x,y],#[t,t]⟩,E,p,I,g⟩::f) L w:=by
  have⟨W,S,U⟩:=pj3 J;obtain⟨V,w',j,l,o,q,r,s⟩:=un G T W (H.A4 i a) K (H.Aj a) u B
  exact ue R rfl D (pU S U l) (k _ _ _ (H.set a q o s r))
end
section
variable {P:Æ}{w:ä}{i:Nat}{d:Tmp}{p:String}{f:Type}[Rp f] [Flat f]
theorem KC{t:ì}{v:è}{X Y:List f}{b_ b m c}(K:A.toList[i]? = á ⟨á d,.call ⟨.builtin .append,#[x,y],#[t,t]⟩,E,p,I,g⟩)(W:Wn A n L ⟨á d,.call ⟨.builtin .append,#[x,y],#[t,t]⟩,E,p,I,g⟩)(G:ò d n=ã)
    (R:P.underlying t=á (.slice e)) (T:Ty P e z (sz f) C) (hz:z.cells.size=sz f) (hx:evL L x=á v) (hy:evL L y=á (.slice b m c))
    (H:Sep M O N F w) (q:Nat) (a:N[q]? = á (A4 [v] X fp)) (U:own b_ w [.slice b m c] Y fy) (u:X.length+Y.length<=Ë) (D:(X.length+Y.length)*C<=140737488355328)
    (B:∀w',S w->Ext (· ∈ fp) w w'->S w')
    (a_:∀V w' j,Sep M O (N.set q (A4 [V] (X++Y) j)) F w'->DL P n A Q S J ((d,V)::L) w') :
    DL P n A Q S ((i,â)::J) L w:=by
  obtain⟨V,w',j,l,o,k,r,s⟩:=un R T hz (H.A4 q a) U (H.Aj a) u D
  exact tO K W rfl G (pU hx hy l) (λh _=>B _ h k) (a_ _ _ _ (H.set a k o s r))
end
structure View where
  ad:Option ô
  len:Nat
  cap:Nat
def View.val (v:View):è := .slice v.ad v.len v.cap
instance:Rp View where
  sz:=1
  pos:=by decide
  own _ _ cs x fp:=cs=[x.val]/\fp=[]
  len h:=by rw[h.1];rfl
  one h v hv:=by rw[h.1] at hv;simp at hv;subst hv;rfl
  st h _:=h
  lt h b hb:=by rw[h.2] at hb;simp at hb
  weak h:=h
instance:Flat View:=⟨λh=>⟨h.2,λ_ _=>⟨h.1,rfl⟩⟩⟩
def ResS {a:Type}[Rp a] (w W:ä) (c:List è) (x:a):Prop:=∃fp,own â W c x fp/\∀b∈fp,w.heap.size<=b
theorem DJ{b:Type}[Rp b]{s w}:∀ {a:List (List b)}{c f},dg s w c a f->c.length=a.length->∃H:List View,c=H.map View.val/\H.length=a.length
  | [],c,f,_,hl=>⟨[],í y9,rfl⟩
  | x::a,c,f,⟨X,F,e,h,d⟩,hl=>by
    obtain⟨A,C,g⟩:=aL h
    obtain⟨H,i,j⟩:=DJ d (by rw[bZ,hl];rfl)
    refine⟨⟨A,x.length,C⟩::H,?_,by simp[j]⟩
    rw[List.map_cons,<- i,<- Ġ _ c,g]
    simp[View.val,sz]
theorem Fe{w:ä}:∀ {H:List View}{s},dg s w (H.map View.val) H []
  | [],_=>rfl
  | v::H,s=>⟨[],[],rfl,⟨by simp[sz],rfl⟩,by simpa[sz] using Fe⟩
theorem AW{w}:∀ {H:List View}{s c f},dg s w c H f->c.take H.length=H.map View.val
  | [],_,_,_,_=>by simp
  | v::H,s,c,f,⟨X,F,e,h,a⟩=>by
    have b:=AW a
    have d:c.take 1=[v.val]:=h.1
    rw[aR,ĳ,List.take_add,d]
    exact congrArg _ b
def rows {a:Type}[Rp a] (v:List View) (x:List (List a)) (g:List Nat):Rsc:=⟨g,λw=>dg â w (v.map View.val) x g,λh k=>h.st k,λh=>h.lt⟩
theorem yP{c:Type}[Rp c]{w v}{V:List View}{X:List (List c)}{f g s}(h:own s w [v] V f)(p:dg â w (V.map View.val) X g)(H:V.length=X.length):∃fp,own â w [v] X fp/\∀b∈fp,b∈f\/b∈g:=by
  rcases h with ⟨_,A,C,e,rfl,rfl⟩|⟨e,rfl,rfl⟩|⟨b,o,C,r,T,F,q,d,i,j,t,u,k,l,m⟩
  · obtain rfl:X=[]:=í (by simpa using H.symm)
    exact⟨[],.inl ⟨rfl,_,_,e,rfl,rfl⟩,σ⟩
  · obtain rfl:X=[]:=í (by simpa using H.symm)
    exact⟨[],.inr (.inl ⟨e,rfl,rfl⟩),σ⟩
  · subst i
    refine⟨b::g,.inr (.inr ⟨b,o,C,r,T,F,g,by rw[d,H],rfl,j,(λh=>by cases h),ω,k,l,?_⟩),λx a=>?_⟩
    · refine p.congr ?_
      have n:=AW m
      have e:X.length*sz (List c)=V.length:=by rw[H];exact Nat.mul_one _
      rw[e,n,Ĕ σ]
    · rcases aM.1 a with rfl|a
      · simp
      · exact .inr a
theorem Sep.fto{M W a F f}{w:ä}(h:Sep M W a F w)(c:∀r∈f,r.φ w/\∀b∈r.fp,b ∉ blocks a):Sep M W a f w:=
  ⟨h.ext,h.rs,h.nd,h.new,λr H=>(c r H).1,λr H=>(c r H).2⟩
theorem Sep.freshD{W a F}{w:ä}(h:Sep No W a F w)(i:Nat){r:Rsc}(c:a[i]? = á r):∀b∈r.fp,W.heap.size<=b:=λb H=>
  (h.new b (cG.2 ⟨r,æ c,H⟩)).resolve_left id
theorem di{a:Type}[Rp a]{s w A n c}{x:List a}{f}(h:own s w [.slice A n c] x f):x.length<=c:=by
  rcases h with ⟨_,_,_,_,rfl,_⟩|⟨_,rfl,_⟩|⟨b,o,C,r,T,F,e,H,g,i,j,d,k,l,m⟩
  · exact ý _
  · exact ý _
  · obtain⟨rfl,rfl,rfl⟩:=H
    exact d
theorem fG{a:Type}[Rp a]{s w A n c}{x:List a}{F}(h:own s w [.slice A n c] x F)(l k m:Nat)(d:l<=k)(H:k<=x.length)(e:k<=m)(g:m<=c):
    ∃f,own â w [.slice (slA A l m (sz a)) (cut x l k).length (m-l)] (cut x l k) f/\∀b∈f,b∈F:=by
  rw[fb H];exact FT h l k m d H e g
section
variable {P:Æ}{w:ä}{d:Option Tmp}{p:String}
theorem BY{t:ì}{A:Option ô}{y c s:Nat}{h:Int}(u:P.underlying t=á (.slice e))(r:∀w,(sizeOf e).run P w = .ok s w)
    (v:evL L x=á (.slice A y c)) (q:evL L lo=á (.int k1 l)) (o:evL L V=á (.int Y h)) (a H:Nat) (f:l=a) (b:h=H) (j:a<=H) (k:H<=c) (i:m=H-a) :
    Py P n L w ⟨d,.slice t x (á lo) (á V) ç,E,p,I,g⟩ (.slice (slA A a c s) m (c-a)):=by
  subst i;exact T2 u r v q o a H f b j k
theorem fW{t:ì}{a:Option ô}{o c s:Nat}{h:Int}(u:P.underlying t=á (.slice e))(k:∀w,(sizeOf e).run P w = .ok s w)
    (J:(evL L x,evL L V)=(á (.slice a o c),á (.int Y h))) (H:Nat) (b:h=H) (i:H<=c) (f:m=H-0) :
    Py P n L w ⟨d,.slice t x ç (á V) ç,E,p,I,g⟩ (.slice (slA a 0 c s) m (c-0)):=by
  have⟨l,j⟩:=pj2 J;rw[f];exact L8 u k l j H b i
theorem pZ{t:ì}{A:Option ô}{b c s:Nat}(u:P.underlying t=á (.slice e))(j:∀w,(sizeOf e).run P w = .ok s w)
    (k:evL L x=á (.slice A b c)) (i:evL L lo=á (.int k1 l)) (a:Nat) (f:l=a) (H:a<=b) (h:m=b-a) :
    Py P n L w ⟨d,.slice t x (á lo) ç ç,E,p,I,g⟩ (.slice (slA A a c s) m (c-a)):=by
  subst h;exact Cp u j k i a f H
end
theorem M9{b:Type}[Rp b]{w:ä}{u:List View}{Y:List (List b)}{g:List Nat}(h:(rows u Y g).φ w)(l:u.length=Y.length){s a c f}{y:List b}(H:own s w [.slice a y.length c] y f):
    (rows (u++[⟨a,y.length,c⟩]) (Y++[y]) (g++f)).φ w:=by
  show dg â w _ _ (g++f)
  rw[Û]
  have d:=h
  refine d.append ?_ (dg.one ?_)
  · simp[l,sz]
  · cases s
    · exact H
    · exact Rp.weak H
def inF (r:Option Nat):Fence:={ Fence.wide with round:=r }
def GoodD (d:List ů) (n:Nat) (a:Act) (L:Env):Prop:=Good n { a with defers:=[] } L/\a.defers=d
theorem GoodD.put{D n a L d v}(h:GoodD D n a L)(H:ò d n=ã):GoodD D n (a.put (á d) v) ((d,v)::L):=
  ⟨by have:=h.1.put H (v:=v);exact this,h.2⟩
theorem GoodD.weak{d n a L M}(h:GoodD d n a L)(H:sub L M):GoodD d n a M:=⟨h.1.weak H,h.2⟩
def Io (d:List ů) (n:Nat) (Q:Post):Exit->Act->ä->Prop
  | .panic _,_,_=>False
  | .outgrown,_,_=>False
  | e,a,w=>∃L,GoodD d n a L/\Q e L w
def WF (r:Option Nat) (d:List ů) (P:Æ) (n:Nat) (c:Code) (Q:Post) (L:Env) (w:ä):Prop:=
  ∀a,GoodD d n a L->c.wpIn (inF r) 3 P (Io d n Q) a w
def RF (r:Option Nat) (d:List ů) (P:Æ) (n:Nat) (o:Array ą) (Q:Post) (l:List ą) (L:Env) (w:ä):Prop:=
  ∀a,GoodD d n a L->wpListIn (inF r) 3 P o (Io d n Q) l a w
section
variable {f:List ů}{P:Æ}{w:ä}
theorem th{i l}(h:RF U f P n l.toArray Q l L w):WF U f P n (.region i l.toArray â) Q L w:=λa H=>wpIn_region_lit (h a H)
def Vi (r:Option Nat) (d:List ů) (P:Æ) (n:Nat) (c:Code) (Q:Post):Post
  | .normal,L,w=>WF r d P n c Q L w
  | e,L,w=>Q e L w
theorem QX{x y}(h:WF U f P n x (Vi U f P n y Q) L w):WF U f P n (.seq x y) Q L w:=λa c=>wpIn_seq <|
  Š (h a c) λe a w b=>by
    cases e<;>first|exact b|(obtain⟨L,H,q⟩:=b;first|exact q a H|exact⟨L,H,q⟩)
theorem JF{I c}(h:WF U f P n c (blk I Q) L w):WF U f P n (.block I c) Q L w:=λa j=>wpIn_block <|
  Š (h a j) λe a w d=>by
    cases e with
    | exit i=>
      obtain⟨L,g,H⟩:=d
      simp only[blk] at H
      simp only[Exit.inBlock]
      cases b:î i I with
      | true=>
        rw[b] at H
        rw[ae (Á b)]
        exact⟨L,g,H⟩
      | false=>
        rw[b] at H
        rw[ac (λe=>by subst e;simp at b)]
        exact⟨L,g,H⟩
    | _=>exact d
theorem U7{c}(h:WF ç [] P n c Q L w):W P n c Q L w:=λa H=>by
 refine(wpIn_wide).1 (Š (h a ⟨by cases a;have:=H.defers;simp only at this;subst this;exact H,H.defers⟩) λe a w b=>?_)
 cases e<;>first|exact b|(obtain⟨L,⟨g,d⟩,q⟩:=b;exact⟨L,by cases a;simp only at d;subst d;exact g,q⟩)
theorem yG(h:Q .normal L w):RF U f P n A Q [] L w:=λ_ H=>wpListIn_nil ⟨L,H,h⟩
theorem Sj{R}{r:Result Next}(e:Wn A n L o)(d:∀c,o.op ≠ .defer c)
    (b:∀a,Good n a L->(À a.eval o).run P w=r)
    (k:∀a,GoodD f n a L->∀K:Act->ä->Prop,(∀a w,wpListIn (inF U) 3 P A (Io f n Q) R a w->K a w)->o.uponIn (inF U) 3 P a K (Io f n Q) r):RF U f P n A Q (o::R) L w:=λa h=>wpListIn_step λK H=>by
  have g:=e { a with defers:=[] } h.1
  rw[ae g]
  refine⟨λ_ _=>trivial,?_⟩
  rw[Oper.semAt_eq _ _ _ d]
  have:=b { a with defers:=[] } h.1
  rw[show(À a.eval o).run P w=r from this]
  exact k a h K H
theorem iz{o rest d v}(hw:Wn A n L o)(hJ:(o.dst,ò d n)=(á d,ã))(hp:Py P n L w o v)
    (k:RF U f P n A Q rest ((d,v)::L) w) (hnd:∀c,o.op ≠ .defer c:=by intro c h;cases h):RF U f P n A Q (o::rest) L w:=
  have⟨hd,hn⟩:=pj2 hJ;Sj hw hnd hp λa ha K hK=>by
    rw[Oper.uponIn_value,hd]
    exact hK _ _ (k _ (ha.put hn))
theorem PZ{o rest d v w'}(hw:Wn A n L o)(hd:o.dst=á d)(hn:ò d n=ã)(hp:Pn P n L w o v w')
    (k:RF U f P n A Q rest ((d,v)::L) w') (hnd:∀c,o.op ≠ .defer c:=by intro c h;cases h):RF U f P n A Q (o::rest) L w:=
  Sj hw hnd hp λa ha K hK=>by
    rw[Oper.uponIn_value,hd]
    exact hK _ _ (k _ (ha.put hn))
theorem Vh{o rest w'}(hw:Wn A n L o)(hd:o.dst=ç)(hp:Pd P n L w o w')
    (k:RF U f P n A Q rest L w') (hnd:∀c,o.op ≠ .defer c:=by intro c h;cases h):RF U f P n A Q (o::rest) L w:=
  Sj hw hnd hp λa ha K hK=>by
    rw[Oper.uponIn_skip,hd]
    exact hK _ _ (k _ ha)
theorem Mq{t:List ą}{d:Tmp}{p:String}{l:Nat}{R:Ending->ä->Prop}
    (z:evL L x=á (.func (.yield l) #[] #[])) (C:evL L y=á u) (q:ò d n=ã)
    (j:YieldAt (inF ç) 2 P l #[u] w R) (k:∀e w',R e w'->∃v,e = .returned v/\RF ç f P n A Q t ((d,v)::L) w') :
    RF ç f P n A Q (⟨á d,.call ⟨.value x,#[y],a_⟩,E,p,I,ç⟩::t) L w:=by
  obtain⟨F,T,b,B,s,i⟩:=j
  refine Sj aB (by intro c h;cases h) (r := .ok (.round l F T b B) w) (λa H=>?_) λa H K g=>?_
  · simp[À,ũ,X_,Deferred.ofValue,H.eval z,H.eval C,s]
  · refine⟨λh=>(by cases h),i.mono λe w' m=>?_⟩
    obtain⟨v,rfl,o⟩:=k e w' m
    exact g _ _ (o _ (H.put q))
end
structure Ah (R:LoopState->Option Code->Loop) (fn:Ŕ) (tmps:Array è) (ps:Array Tmp) (assign body:Code):Prop where
  st:∀s p,(R s p).state=s
  pe:∀s p,(R s p).pending=p
  up:∀s p s' p',{ R s p with state:=s',pending:=p' }=R s' p'
  fn:∀s p,(R s p).fn=fn
  tmps:∀s p,(R s p).tmps=tmps
  ps:∀s p,(R s p).params=ps
  asg:∀s p,(R s p).assign=assign
  bo:∀s p,(R s p).body=body
section
variable {P:Æ}{W:ä}{R:LoopState->Option Code->Loop}{r:Ŕ}{f:Array è}{i p:Code}{t:Tmp}{l:Nat}
theorem I0(g:Ah R r f #[t] i p)(K:Good n { tmps:=f,defers:=[] } L)(S:ò t n=ã)(q:W.heap[l]? = á (.loop (R .ready ç))){L2:Env}{B:ä->Prop}
    (G:WF (á l) [] P n i (λe m j=>e = .normal/\j=W/\sub m L2) ((t,u)::L) W)
    (I:WF (á l) [] P n p (λe m j=>e = .normal/\j.heap[l]? = á (.loop (R .busy ç))/\B j) L2 (put W l (.loop (R .busy ç)))) :
    YieldAt (inF ç) 2 P l #[u] W λe j=>e = .returned (.bool ã)/\∃o,B o/\o.heap[l]? = á (.loop (R .busy ç))/\j=put o l (.loop (R .ready ç)):=by
  have y:=run_yield (P:=P) (args := #[u]) q (by rw[g.ps];rfl)
  rw[g.fn,g.tmps,g.ps,g.asg,g.bo] at y
  refine⟨r,_,i,p,y,?_⟩
  have N:GoodD [] n { tmps:=((#[t].zip #[u]).foldl (λf (t,a)=>f.setIfInBounds t a) f),defers:=[] } ((t,u)::L):=by
    refine⟨?_,rfl⟩
    have:=K.put S (v:=u)
    simpa[Act.put] using this
  refine roundIn_of_wpIn trivial ?_
  have T:=G _ N
  have D:∀ {c:Code}{Q:Exit->Act->ä->Prop}{a:Act}{w:ä},c.wpIn (inF (á l)) 3 P Q a w->c.wpIn _ 2 P Q a w:=λh b k C z A X=>h b k C z A (λd J=>by cases J)
  refine D (Š T λe a w H=>?_)
  cases e with
  | normal=>
    obtain⟨m,M,_,rfl,O⟩:=H
    refine⟨put w l _,?_,D (Š (I _ (M.weak O)) λe a U H=>?_)⟩
    · have:=run_beginRound (P:=P) q (g.st _ _)
      rw[this]
      have E:=g.up .ready ç .busy ç
      have x:({ R .ready ç with state := .busy }:Loop)=R .busy none:=by
        rw[<- E]
        have:=g.pe .ready ç
        cases h:R .ready ç;rw[h] at this;subst this;rfl
      rw[x];rfl
    · cases e with
      | normal=>
        obtain⟨V,_,_,s,F⟩:=H
        refine⟨_,_,run_endRound ç s,rfl,U,F,s,?_⟩
        congr 2
        exact g.up .busy ç .ready ç
      | panic _=>exact H
      | outgrown=>exact H
      | ret=>obtain⟨_,_,h,_⟩:=H;cases h
      | exit _=>obtain⟨_,_,h,_⟩:=H;cases h
      | goto _=>obtain⟨_,_,h,_⟩:=H;cases h
  | panic _=>exact H
  | outgrown=>exact H
  | ret=>obtain⟨_,_,h,_⟩:=H;cases h
  | exit _=>obtain⟨_,_,h,_⟩:=H;cases h
  | goto _=>obtain⟨_,_,h,_⟩:=H;cases h
end
section
variable {P:Æ}{w:ä}{Q:Exit->Act->ä->Prop}
theorem HY{g:Â}{t:Tmp}{assign body:Code}{G:Ŕ}{b:Func}{l:Array è}{a:Act}{K:ä->Prop}(c:GoodD [] n a L)(r:evL L g=á (.func (.func G) #[] l))
    (q:P.funcs[G]? = á b) (d:b.body.isNone=â) (m:(b.name == "runtime.NumGoroutine")=â)
    (o:∀(R:LoopState->Option Code->Loop) (fn:Ŕ),Ah R fn a.tmps #[t] assign body ->
      Ret P G (#[.func (.yield (w.heap.size+1)) #[] #[]]++l) ((w.alloc (.deferred (á []))).alloc (.loop (R .ready ç))) λ_ W=>
        W.heap[w.heap.size+1]? = á (.loop (R .ready ç))/\K (put W (w.heap.size+1) (.loop (R .exhausted ç))))
    (j:∀f,K f->Q .normal { a with defers:=[{ target := .collected w.heap.size,args := #[] }] } f) :
    (Code.rangeFunc g #[t] assign body).wpIn (inF ç) 3 P Q a w:=by
  refine wpIn_rangeFunc ?_
  intro fn _
  let R:LoopState->Option Code->Loop:=λS x=>{ state:=S,pending:=x,fn,tmps:=a.tmps,params := #[t],assign,body,defers:=w.heap.size }
  have H:Ah R fn a.tmps #[t] assign body:=⟨λ_ _=>rfl,λ_ _=>rfl,λ_ _ _ _=>rfl,λ_ _=>rfl,λ_ _=>rfl,λ_ _=>rfl,λ_ _=>rfl,λ_ _=>rfl⟩
  refine⟨w.heap.size+1,[{ target := .collected w.heap.size,args := #[] }],(w.alloc _).alloc _,{ target := .fn (.func G) l,args := #[.func (.yield (w.heap.size+1)) #[] #[]] },
    (w.alloc (.deferred (á []))).alloc (.loop (R .ready ç)),G,#[.func (.yield (w.heap.size+1)) #[] #[]]++l,(w.alloc (.deferred (á []))).alloc (.loop (R .ready ç)),run_enterLoop_outer _ _ _ _ _,?_,λ_ _=>trivial,?_,λh=>(by cases h),?_⟩
  · have:a.eval g = .func _ #[] l:=c.1.eval r
    simp[ũ,this]
    rfl
  · have k:¬ b.body=none:=λe=>by rw[e] at d;simp at d
    have u:¬ b.name = "runtime.NumGoroutine" := λe=>by rw[e] at m;simp at m
    simp[X_,callFunc,q,k,u]
  · refine callsIn_wide.2 (Calls.mono (o R fn H) λe W ⟨v,p,s,i⟩=>?_)
    subst p
    refine⟨ç,_,by have:=run_endLoop (P:=P) s (by rw[H.st];simp);exact this,?_⟩
    rw[c.2]
    exact j _ i
end
section
variable {P:Æ}{w:ä}{d:Option Tmp}{p:String}
theorem Rf{k:Ť}{i j:Int}(H:evL L x=á (.int k i))(b:evL L y=á (.int Y j)):
    Py P n L w ⟨d,.call ⟨.builtin .min,#[x,y],a_⟩,E,p,I,g⟩ (.int k (if j<i then j else i)):=λa h=>by
  simp[À,ũ,X_,builtin,h.eval H,h.eval b,run_min_int2]
theorem TE{k:Ť}{i j:Int}(H:evL L x=á (.int k i))(b:evL L y=á (.int Y j)):
    Py P n L w ⟨d,.call ⟨.builtin .max,#[x,y],a_⟩,E,p,I,g⟩ (.int k (if i<j then j else i)):=λa h=>by
  simp[À,ũ,X_,builtin,h.eval H,h.eval b,run_max_int2]
theorem qo{f:Ŕ}{X:Array Â}(hv:kX L X.toList=á H):
    Py P n L w ⟨d,.makeFunc (.func f) #[] X,E,p,I,g⟩ (.func (.func f) #[] H.toArray):=λa b=>by
  have m:X.map a.eval=H.toArray:=by
    have k:∀(l:List Â) (H:List è),kX L l=á H->l.map a.eval=H:=by
      intro l
      induction l with
      | nil=>intro H h;simp[kX] at h;simp[h]
      | cons x l i=>
        intro H h
        unfold kX at h
        split at h
        · rename_i v u hv s
          cases h
          simp[b.eval hv,i u s]
        · cases h
    have:=k _ _ hv
    apply e?.1
    simpa using this
  simp[À,Instr.makeFunc,m]
end
theorem Fp{P:Æ}{f:Ŕ}{F:Func}{c:Code}{w:ä}{R:è->ä->Prop}(k:P.funcs[f]? = á F)(g:F.body=á c)(q:F.ntmps=n)(p:ĭ H.length n=ã)
    (h:∀a,GoodD [] n a (wu 0 H)->c.wpIn (inF ç) 3 P (λe a w=>(e = .normal\/e = .ret)/\∃D L,GoodD [{ target := .collected D,args := #[] }] n a L/\w.heap[D]? = á (.deferred (á []))/\fin P F R .ret L (put w D (.deferred ç))) a w) :
    Ret P f H.toArray w R:=by
  have r:=ü p
  refine callsIn_wide.1 (callsIn_of_wp_marks (n:=3) k g trivial ?_)
  refine Š (h _ ⟨Good.start (by rw[q];simp;omega),rfl⟩) λe a w o=>?_
  obtain⟨j,D,L,⟨m,i⟩,b,l⟩:=o
  have K:LeavesInM Fence.wide 3 P F a.tmps (λe w'=>∃v,e = .returned v/\R v w') a.defers .returning w:=by
    rw[i]
    obtain⟨v,hv,d⟩:=l _ _ m
    exact⟨σ,.inl ⟨D,_,rfl,run_takeDeferred b,⟨_,hv,_,rfl,d⟩⟩⟩
  rcases j with rfl|rfl<;>exact K
section
variable {r:List ů}{P:Æ}{w:ä}{f:List ą}{d:Nat}{p:String}{h:Type}[Rp h]
theorem Us{t:ì}{v:è}(a:Wn A n L ⟨á d,.box t x,E,p,I,g⟩)(h:ò d n=ã)(c:evL L x=á v)(H:Sep M O N F w)
    (k:∀b w',Ext No w w'->w.heap.size<=b->Sep M O (N++[box b (.cells v.cells t)]) F w'->RF U r P n A Q f ((d,.pointer (á ⟨b,0,ç⟩))::L) w') :
    RF U r P n A Q (⟨á d,.box t x,E,p,I,g⟩::f) L w:=
  PZ a rfl h (N8 c) (k _ _ (Ext.refl.alloc _) (aN _) (H.alloc _))
theorem Tq{t:ì}{v:è}{s:Nat}(j:Wn A n L ⟨á d,.buildSlice t 1 #[(0,x)],E,p,I,g⟩)(a:ò d n=ã)(i:P.underlying t=á (.slice e))(T:Ty P e z s C)(c:ò 0 s=ã)
    (l:evL L x=á v) (h1:v.cells.size=s) (hsmall:ĭ s 16777216=ã) (H:Sep M O N F w)
    (k:∀b w',Ext No w w'->w.heap.size<=b->Sep M O (N++[box b (.cells v.cells.toList.toArray e)]) F w'->RF U r P n A Q f ((d,.slice (á ⟨b,0,ç⟩) 1 1)::L) w') :
    RF U r P n A Q (⟨á d,.buildSlice t 1 #[(0,x)],E,p,I,g⟩::f) L w:=by
  have h:=zr (n:=n) (w:=w) (C:=E) (p:=p) (D:=I) (g:=g) (d:=á d) (b:=1) i T (ü c) rfl (zF l) xg ω KE
  simp at h
  exact PZ j rfl a h (k _ _ (Ext.refl.alloc _) (aN _) (H.alloc _))
theorem Um{t:ì}{v:è}{X:List h}{T}{c:List è}{u:h}(K:Wn A n L ⟨á d,.call ⟨.builtin .append,#[x,y],#[t,t]⟩,E,p,I,g⟩)(D:ò d n=ã)
    (G:P.underlying t=á (.slice e)) (o:Ty P e z (sz h) C) (W:z.cells.size=sz h) (R:evL L x=á v) (S:evL L y=á (.slice (á ⟨b2,0,ç⟩) 1 c2))
    (H:Sep M O N F w) (i j:Nat) (s:N[i]? = á (A4 [v] X fp)) (B:N[j]? = á (box b2 (.cells c.toArray T))) (J:own ã w c u []) (m:X.length+1<=Ë) (q:(X.length+1)*C<=140737488355328)
    (k:∀V w' a,Sep M O (N.set i (A4 [V] (X++[u]) a)) F w'->RF U r P n A Q f ((d,V)::L) w') :
    RF U r P n A Q (⟨á d,.call ⟨.builtin .append,#[x,y],#[t,t]⟩,E,p,I,g⟩::f) L w:=by
  obtain⟨V,w',a,b,l⟩:=H.app1 i s G o W (At.whole (H.box j B)) J m q
  exact PZ K rfl D (pU R S b) (k _ _ _ l)
theorem Uq{t:ì}{o:Nat}{c:List è}{T v}(j:Wn A n L ⟨ç,.store t x y,E,p,I,g⟩)(s:∀w,(sizeOf t).run P w = .ok 1 w)(l:evL L x=á (.pointer (á ⟨b,o,ç⟩)))(m:evL L y=á v)(d:v.oneCell'=ã)
    (H:Sep M O N F w) (i:Nat) (a:N[i]? = á (box b (.cells c.toArray T))) (e:ò o c.length=ã)
    (k:∀w',Ext (· = b) w w'->Sep M O (N.set i (box b (.cells (c.set o v).toArray T))) F w'->RF U r P n A Q f L w') :
    RF U r P n A Q (⟨ç,.store t x y,E,p,I,g⟩::f) L w:=by
  have h:=k _ (Ext.refl.put (.inl rfl)) (H.put i _ a)
  rw[<- Z?] at h
  exact Vh j rfl (jM s l m d (H.box i a) (by rw[ĵ];exact ü e)) h
theorem KX{x y:Code}{Q:Exit->Act->ä->Prop}{a:Act}(c:GoodD r n a L)(h:WF U r P n x (λe l w'=>e = .normal/\B l w') L w)
    (k:∀A l w',GoodD r n A l->B l w'->y.wpIn (inF U) 3 P Q A w'):(Code.seq x y).wpIn (inF U) 3 P Q a w:=
  wpIn_seq (Š (h a c) λe A w' H=>by
    cases e with
    | normal=>obtain⟨l,g,_,b⟩:=H;exact k A l w' g b
    | panic _=>exact H.elim
    | outgrown=>exact H.elim
    | ret=>obtain⟨_,_,h,_⟩:=H;cases h
    | exit _=>obtain⟨_,_,h,_⟩:=H;cases h
    | goto _=>obtain⟨_,_,h,_⟩:=H;cases h)
end
def ny (A:Option ô) (m q:Nat):List View:=(õ q).map λi=>⟨slA A (i*m) (i*m+m) 1,m,m⟩
def chunks {a:Type}(x:List a) (m q:Nat):List (List a):=(õ q).map λi=>cut x (i*m) (i*m+m)
theorem w8{A m q}:(ny A m q).length=q:=by simp[ny]
theorem fJ{a:Type}{x:List a}{m q}:(chunks x m q).length=q:=by simp[chunks]
theorem IW{A m q i}(h:i<q):(ny A m q).take i++[⟨slA A (i*m) (i*m+m) 1,m,m⟩]=(ny A m q).take (i+1):=by
  rw[List.take_add_one]
  simp[ny,h]
theorem m8{a:Type}{x:List a}{m q i}(h:i<q):(chunks x m q).getD i []=cut x (i*m) (i*m+m):=by
  simp[chunks,h]
theorem uI{i q:Nat}(H:n=q*m)(h:i<q):i*m+m<=n:=by
  rw[H,<- Ō];exact Å _ h
theorem KO{s w n c}{A:Option ô}{F}(h:own s w [.slice A n c] D F){q:Nat}(r:1<=m)(u:D.length=q*m)(o:q*m<=c):
    ∃f,dg â w ((ny A m q).map View.val) (chunks D m q) f/\∀b∈f,b∈F:=by
  have K:∀k,k<=q->∃f,dg â w (((õ k).map λi=>(⟨slA A (i*m) (i*m+m) 1,m,m⟩:View)).map View.val) ((õ k).map λi=>cut D (i*m) (i*m+m)) f/\∀b∈f,b∈F:=by
    intro k
    induction k with
    | zero=>intro _;exact⟨[],by simp[dg],σ⟩
    | succ k I=>
      intro p
      obtain⟨f,d,j⟩:=I ω
      have l:=uI (m:=m) rfl (show k<q by omega)
      obtain⟨g,a,t⟩:=FT h (k*m) _ (k*m+m) ω ω (aN _) ω
      refine⟨f++g,?_,λb H=>by rcases aI.1 H with H|H;exact j b H;exact t b H⟩
      rw[č,Û,Û,Û]
      refine d.append (by simp[sz]) (dg.one ?_)
      have e:k*m+m-k*m=m:=by omega
      rw[e] at a
      exact a
  exact K q (aN _)
structure Pl (P:Æ) (t:ì) (zs:List è) (pl:List (Nat × Nat)):Prop where
  h : (match P.info? t,P.underlying t with
    | some it,á (.struct fields)=>(it.zero,fields.toList.mapM (λf=>(P.info? f.type).map λi=>(f.offset,i.size)))
    | _,_=>(ç,ç))=(á (.agg zs.toArray),á pl)
def IK (p:List (Nat × Nat)):List è->List (Nat × è)->Option (List è)
  | z,[]=>á z
  | z,(i,v)::J=>match p[i]? with
    | none=>ç
    | some (o,s)=>match î v.cells.toList.length s && ĭ (o+s) z.length with
      | true=>IK p (FO z o v.cells.toList) J
      | false=>ç
theorem Fq:∀(H:List è) (z:Array è) (o k:Nat),(H.zipIdx k).foldl (λ(c:Array è) (x:è × Nat)=>c.setIfInBounds (o+x.2) x.1) z=lay z (o+k) H
  | [],z,o,k=>rfl
  | v::H,z,o,k=>by
    rw[List.zipIdx_cons,List.foldl_cons,Fq H]
    rfl
theorem Dt(p:List (Nat × Nat)):∀(P:List (Nat × è)) (z c:List è),IK p z P=á c->Instr.fill (p.toArray[·]?) z.toArray P=á c.toArray
  | [],z,c,h=>by simp[IK] at h;simp[Instr.fill,h]
  | (i,v)::J,z,c,h=>by
    unfold IK at h
    cases a:p[i]? with
    | none=>simp[a] at h
    | some q=>
      obtain⟨o,s⟩:=q
      simp only[a] at h
      split at h
      · rename_i H
        simp only[aP] at H
        have b:=Á H.1
        have d:=ü H.2
        have f:=Dt p J _ _ h
        have j:v.cells.size=s:=by simpa using b
        unfold Instr.fill
        have g:p.toArray[i]? = á (o,s):=by simpa using a
        simp only[g]
        rw[ac xw]
        have e:Array.foldl (λ(c:Array è) (x:è × Nat)=>c.setIfInBounds (o+x.2) x.1) z.toArray v.cells.zipIdx=(FO z o v.cells.toList).toArray:=by
          rw[<- Array.foldl_toList,Array.toList_zipIdx]
          have:=Fq v.cells.toList z.toArray o 0
          rw[this]
          exact DP (by rw[b];exact d)
        rw[<- f,<- e]
      · cases h
section
variable {P:Æ}{w:ä}{d:Option Tmp}{p:String}
theorem bM{t:ì}{s:Array (Nat × Â)}{z c:List è}{f:List (Nat × Nat)}(b:Pl P t z f)(hv:kX L (s.toList.map (·.2))=á H)
    (o:IK f z ((s.toList.map (·.1)).zip H)=á c):Py P n L w ⟨d,.build t s,E,p,I,g⟩ (.agg c.toArray):=Qu λa m=>by
  have K:∀(l:List (Nat × Â)) (H:List è),kX L (l.map (·.2))=á H->l.map (λx=>(x.1,a.eval x.2))=(l.map (·.1)).zip H:=by
    intro l
    induction l with
    | nil=>intro H h;rfl
    | cons x l r=>
      intro H h
      simp at h ⊢
      unfold kX at h
      split at h
      · rename_i v U hv q
        cases h
        rw[List.zip_cons_cons,<- r U q,m.eval hv]
      · cases h
  have e:(s.map λ(i,x)=>(i,a.eval x)).toList=(s.toList.map (·.1)).zip H:=by
    rw[Array.toList_map]
    exact K _ _ hv
  rw[e]
  obtain⟨b⟩:=b
  unfold Program.built
  cases V:P.info? t with
  | none=>simp[V] at b
  | some y=>
    cases u:P.underlying t with
    | none=>simp[u] at b
    | some T=>
      cases T<;>simp only[V,u,ú,reduceCtorEq,and_false] at b
      obtain⟨j,k⟩:=b
      simp only[j,k]
      exact Dt _ _ _ _ o
end
end Go.Wk
