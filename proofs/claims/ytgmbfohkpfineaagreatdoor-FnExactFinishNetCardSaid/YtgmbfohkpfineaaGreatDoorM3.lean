/- Part 3 of the proof: 40 texts, one behind the other. -/
import Derived.Lib.Overlaps
import Derived.Lib.AppendZerosOnto
import Derived.Laws.IdiomCopy
import Derived.Lib.ItoaNum
import Derived.Lib.Bytealg
import Derived.Test.YtgmbfohkpfineaaGreatDoorShelf
import Derived.Lib.Strings
import Derived.Lib.LaidTab
import Derived.Lib.ItoaMem
import Derived.Lib.SliceRun
import Derived.ArgAppend
import Derived.Test.YtgmbfohkpfineaaGreatDoorM2
set_option maxRecDepth 100000
set_option maxHeartbeats 8000000
set_option linter.all false
set_option linter.unusedVariables false
set_option linter.unusedSimpArgs false
namespace Go.Proofs.YtgmbfohkpfineaaGreatDoor
open Go.RowKit
theorem hsub_refl:∀(H:List Pc),HSub H H
 | []=>.nil
 | _::R=>.cons .here (hsub_refl R)
theorem Flat.all {α:Type} {E:Elem α} {w:World} {cs:List Value} {xs:List α} (h:Flat E w cs xs []) (w':World):Flat E w' cs xs []:=h.frame (by simp)
theorem Flat.cutL {α:Type} {E:Elem α} {w:World} {cs:List Value} {xs:List α} (h:Flat E w cs xs []) (i:Nat) (hi:i≤xs.length):Flat E w (cs.take (i * E.sz)) (xs.take i) []∧Flat E w (cs.drop (i * E.sz)) (xs.drop i) []:=by
 rw [←List.take_append_drop i xs] at h
 obtain ⟨c1,c2,G1,G2,rfl,hG,h1,h2⟩:=h.split
 obtain ⟨rfl,rfl⟩:=List.append_eq_nil_iff.1 hG.symm
 have hl:=h1.len
 rw [List.length_take,Nat.min_eq_left hi] at hl
 rw [List.take_left' hl,List.drop_left' hl]
 exact ⟨h1,h2⟩
theorem Flat.insL {α:Type} {E:Elem α} {w:World} {cs c1:List Value} {xs:List α} {x:α} (h:Flat E w cs xs []) (h1:Flat E w c1 [x] []) (i:Nat) (hi:i≤xs.length):Flat E w (cs.take (i * E.sz)++c1++cs.drop (i * E.sz)) (xs.take i++x::xs.drop i) []:=by
 obtain ⟨ha,hb⟩:=h.cutL i hi
 have:=(ha.append h1).append hb
 simpa using this
section
variable {P:Program} {n:Nat} {fr:Fr} {H:List Pc} {ty:TypeId} {x y z:Operand}
theorem yd_slv {t e m i g o len cp:Nat} {kd:IntKind} {q:Int} [hS:SlC P t e m] (hx:ev fr x=some (.slice (some ⟨g,o,none⟩) len cp)) (hy:ev fr y=some (.int kd q)) (hq:q=(i:Int)) (hi:i≤len) (hc:i < cp) (hlc:len≤cp):Yd P n fr H (.slice t x (some y) none none) ty (.slice (some ⟨g,o+i * m,none⟩) (len - i) (cp - i)):=.mk fun ac w d pos aft gd hA _=>by
 subst hq
 have he2:P.elem t=e:=by simp [Program.elem,hS.u]
 have h3:(Instr.sliceAt t (.slice (some ⟨g,o,none⟩) len cp) (some (.int kd (i:Int))) none none).run P w=.ok (.slice (some ⟨g,o+i * m,none⟩) (len - i) (cp - i)) w:=by
  rw [run_sliceAt_slice (h:=by rw [he2];exact hS.u),run_slice_l (ht:=by rw [he2];exact hS.u) (h0:=by omega) (h1:=by omega),he2,size_of hS.s]
  have h0:¬(cp - i=0):=by omega
  have h0':¬(cp=i):=by omega
  simp [Result.andThen,sliced,h0,h0',Addr.add_lit]
 simp only [execOp,Option.map_none,Option.map_some,hA.ev hx,hA.ev hy,Sem.run_bind,h3,Result.andThen_ok,Sem.run_pure]
theorem yd_cvu {k:IntKind} {a:Int} {s t:TypeId} [hS:IntC P s k] [hD:IntC P t .u64] (hx:ev fr x=some (.int k a)) (h0:0≤a) (h1:a≤18446744073709551615):Yd P n fr H (.convert s t x) ty (.int .u64 a):=.mk fun c w d pos aft gd hA _=>by
 simp [execOp,hA.ev hx,convert,run_underlying hS.u,run_underlying hD.u,Conv.intToInt,IntWalk.u64_in _ ⟨h0,h1⟩]
theorem yd_shr1 {a:Int} {t t':TypeId} (hx:ev fr x=some (.int .u64 a)):Yd P n fr H (.binOp .shr t x (.const (.int .u64 1)) t') ty (.int .u64 (a / 2)):=.mk fun c w d pos aft gd hA _=>by
 have e:Op.shift .shr .u64 a .u64 1=pure (.int .u64 (a / 2)):=by rw [shift_shr .u64 .u64 a 1 (by decide) (by decide)];rfl
 have e2:binOp .shr t (.int .u64 a) (.int .u64 1)=Op.shift .shr .u64 a .u64 1:=rfl
 have e3:c.eval (.const (.int .u64 1))=.int .u64 1:=rfl
 simp only [execOp,hA.ev hx,e3,eqGuard_shr,e2,e,Sem.run_bind,Sem.run_pure,Result.andThen_ok]
theorem yd_cap {a:Option Addr} {len cp t e m:Nat} [hS:SlC P t e m] (hx:ev fr x=some (.slice a len cp)):Yd P n fr H (.call { callee:=.builtin .cap,args:=#[x],argTypes:=#[t] }) ty (.int .i64 cp):=.mk fun ac w d pos aft gd hA _=>by
 simp [execOp,hA.ev hx,resolve,invoke,builtin,Builtin.cap_,run_underlying hS.u,goInt]
end
section
variable {c:Cx} {fr:Fr} {H k':List Pc} {k:List It} {Φ:Gl} {d:Nat} {o:Op} {ty:TypeId} {v u:Value} {x y:Operand}
theorem t_rowof {α:Type} {E:Elem α} (sc:Scal E) {t n cp:Nat} {a:Option Addr} {xs:List α} {F:List Nat} {S:List Pc} (h0:xs≠[])
  (h:∀g cs rest,a=some ⟨g,0,none⟩→n=xs.length→xs.length≤cp→cp≤9223372036854775807→cs.length=xs.length * E.sz→cs.length+rest.length=cp * E.sz→(∀w,Flat E w cs xs [])→T c fr (.row g t 0 [] (cs++rest) []::S) Φ)
  (hp:Pick H (.ow E t (.slice a n cp) xs F) S:=by (repeat (first|exact .here|apply Pick.there));first|done|fail):T c fr H Φ:=.mk fun ac w s g'=>by
 have s1:=s.pick hp
 obtain ⟨hnd,ho⟩:=s1.on (.ow E t (.slice a n cp) xs F) (by simp)
 have hF:=ho.scal sc
 rcases ho with ⟨-,h2, -⟩|⟨g,cap,cs,rest,G,h1,h2,h3,h4,h5,h6,h7⟩
 ·exact absurd h2 h0
 ·cases h1
  have hG:G=[]:=by rw [h7] at hF;simpa [Value.ownBlock] using hF
  subst hG h7
  have hl:=h6.len
  refine (h g cs rest rfl rfl h3 (by unfold maxLen at h4;omega) hl h5 (fun w'=>h6.all w')).h ac w (s1.conv rfl ⟨rfl,by simpa using h2⟩ (by simp [Pc.F])) g'
theorem t_owof {α:Type} {E:Elem α} {t g:Nat} {L cs rest:List Value} {xs:List α} {S:List Pc} (cp:Nat) (hL:L=cs++rest) (hf:∀w,Flat E w cs xs []) (h1:xs.length≤cp) (h2:cp≤9223372036854775807) (h3:L.length=cp * E.sz)
  (h:T c fr (.ow E t (.slice (some ⟨g,0,none⟩) xs.length cp) xs [g]::S) Φ) (hp:Pick H (.row g t 0 [] L []) S:=by (repeat (first|exact .here|apply Pick.there));first|done|fail):T c fr H Φ:=.mk fun ac w s g'=>by
 subst hL
 have s1:=s.pick hp
 have hr:=(s1.on (.row g t 0 [] (cs++rest) []) (by simp)).2
 exact h.h ac w (s1.conv rfl ⟨by simp,.inr ⟨g,cp,cs,rest,[],rfl,by simpa using hr,h1,by unfold maxLen;omega,by simpa using h3,hf w,rfl⟩⟩ (by simp [Pc.F])) g'
theorem o_ext {f:Nat} {aS:List Operand} {ts:Array TypeId} {vs:List Value} (hd:Nat.blt d c.n=true) (ha:Evs fr aS vs) (hv:∀w,St c.G c.D c.w0 H w→(callFunc f vs.toArray).run c.P w=.ok (.value v) w) (h:T c ((d,v)::fr) H Φ):On c fr H (some d) (.call { callee:=.value (.func f),args:=aS.toArray,argTypes:=ts }) ty Φ:=⟨fun _ _ _=>ef_of fun Q a w s g=>by
 have e:∀pos aft gd,(execOp a.eval ⟨some d,.call { callee:=.value (.func f),args:=aS.toArray,argTypes:=ts },ty,pos,aft,gd⟩).run c.P w=.ok (.value v) w:=by
  intro pos aft gd
  simp [execOp,resolve,Deferred.ofValue,Act.eval,invoke,g.evs ha,hv w s]
 rw [e]
 exact h.h _ _ s (g.put hd)⟩
theorem shape_row {w:World} {g:Nat} {t:TypeId} {cs:List Value} (h:Row w g t cs):w.shape? g=some (t,cs.length):=by
 unfold World.shape?;rw [show w.heap[g]?=_ from h];simp
theorem ovl {f:Nat} {tS tR e m:Nat} [hS:SlC c.P tS e m] {g o g2 o2 la ca lb cb t1 t2:Nat} {L L2:List Value}
  (he:∀(args:Array Value) (w:World),(callFunc f args).run c.P w=((Extern.SlicesOverlaps.overlaps #[tS,tS] #[tR] args).run c.P w).andThen fun v w=>.ok (.value v) w)
  (h1:Pick H (.row g t1 0 [] L []) k') (h2:.row g2 t2 0 [] L2 []∈k') (hL:L2≠[]) (w:World) (s:St c.G c.D c.w0 H w) :
  (callFunc f [Value.slice (some ⟨g,o,none⟩) la ca,.slice (some ⟨g2,o2,none⟩) lb cb].toArray).run c.P w=.ok (.value (.bool false)) w:=by
 have s1:=s.pick h1
 have r1:=(s1.on (.row g t1 0 [] L []) (by simp)).2
 have r2:=(s1.on (.row g2 t2 0 [] L2 []) (by simp [h2])).2
 have hne:g≠g2:=fun e'=>s1.sep.1 (.row g2 t2 0 [] L2 []) h2 (by simp [Pc.mu]) g (by simp [Pc.F]) (by simp [Pc.F,e'])
 simp only [List.nil_append,List.append_nil] at r1 r2
 rw [he,Lib.run_overlaps_apart w tS tR e hS.u m (fun w=>size_of hS.s w) ⟨g,o,none⟩ ⟨g2,o2,none⟩ la ca lb cb hne t1 t2 L.length L2.length (shape_row r1) (shape_row r2) (by simpa using hL) (r1.frozen _) (r1.frozen _)]
 rfl
theorem cpyM {P M Q d L:List Value} {o:Nat} (hL:L=P++M++Q) (ho:o=P.length) (hd:M.length=d.length):P++d++Q=L.take o++d++L.drop (o+d.length):=by
 subst hL ho
 rw [List.append_assoc P M Q,List.take_left,←hd,←List.append_assoc,←List.length_append,List.drop_left]
theorem shiftL {B R:List Value} (m:Nat) (h:m≤R.length):∃X Y,B++R=X++Y++R.drop m∧X.length=m∧Y.length=B.length:=by
 refine ⟨(B++R).take m,((B++R).drop m).take B.length,?_,by simp;omega,by simp;omega⟩
 have:R.drop m=((B++R).drop m).drop B.length:=by rw [List.drop_drop,Nat.add_comm,←List.drop_drop,List.drop_left]
 rw [this,List.append_assoc,List.take_append_drop,List.take_append_drop]
theorem src_row {g t o m:Nat} {L cs:List Value} (h1:.row g t 0 [] L []∈H) (hc:cs=(L.drop o).take m) (w:World) (s:St c.G c.D c.w0 H w):∀j u,cs[j]?=some u→w.cell? ((⟨g,o,none⟩:Addr).add j)=some u:=fun j u hu=>by
 subst hc
 have r1:=(s.on (.row g t 0 [] L []) h1).2
 simp only [List.nil_append,List.append_nil] at r1
 rw [Addr.add_lit,r1.cell]
 rw [List.getElem?_take] at hu
 split at hu
 ·rw [List.getElem?_drop] at hu;exact hu
 ·cases hu
theorem run_copyN {P:Program} (w:World) (dT sT ty elem m:TypeId) (b o dLen dCap:Nat) (a:Addr) (sLen sCap:Nat) (cs:List Value)
  (hu:P.underlying dT=some (.slice elem)) (hs:(P.info? elem).map (·.size)=some m) (hn:cs.length=Nat.min sLen dLen * m)
  (hsrc:∀j v,cs[j]?=some v→w.cell? (a.add j)=some v) (hc:∀j,j < cs.length→(w.cell? ⟨b,o+j,none⟩).isSome=true) (hf:∀j,j < cs.length→w.frozen? ⟨b,o+j,none⟩=false) (h1:∀v∈cs,v.oneCell'=true) :
  (Builtin.copy_ #[dT,sT] ty #[.slice (some ⟨b,o,none⟩) dLen dCap,.slice (some a) sLen sCap]).run P w=.ok (goInt (Nat.min sLen dLen:Nat)) (w.setCells b o cs):=by
 have hl:=run_loadCells_list (P:=P) w a cs hsrc
 have hst:=run_storeCells_cells (P:=P) b o cs 0 w (by simpa using hc) (by simpa using hf) h1
 cases hq:P.info? elem with
 | none=>simp [hq] at hs
 | some i =>
  have hi:i.size=m:=by simpa [hq] using hs
  simp [Builtin.copy_,run_underlying hu,Builtin.lenOf,Builtin.firstCells,sizeOf,typeInfo,hq,hi,←hn,hl,hst]
theorem o_cpy {dT sT e m g t oo dn dc sn sc:Nat} {ad:Addr} {L L' cs:List Value} {S:List Pc} [hS:SlC c.P dT e m] (hd:Nat.blt d c.n=true) (hx:ev fr x=some (.slice (some ⟨g,oo,none⟩) dn dc)) (hy:ev fr y=some (.slice (some ad) sn sc))
  (hsrc:∀w,St c.G c.D c.w0 H w→∀j u,cs[j]?=some u→w.cell? (ad.add j)=some u) (hr:Rpl H (.row g t 0 [] L []) (.row g t 0 [] L' []) S)
  (hL:L'=L.take oo++cs++L.drop (oo+cs.length)) (hn:cs.length=Nat.min sn dn * m) (hfit:oo+cs.length≤L.length) (h1:∀v∈cs,v.oneCell'=true) (h:T c ((d,.int .i64 (Nat.min sn dn:Nat))::fr) S Φ) :
  On c fr H (some d) (.call { callee:=.builtin .copy,args:=#[x,y],argTypes:=#[dT,sT] }) ty Φ:=⟨fun _ _ _=>ef_of fun Q a w s ag=>by
 have hP:(Pc.row g t 0 [] L []).P w:=by obtain ⟨R,h1,_⟩:=hr.picks;exact s.on _ h1.mem
 have r1:=hP.2
 simp only [List.nil_append,List.append_nil] at r1
 have hrun:=fun ty=>run_copyN (P:=c.P) w dT sT ty e m g oo dn dc ad sn sc cs hS.u hS.s hn (hsrc w s) (fun j hj=>by rw [r1.cell,List.getElem?_eq_getElem (by omega)];rfl) (fun j hj=>r1.frozen _) h1
 have e1:∀pos aft gd,(execOp a.eval ⟨some d,.call { callee:=.builtin .copy,args:=#[x,y],argTypes:=#[dT,sT] },ty,pos,aft,gd⟩).run c.P w=.ok (.value (goInt (Nat.min sn dn:Nat))) (w.setCells g oo cs):=by
  intro pos aft gd
  simp only [execOp,resolve,invoke,builtin,Sem.run_bind,Sem.run_pure,Result.andThen_ok,List.map_toArray,List.map_cons,List.map_nil,ag.ev hx,ag.ev hy,hrun]
 rw [e1]
 have hsplit:L=L.take oo++(L.drop oo).take cs.length++L.drop (oo+cs.length):=by
  rw [←List.drop_drop,List.append_assoc,List.take_append_drop,List.take_append_drop]
 have r2:=r1
 rw [hsplit] at r2
 have r3:=Row.put cs _ r2 (p:=oo) (by simp;omega) (by simp;omega)
 have hk:=putCells_keep (g:=g) cs w oo
 rw [putCells_eq w g cs w] at r3 hk
 rw [←hL] at r3
 refine h.h _ _ (s.rpl hr rfl (fun b hb=>.inl hb) hk ⟨rfl,by simpa using r3⟩) (ag.put hd)⟩
theorem o_apgz {t tn e m b g oo n cp k:Nat} {zv:Value} {olds:List Value} {q:Int} [hS:SlC c.P t e m] [hE:ElT c.P e zv m b] [hI:IntC c.P tn .i64] (hd:Nat.blt d c.n=true) (hx:ev fr x=some (.slice (some ⟨g,oo,none⟩) n cp)) (hy:ev fr y=some (.int .i64 q)) (hq:q=(k:Int))
  (hso:∀w,St c.G c.D c.w0 H w→∀j u,olds[j]?=some u→w.cell? ((⟨g,oo,none⟩:Addr).add j)=some u)
  (hlo:olds.length=n * m) (hm:0 < m) (hk:0 < k) (hg:cp < n+k) (h63:n+k≤4294967296) (hby:(n+k) * b≤140737488355328)
  (h:∀g' cp' Z rest,n+k≤cp'→cp'≤9223372036854775807→Z.length=k * m→(olds++Z++rest).length=cp' * m→T c ((d,.slice (some ⟨g',0,none⟩) ((n+k:Nat)) cp')::fr) (.row g' e 0 [] (olds++Z++rest) []::H) Φ) :
  On c fr H (some d) (.call { callee:=.builtin .append,args:=#[x,y],argTypes:=#[t,tn] }) ty Φ:=⟨fun _ _ _=>ef_of fun Q a w s ag=>by
 subst hq
 obtain ⟨i,hi,hiz⟩:=Option.map_eq_some_iff.1 hE.i
 simp only [Prod.mk.injEq] at hiz
 obtain ⟨i1,i2,i3⟩:=hiz
 subst i2 i3
 have hold:(Builtin.firstCells i.size n (.slice (some ⟨g,oo,none⟩) n cp)).run c.P w.drew=.ok olds.toArray w.drew:=run_firstCells_some w.drew i.size n ⟨g,oo,none⟩ n cp olds hlo (fun j v hj=>hso w s j v hj)
 have hr:=fun ty=>Lib.run_append_grow_zeros (P:=c.P) w t tn ty e i zv .i64 .i64 hS.u hI.u hi i1 (some ⟨g,oo,none⟩) n cp olds hold k hk hm hg (by omega) (Nat.le_trans (Nat.mul_le_mul_right _ (by omega)) (Nat.le_trans hby (by decide))) (growslice_fits hg hby)
 have e1:∀pos aft gd,(execOp a.eval ⟨some d,.call { callee:=.builtin .append,args:=#[x,y],argTypes:=#[t,tn] },ty,pos,aft,gd⟩).run c.P w=.ok (.value (.slice (some ⟨w.heap.size,0,none⟩) (n+k) (grownCap w (n+k) cp e))) (w.drew.alloc (.cells (olds.toArray++Builtin.zeroCells zv.cells k++Builtin.zeroCells zv.cells (grownCap w (n+k) cp e - (n+k))) e)):=by
  intro pos aft gd
  simp only [execOp,resolve,invoke,builtin,Sem.run_bind,Sem.run_pure,Result.andThen_ok,List.map_toArray,List.map_cons,List.map_nil,ag.ev hx,ag.ev hy,hr]
 rw [e1]
 have hge:=grownCap_ge w (n+k) cp e
 have hle:=grownCap_le_maxLen w (n+k) cp e (by unfold maxLen;omega)
 have hBel:Below w.heap.size w (w.drew.alloc (.cells (olds.toArray++Builtin.zeroCells zv.cells k++Builtin.zeroCells zv.cells (grownCap w (n+k) cp e - (n+k))) e)):=(belowDrewN (Below.refl w.heap.size w) 1).alloc (Nat.le_refl _) _
 have hz:∀q,(Builtin.zeroCells zv.cells q).toList.length=q * i.size:=fun q=>by rw [zeroCells_len,hE.s]
 refine (h w.heap.size (grownCap w (n+k) cp e) (Builtin.zeroCells zv.cells k).toList (Builtin.zeroCells zv.cells (grownCap w (n+k) cp e - (n+k))).toList hge (by unfold maxLen at hle;omega) (hz k) ?_).h _ _ (s.add (N:=[.row w.heap.size e 0 [] (olds++(Builtin.zeroCells zv.cells k).toList++(Builtin.zeroCells zv.cells (grownCap w (n+k) cp e - (n+k))).toList) []]) hBel ?_ ⟨by simp,trivial⟩ ?_) (ag.put hd)
 ·rw [List.length_append,List.length_append,hz,hz,hlo,←Nat.add_mul,←Nat.add_mul];congr 1;omega
 ·intro p hp
  rw [List.mem_singleton] at hp;subst hp
  refine ⟨rfl,?_⟩
  have:=Row.made w.drew e (olds++(Builtin.zeroCells zv.cells k).toList++(Builtin.zeroCells zv.cells (grownCap w (n+k) cp e - (n+k))).toList)
  rw [List.nil_append,List.append_nil]
  have e2:(olds++(Builtin.zeroCells zv.cells k).toList++(Builtin.zeroCells zv.cells (grownCap w (n+k) cp e - (n+k))).toList).toArray=olds.toArray++Builtin.zeroCells zv.cells k++Builtin.zeroCells zv.cells (grownCap w (n+k) cp e - (n+k)):=by apply Array.ext';simp
  rw [e2] at this
  exact this
 ·intro p hp b hb
  rw [List.mem_singleton] at hp;subst hp
  simp [Pc.F] at hb;subst hb
  exact .inl (Nat.le_refl _)⟩
theorem o_slany {t e m n cp i:Nat} {a:Option Addr} {q:Int} [hS:SlC c.P t e m] (hd:Nat.blt d c.n=true) (hx:ev fr x=some (.slice a n cp)) (hy:ev fr y=some (.int .i64 q)) (hq:q=(i:Int)) (hi:i≤n) (h:∀v,T c ((d,v)::fr) H Φ) (hlc:n≤cp:=by omega):On c fr H (some d) (.slice t x (some y) none none) ty Φ:=⟨fun _ _ _=>ef_of fun Q ac w s g=>by
 subst hq
 have he2:=elem_of hS
 obtain ⟨v,h3⟩:∃v,(Instr.sliceAt t (.slice a n cp) (some (.int .i64 (i:Int))) none none).run c.P w=.ok v w:=by
  rw [run_sliceAt_slice (h:=by rw [he2];exact hS.u),run_slice_l (ht:=by rw [he2];exact hS.u) (h0:=by omega) (h1:=by omega),he2,size_of hS.s]
  exact ⟨_,rfl⟩
 have e1:∀pos aft gd,(execOp ac.eval ⟨some d,.slice t x (some y) none none,ty,pos,aft,gd⟩).run c.P w=.ok (.value v) w:=by
  intro pos aft gd
  simp only [execOp,Option.map_none,Option.map_some,g.ev hx,g.ev hy,Sem.run_bind,h3,Result.andThen_ok,Sem.run_pure]
 rw [e1]
 exact (h v).h _ w s (g.put hd)⟩
end
section
variable {P:Program} {n:Nat} {fr:Fr} {H:List Pc} {ty:TypeId}
theorem yd_fnb {f:Nat} {bs caps:List Operand} {us vs:List Value} (hb:Evs fr bs us) (hc:Evs fr caps vs):Yd P n fr H (.makeFunc (.func f) bs.toArray caps.toArray) ty (.func (.func f) us.toArray vs.toArray):=.mk fun c w d pos aft gd hA _=>by
 simp [execOp,Instr.makeFunc,hA.evs hb,hA.evs hc]
end
section
variable {c:Cx} {fr:Fr} {H:List Pc} {k:List It} {Φ:Gl} {d:Nat} {ty:TypeId} {x:Operand}
theorem o_callb {fo:Operand} {f:Nat} {bd caps:List Value} {aS:List Operand} {ts:Array TypeId} {vs:List Value} (hd:Nat.blt d c.n=true) (hf:ev fr fo=some (.func (.func f) bd.toArray caps.toArray)) (hb:bodyB c.P f=true) (ha:Evs fr aS vs) (h:Cl c fr H d f (bd++vs++caps) Φ):On c fr H (some d) (.call { callee:=.value fo,args:=aS.toArray,argTypes:=ts }) ty Φ:=⟨fun _ _ _=>ef_of fun Q a w s g=>by
 have e:∀pos aft gd,(execOp a.eval ⟨some d,.call { callee:=.value fo,args:=aS.toArray,argTypes:=ts },ty,pos,aft,gd⟩).run c.P w=(callFunc f (bd++vs++caps).toArray).run c.P w:=by
  intro pos aft gd
  simp [execOp,resolve,Deferred.ofValue,g.ev hf,invoke,g.evs ha]
 rw [e]
 obtain ⟨R,hc,hk⟩:=h.h w s
 refine (body_of hb).upon hc fun e w' hR=>?_
 obtain ⟨v,he,hv⟩:=hk e w' hR
 exact ⟨v,he,hv _ (g.put hd)⟩⟩
theorem t_head {α:Type} {E:Elem α} (sc:Scal E) {t n cp:Nat} {a:Option Addr} {xs:List α} {F:List Nat} (h0:xs≠[])
  (h:∀g,a=some ⟨g,0,none⟩→F=[g]→n=xs.length→n≤cp→cp≤9223372036854775807→T c fr H Φ) (hm:.ow E t (.slice a n cp) xs F∈H:=by (repeat (first|exact .head _|apply List.Mem.tail));first|done|fail):T c fr H Φ:=.mk fun ac w s g'=>by
 obtain ⟨hnd,ho⟩:=s.get hm
 have hF:=ho.scal sc
 rcases ho with ⟨-,h2, -⟩|⟨g,cap,cs,rest,G,h1,h2,h3,h4,h5,h6,h7⟩
 ·exact absurd h2 h0
 ·cases h1
  exact (h g rfl (by simpa [Value.ownBlock] using hF) rfl h3 (by unfold maxLen at h4;omega)).h ac w s g'
theorem Flat.rep0 {α:Type} {E:Elem α} {w:World} {zs:List Value} {z:α} (h:E.rep w zs z []):∀n,Flat E w (List.replicate n zs).flatten (List.replicate n z) []
 | 0=>⟨rfl,rfl⟩
 | n+1=>⟨zs,(List.replicate n zs).flatten,[],[],by simp [List.replicate_succ],by simp,h,Flat.rep0 h n⟩
theorem zeroCells_flat (z:Array Value) (n:Nat):(Builtin.zeroCells z n).toList=(List.replicate n z.toList).flatten:=by
 have:=madeCells_flat z n
 exact this
theorem o_clr {α:Type} {E:Elem α} (sc:Scal E) {t e m b g n cp i:Nat} {zv:Value} {z0:α} [hS:SlC c.P t e m] [hE:ElT c.P e zv m b] (hz:∀w,E.rep w zv.cells.toList z0 []) (one:∀u∈zv.cells,u.oneCell'=true) (hm:E.sz=m) {xs:List α} {F:List Nat} {S:List Pc}
  (hx:ev fr x=some (.slice (some ⟨g,0+i * m,none⟩) (n - i) (cp - i))) (hi:i < n) (hn:n=xs.length) (hp:Pick H (.ow E e (.slice (some ⟨g,0,none⟩) n cp) xs F) S) (h:T c fr (.ow E e (.slice (some ⟨g,0,none⟩) n cp) (xs.take i++List.replicate (n - i) z0) F::S) Φ) :
  On c fr H none (.call { callee:=.builtin .clear,args:=#[x],argTypes:=#[t] }) ty Φ:=⟨fun _ _ _=>ef_of fun Q a w s ag=>by
 subst hm
 have s1:=s.pick hp
 obtain ⟨hnd,ho⟩:=s1.on (.ow E e (.slice (some ⟨g,0,none⟩) n cp) xs F) (by simp)
 have hF:=ho.scal sc
 rcases ho with ⟨h1, -, -⟩|⟨g2,cap,cs,rest,G,h1,h2,h3,h4,h5,h6,h7⟩
 ·cases h1
 cases h1
 have hG:G=[]:=by rw [h7] at hF;simpa [Value.ownBlock] using hF
 subst hG h7
 have hl:=h6.len
 obtain ⟨f1,f2⟩:=h6.cutL i (by omega)
 have hcs:=List.take_append_drop (i * E.sz) cs
 have hd1:(cs.take (i * E.sz)).length=i * E.sz:=by have:=f1.len;rw [List.length_take (l:=xs),Nat.min_eq_left (by omega)] at this;exact this
 have hd2:(cs.drop (i * E.sz)).length=(xs.length - i) * E.sz:=by have:=f2.len;rwa [List.length_drop (l:=xs)] at this
 have hr:=fun ty=>run_clear_rows (P:=c.P) w t e ty zv hS.u (zeroValue_of hE.i) one g (0+i * E.sz) (xs.length - i) (cp - i) (by omega)
  (fun j hj=>by rw [hE.s] at hj;rw [h2.cell,List.getElem?_eq_getElem (by rw [List.length_append,←hcs,List.length_append,hd1,hd2];omega)];rfl) (fun j _=>h2.frozen _)
 have e1:∀pos aft gd,(execOp a.eval ⟨none,.call { callee:=.builtin .clear,args:=#[x],argTypes:=#[t] },ty,pos,aft,gd⟩).run c.P w=.ok (.value (.tuple #[])) (w.setCells g (0+i * E.sz) (Builtin.zeroCells zv.cells (xs.length - i)).toList):=by
  intro pos aft gd
  simp only [execOp,resolve,invoke,builtin,Sem.run_bind,Sem.run_pure,Result.andThen_ok,List.map_toArray,List.map_cons,List.map_nil,ag.ev hx,hr]
 rw [e1]
 have hzl:(Builtin.zeroCells zv.cells (xs.length - i)).toList.length=(xs.length - i) * E.sz:=by rw [zeroCells_len,hE.s]
 have R0:Row w g e (cs.take (i * E.sz)++cs.drop (i * E.sz)++rest):=by rw [hcs];exact h2
 have R1:=Row.put (Builtin.zeroCells zv.cells (xs.length - i)).toList _ R0 (p:=0+i * E.sz) (by omega) (by rw [hzl,hd2])
 have hk:=putCells_keep (g:=g) (Builtin.zeroCells zv.cells (xs.length - i)).toList w (0+i * E.sz)
 rw [putCells_eq w g] at R1 hk
 have hW:(Pc.ow E e (.slice (some ⟨g,0,none⟩) xs.length cp) (xs.take i++List.replicate (xs.length - i) z0) [g]).P (w.setCells g (0+i * E.sz) (Builtin.zeroCells zv.cells (xs.length - i)).toList):=by
  have hll:(xs.take i++List.replicate (xs.length - i) z0).length=xs.length:=by rw [List.length_append,List.length_take,List.length_replicate];omega
  have hfl:Flat E (w.setCells g (0+i * E.sz) (Builtin.zeroCells zv.cells (xs.length - i)).toList) (cs.take (i * E.sz)++(Builtin.zeroCells zv.cells (xs.length - i)).toList) (xs.take i++List.replicate (xs.length - i) z0) []:=by
   rw [zeroCells_flat]
   exact (f1.all _).append (Flat.rep0 (hz _) _)
  refine ⟨by simp,.inr ⟨g,cp,cs.take (i * E.sz)++(Builtin.zeroCells zv.cells (xs.length - i)).toList,rest,[],by rw [hll],R1,by rw [hll];exact h3,h4,?_,hfl,rfl⟩⟩
  rw [List.length_append,hzl,hd1,←Nat.add_mul]
  rw [←h5,hl]
  congr 2
  omega
 exact h.h _ _ (St.turn (M:=[.ow E e (.slice (some ⟨g,0,none⟩) xs.length cp) xs [g]]) (N:=[.ow E e (.slice (some ⟨g,0,none⟩) xs.length cp) (xs.take i++List.replicate (xs.length - i) z0) [g]]) s1 (by simpa [List.filter,Pc.mu,fp,Pc.F] using hk) (by intro q hq;rw [List.mem_singleton] at hq;subst hq;exact hW) ⟨by simp,trivial⟩ (by
   intro q hq b hb
   rw [List.mem_singleton] at hq;subst hq
   exact .inr (.inl ⟨_,List.mem_singleton.2 rfl,rfl,hb⟩))) ag⟩
end
theorem IdxInt_f (fid:FuncId) (bd caps:List Value) (A:List Pc) (hA:A.all (fun p=>!p.mu)=true) (xs:List Int) (a:Option Addr) (c:Nat) (F:List Nat) (p:Int→Bool) (hb:bodyB Tryz.prog fid=true) (hl:xs.length≤1000000000)
  (hp:∀x∈xs,∀w,Hol A w→Calls Tryz.prog fid (bd++[(.int .i64 x:Value)]++caps).toArray w fun e w'=>e=.returned (.bool (p x))∧Below w.heap.size w w') :
  Fn Tryz.prog 324 [.slice a xs.length c,.func (.func fid) bd.toArray caps.toArray] (.sl EInt (.slice a xs.length c) xs F::A) [] (fun (_:Unit)=>True) (fun _=>.int .i64 (fidx p xs)) (fun _=>[]):=by
 refine enter Tryz.func324 rfl Tryz.ntmps324 (fun w0=>?_) rfl (by simpa [Pc.mu] using hA) .nil
 refine go ?_;intros
 refine c_loopR [0,1,4,7] (fun k:Nat=>[(8,.int .i64 (k:Nat))]) (fun k=>k≤xs.length∧∀j (_:j < k) (hj:j < xs.length),p xs[j]=false) (fun k=>xs.length - k) 0 ⟨Nat.zero_le _,fun j h=>by omega⟩ fun k hk=>?_
 obtain ⟨hk1,hk2⟩:=hk
 refine go ?_;intros
 refine c_if rfl (fun h5=>?_) (fun h5=>?_)
 ·have hh:k < xs.length:=by omega
  refine go ?_;intros
  refine at_int (xs:=xs) k ?_
  rintro hi b o e
  rw [e]
  refine go ?_;intros
  apply wO
  refine o_callb rfl rfl hb evsE ?_
  refine cb (fun w st=>hp xs[k] (List.getElem_mem hh) w (fun q hq=>st.on q (by simp [hq]))) ?_
  cases hpk:p xs[k]
  ·refine go ?_;intros
   refine t_drop ?_
   refine n_lp (hH:=hsub_refl _) (k+1) ⟨hh,fun j hj h=>?_⟩ (by omega)
   rcases Nat.lt_or_eq_of_le (Nat.lt_succ_iff.1 hj) with h2|rfl
   ·exact hk2 j h2 h
   ·exact hpk
  ·refine go ?_;intros
   refine ret () trivial ?_
   rw [fidx_hit hh hk2 hpk];rfl
 ·obtain rfl:k=xs.length:=by omega
  refine go ?_;intros
  refine ret () trivial ?_
  rw [fidx_none (fun j hj=>hk2 j hj hj)];rfl
structure DfInt where
 i:Nat
 j:Nat
 zs:List Int
theorem DelInt_f (fid:FuncId) (bd caps:List Value) (A:List Pc) (hA:A.all (fun p=>!p.mu)=true) (xs:List Int) (a:Option Addr) (c:Nat) (F:List Nat) (p:Int→Bool) (hb:bodyB Tryz.prog fid=true) (hl:xs.length≤1000000000)
  (hp:∀x∈xs,∀w,Hol A w→Calls Tryz.prog fid (bd++[(.int .i64 x:Value)]++caps).toArray w fun e w'=>e=.returned (.bool (p x))∧Below w.heap.size w w') :
  Fn Tryz.prog 303 [.slice a xs.length c,.func (.func fid) bd.toArray caps.toArray] A [.ow EInt 3 (.slice a xs.length c) xs F] (fun (_:Option Addr × Nat × List Nat)=>True)
   (fun z=>.slice z.1 (xs.filter fun x=>!p x).length z.2.1) (fun z=>[.ow EInt 3 (.slice z.1 (xs.filter fun x=>!p x).length z.2.1) (xs.filter fun x=>!p x) z.2.2]):=by
 refine enter Tryz.func303 rfl Tryz.ntmps303 (fun w0=>?_) rfl (by simpa [Pc.mu] using hA) (.cons .nil)
 refine go ?_;intros
 refine cb (fun w st=>by
  obtain ⟨Fw, -,hw⟩:=(st.get (p:=.ow EInt 3 (.slice a xs.length c) xs F) (by simp)).2.read
  refine (IdxInt_f fid bd caps A hA xs a c Fw p hb hl hp).val w ?_ (by simpa [Pc.mu] using hA)
  intro q hq
  rcases List.mem_cons.1 hq with rfl|hq
  ·exact ⟨by decide,hw⟩
  ·exact st.on q (by simp [hq])) ?_
 by_cases hany:xs.any p=true
 ·obtain ⟨i0,hi0,hfx,hpi,hfl⟩:=fidx_some hany
  rw [hfx]
  refine t_head (xs:=xs) scal_EInt (by rintro rfl;simp at hi0) ?_
  rintro g rfl rfl - hc1 hc2
  refine go ?_;intros
  refine c_loopS [0,1,4] (fun s:DfInt=>[(5,.int .i64 (s.i:Nat)),(6,.int .i64 (s.j:Nat))]) (fun s=>[.ow EInt 3 (.slice (some ⟨g,0,none⟩) xs.length c) s.zs [g]]) (fun s=>s.zs.length=xs.length∧s.j≤xs.length∧s.i < s.j∧s.zs.take s.i=(xs.take s.j).filter (fun x=>!p x)∧s.zs.drop s.j=xs.drop s.j) (fun s=>xs.length - s.j) ⟨i0,i0+1,xs⟩ ⟨rfl,hi0,Nat.lt_succ_self _,by rw [filter_take_no hi0 (by simp [hpi]),hfl],rfl⟩ fun s hs=>?_
  obtain ⟨i,j,zs⟩:=s
  obtain ⟨h1,h2,h3,h4,h5⟩:=hs
  dsimp only at h1 h2 h3 h4 h5 ⊢
  refine go ?_;intros
  refine c_if rfl (fun h6=>?_) (fun h6=>?_)
  ·have hj:j < xs.length:=by omega
   have hjz:j < zs.length:=by omega
   have hx:zs[j]=xs[j]:=by
    have a1:=List.drop_eq_getElem_cons hjz
    have a2:=List.drop_eq_getElem_cons hj
    rw [h5,a2] at a1
    exact (List.cons.inj a1).1.symm
   have hdz:zs.drop (j+1)=xs.drop (j+1):=by
    rw [←List.drop_drop,h5,List.drop_drop]
   refine go ?_;intros
   refine focF (m:=1) scal_EInt j ?_ (by repeat (first|exact .here|apply Pick.there)) rfl hjz
   rintro _ g2 A2 cs2 B2 e1 e2 hc3 hh
   cases e1
   obtain ⟨rfl, -⟩:=hc3 w0
   refine go ?_;intros
   refine unfF zs[j] hh hc3 ?_
   rw [List.set_getElem_self,hx]
   apply wO
   refine o_callb rfl rfl hb evsE ?_
   refine cb (fun w st=>hp xs[j] (List.getElem_mem hj) w (fun q hq=>st.on q (by simp [hq]))) ?_
   cases hpj:p xs[j]
   ·refine go ?_;intros
    refine focF (m:=1) scal_EInt i ?_ (by repeat (first|exact .here|apply Pick.there)) rfl (by omega)
    rintro _ g3 A3 cs3 B3 e1 e2 hc4 hh3
    cases e1
    obtain ⟨rfl, -⟩:=hc4 w0
    refine go ?_;intros
    refine unfF xs[j] hh3 (fun w=>⟨rfl,rfl⟩) ?_
    refine n_lp (hH:=hsub_refl _) (⟨i+1,j+1,zs.set i xs[j]⟩:DfInt) ⟨by simp [h1],hj,Nat.succ_lt_succ h3,?_,?_⟩ (by dsimp only;omega)
    ·dsimp only
     rw [filter_take_yes hj (by simp [hpj]),←h4,List.take_add_one,List.getElem?_set_self (by omega),List.take_set_of_le (Nat.le_refl _)]
     rfl
    ·dsimp only
     rw [List.drop_set_of_lt (by omega),hdz]
   ·refine go ?_;intros
    refine n_lp (hH:=hsub_refl _) (⟨i,j+1,zs⟩:DfInt) ⟨h1,hj,Nat.lt_succ_of_lt h3,?_,hdz⟩ (by dsimp only;omega)
    dsimp only
    rw [filter_take_no hj (by simp [hpj]),h4]
  ·obtain rfl:j=xs.length:=by omega
   have h4':zs.take i=xs.filter fun x=>!p x:=by rw [h4,List.take_length]
   have hil:(xs.filter fun x=>!p x).length=i:=by rw [←h4',List.length_take];omega
   refine go ?_;intros
   apply wO;apply oc;rfl;exact yd_slv (i:=i) rfl rfl rfl (by omega) (by omega) (by omega)
   refine go ?_;intros
   apply wO
   refine o_clr (z0:=0) (n:=xs.length) (cp:=c) (i:=i) (g:=g) scal_EInt (fun w=>⟨rfl,rfl⟩) (by decide) rfl rfl h3 h1.symm (by repeat (first|exact .here|apply Pick.there)) ?_
   refine go ?_;intros
   refine t_take (xs:=zs.take i++List.replicate (xs.length - i) 0) i (fun F2=>?_) (by rw [List.length_append,List.length_take,List.length_replicate];omega)
   rw [List.take_left' (by rw [List.length_take];omega),h4']
   apply wO;apply oc;rfl;exact yd_slt (i:=i) rfl rfl rfl (by omega) (by omega)
   refine go ?_;intros
   subst hil
   refine ret (_,c,F2) trivial rfl
 ·obtain ⟨hfx,hfl⟩:=fidx_all hany
  rw [hfx,hfl]
  refine go ?_;intros
  refine ret (a,c,F) trivial rfl
def missL (x:ReceiveWindow) (n:Nat):List Int:=(spanL x.next n).filter fun k=>!hasB x k
theorem mem_spanL {t k:Int} {n:Nat} (h:k∈spanL t n):0≤k∧k≤65535:=by
 unfold spanL at h
 obtain ⟨i, -,rfl⟩:=List.mem_map.1 h
 unfold aft;omega
theorem RWmissing_f (x:ReceiveWindow) (k:Int) (n:Nat) (v:Value) (F:List Nat) (h0:0≤x.next) (h1:x.next≤65535) (h2:0≤k) (h3:k≤65535) (hn:gp x.next k=n) :
  Fn Tryz.prog 341 [v,.int .i64 k] [.isv EReceiveWindow v x F] [] (fun (_:Option Addr × Nat × List Nat)=>True) (fun s=>.slice s.1 (missL x n).length s.2.1) (fun s=>[.ow EInt 3 (.slice s.1 (missL x n).length s.2.1) (missL x n) s.2.2]):=by
 have hg:=gp_bd x.next k
 refine enter Tryz.func341 rfl Tryz.ntmps341 fun w0=>?_
 refine openReceiveWindow ?_
 rintro a1 c1 F1 rfl l1
 refine go ?_;intros
 refine d_start [0] [] ?_
 refine dt4 0 1 2 3 ?_
 refine dt2 4 7 ?_
 refine dt 8 ?_ (hy:=yd_fnb evsE evsE)
 refine dN 5 ?_
 refine oC ?_
 refine ce (fun w s=>gap_c _ _ _ (by omega) (by omega) (by omega) (by omega)) ?_
 refine dk ?_
 refine dN 6 ?_
 refine oC ?_
 rw [hn]
 refine cf (span_f x.next n (by omega) (by omega) (by omega)) fun s _=>?_
 refine t_app ?_
 refine dk ?_
 refine dN 9 ?_
 refine oC ?_
 refine cf (DelInt_f 246 [_] [] [.isv EReceiveWindow (.agg #[.int .i64 x.next,.slice a1 x.slots.length c1]) x F] rfl (spanL x.next n) s.1 s.2.1 s.2.2 (fun k=>hasB x k) rfl (by rw [spanL_len];omega) (fun k hk w hw=>?_)) fun q _=>?_
 exact (RWhas_f x k _ F h0 h1 (mem_spanL hk).1 (mem_spanL hk).2).val w hw
 refine t_app ?_
 refine dk ?_
 refine dt 10 ?_
 refine dd ?_
 refine go ?_;intros
 refine ret q trivial rfl
theorem missL_yes {x:ReceiveWindow} {k:Nat} (hk:k≤65535) (h:havAt x.slots k=true):missL x (k+1)=missL x k:=by
 have e:hasB x (aft x.next k)=true:=by unfold hasB;rw [show gp x.next (aft x.next k)=k by unfold gp aft;omega,Int.toNat_natCast,h]
 unfold missL;rw [spanL_succ,List.filter_append,List.filter_cons];simp [e]
theorem missL_no {x:ReceiveWindow} {k:Nat} (hk:k≤65535) (h:havAt x.slots k=false):missL x (k+1)=missL x k++[aft x.next k]:=by
 have e:hasB x (aft x.next k)=false:=by unfold hasB;rw [show gp x.next (aft x.next k)=k by unfold gp aft;omega,Int.toNat_natCast,h]
 unfold missL;rw [spanL_succ,List.filter_append,List.filter_cons];simp [e]
theorem missL_len (x:ReceiveWindow) (k:Nat):(missL x k).length≤k:=by
 unfold missL;have:=List.length_filter_le (fun k=>!hasB x k) (spanL x.next k);rw [spanL_len] at this;exact this
theorem l10Missing_f (x:ReceiveWindow) (k:Int) (n:Nat) (v:Value) (F:List Nat) (h0:0≤x.next) (h1:x.next≤65535) (h2:0≤k) (h3:k≤65535) (hn:gp x.next k=n) :
  Fn Tryz.prog 287 [v,.int .i64 k] [.isv EReceiveWindow v x F] [] (fun (_:Option Addr × Nat × List Nat)=>True) (fun s=>.slice s.1 (missL x n).length s.2.1) (fun s=>[.ow EInt 3 (.slice s.1 (missL x n).length s.2.1) (missL x n) s.2.2]):=by
 have hg:=gp_bd x.next k
 refine enter Tryz.func287 rfl Tryz.ntmps287 fun w0=>?_
 refine openReceiveWindow ?_
 rintro a1 c1 F1 rfl l1
 unfold maxLen at l1
 refine goN ?_;intros
 refine t_emp EInt ?_
 refine go ?_;intros
 refine c_loopS [1,2,4] (fun s:SpS=>[(5,.slice s.a (missL x s.k).length s.c),(6,.int .i64 (s.k:Nat))]) (fun s=>[.ow EInt 3 (.slice s.a (missL x s.k).length s.c) (missL x s.k) s.F]) (fun s=>s.k≤n) (fun s=>n - s.k) ⟨0,_,_,_⟩ (Nat.zero_le _) fun s hs=>?_
 obtain ⟨j,a,c,F5⟩:=s
 dsimp only at hs ⊢
 have hlk:=missL_len x j
 refine go ?_;intros
 refine ce (fun w s=>l2Gap_c _ _ _ (by omega) (by omega)) ?_
 rw [hn]
 refine go ?_;intros
 refine c_if rfl (fun h4=>?_) (fun h4=>?_)
 ·refine go ?_;intros
  refine wg_if rfl rfl (fun h5=>?_) (fun h5=>?_)
  ·refine go ?_;intros
   refine ce (fun w s=>l2After_c _ _ _ (by omega) (by omega)) ?_
   refine go ?_;intros
   apply wO
   refine ap1 (rep_int _) one_EInt fun a2 c2 F2=>?_
   refine go ?_;intros
   rw [←missL_no (by omega) (havAt_ge (by omega))]
   refine n_lp ⟨j+1,a2,c2,F2⟩ (by show j+1≤n;omega) (by show n - (j+1) < n - j;omega)
  ·refine atSlot (xs:=x.slots) j ?_
   rintro hi2 b2 o2 e s1
   rw [e]
   refine go ?_;intros
   cases g2:x.slots[j].hav
   ·refine go ?_;intros
    refine ce (fun w s=>l2After_c _ _ _ (by omega) (by omega)) ?_
    refine go ?_;intros
    apply wO
    refine ap1 (rep_int _) one_EInt fun a2 c2 F2=>?_
    refine go ?_;intros
    rw [←missL_no (by omega) (by rw [havAt_lt hi2];exact g2)]
    refine n_lp ⟨j+1,a2,c2,F2⟩ (by show j+1≤n;omega) (by show n - (j+1) < n - j;omega)
   ·refine go ?_;intros
    rw [←missL_yes (x:=x) (k:=j) (by omega) (by rw [havAt_lt hi2];exact g2)]
    refine n_lp ⟨j+1,a,c,F5⟩ (by show j+1≤n;omega) (by show n - (j+1) < n - j;omega)
 ·obtain rfl:j=n:=by omega
  refine go ?_;intros
  refine ret (a,c,F5) trivial rfl
def isDel (d:Int):Bool:=btw 1 d 8
def okReq (base:Int) (r:Request):Bool:=isSer r.number && decide (gp base r.number < 8) && btw 1 r.state 3 && btw 0 r.untl 10007 && btw 0 r.tries 3
def chkQ (l:List Request) (base:Int) (i:Nat):Bool:=match l[i]? with
 | none=>true
 | some r=>okReq base r && (decide (i=0) || match l[i - 1]? with|none=>true|some p=>!decide (gp base r.number≤gp base p.number))
theorem chkQ_at {l:List Request} {base:Int} {i:Nat} (h:i < l.length):chkQ l base i=(okReq base l[i] && (decide (i=0) || !decide (gp base l[i].number≤gp base (l[i - 1]'(by omega)).number))):=by
 unfold chkQ
 rw [List.getElem?_eq_getElem h,List.getElem?_eq_getElem (show i - 1 < l.length by omega)]
def areQ (l:List Request) (base:Int):Bool:=isSer base && decide ((l.length:Int)≤8) && (List.range l.length).all (chkQ l base)
theorem areQ_no {l:List Request} {base:Int} {i:Nat} (h:i < l.length) (hc:chkQ l base i=false):areQ l base=false:=by
 have:(List.range l.length).all (chkQ l base)=false:=List.all_eq_false.2 ⟨i,by simpa using h,by simp [hc]⟩
 simp [areQ,this]
theorem areQ_yes {l:List Request} {base:Int} (h1:isSer base=true) (h2:(l.length:Int)≤8) (h:∀j,j < l.length→chkQ l base j=true):areQ l base=true:=by
 unfold areQ
 rw [h1,decide_eq_true h2,List.all_eq_true.2 fun j hj=>h j (by simpa using hj)];rfl
theorem areQ_iff {l:List Request} {base:Int}:areQ l base=true↔isSer base=true∧l.length≤8∧(∀r∈l,okReq base r=true)∧l.Pairwise fun a b=>gp base a.number < gp base b.number:=by
 unfold areQ
 simp only [Bool.and_eq_true,List.all_eq_true,List.mem_range,decide_eq_true_eq]
 constructor
 ·rintro ⟨⟨h1,h2⟩,h4⟩
  refine ⟨h1,by omega,fun r hr=>?_,?_⟩
  ·obtain ⟨i,hi,rfl⟩:=List.getElem_of_mem hr
   have:=h4 i hi
   rw [chkQ_at hi] at this
   simp only [Bool.and_eq_true] at this
   exact this.1
  ·have step:∀i (hi:i+1 < l.length),gp base l[i].number < gp base l[i+1].number:=fun i hi=>by
    have:=h4 (i+1) hi
    rw [chkQ_at hi] at this
    simp only [Bool.and_eq_true,Bool.or_eq_true,decide_eq_true_eq,Bool.not_eq_true',decide_eq_false_iff_not] at this
    have h:=this.2
    rcases h with h|h
    ·omega
    ·simpa using h
   refine List.pairwise_iff_getElem.2 fun i j hi hj hij=>?_
   obtain ⟨d,rfl⟩:∃d,j=i+1+d:=⟨j - i - 1,by omega⟩
   clear hij
   induction d with
   | zero=>exact step i hj
   | succ d ih=>exact Int.lt_trans (ih (by omega)) (step (i+1+d) hj)
 ·rintro ⟨h1,h2,h4,h5⟩
  refine ⟨⟨h1,by omega⟩,fun i hi=>?_⟩
  rw [chkQ_at hi,h4 l[i] (List.getElem_mem hi)]
  simp only [Bool.true_and,Bool.or_eq_true,decide_eq_true_eq,Bool.not_eq_true',decide_eq_false_iff_not]
  rcases Nat.eq_zero_or_pos i with h0|h0
  ·exact .inl h0
  ·have:=List.pairwise_iff_getElem.1 h5 (i - 1) i (by omega) hi (by omega)
   right;omega
structure OkReq (base:Int) (r:Request):Prop where
 n:isSer r.number=true
 g:gp base r.number < 8
 s0:1≤r.state
 s1:r.state≤3
 u0:0≤r.untl
 u1:r.untl≤10007
 t0:0≤r.tries
 t1:r.tries≤3
theorem okReq_iff {base:Int} {r:Request}:okReq base r=true↔OkReq base r:=by
 unfold okReq btw
 simp only [Bool.and_eq_true,decide_eq_true_eq]
 exact ⟨fun ⟨⟨⟨⟨a,b⟩,c,d⟩,e,f⟩,g,h⟩=>⟨a,b,c,d,e,f,g,h⟩,fun ⟨a,b,c,d,e,f,g,h⟩=>⟨⟨⟨⟨a,b⟩,c,d⟩,e,f⟩,g,h⟩⟩
def zeroRec (r:Receiver):Bool:=decide (r.window.next=0) && decide (r.window.slots.length=0) && decide (r.requests.length=0)
def freeQ (r:Receiver):Bool:=r.requests.all fun q=>!hasB r.window q.number
def goodRec (r:Receiver):Bool:=isClk r.clock && (if r.started then goodRW r.window && areQ r.requests r.window.next && freeQ r else zeroRec r)
def tkO (c d:Int) (r:Request):Option Request:=if c < r.untl then some r else if r.tries=3 then none else if r.state=1 then some ⟨r.number,2,c+3,r.tries+1⟩ else some ⟨r.number,1,c+d,r.tries⟩
def tkS (c:Int) (r:Request):Option Int:=if c < r.untl then none else if r.tries=3 then none else if r.state=1 then some r.number else none
def tkL (c:Int) (r:Request):Option Int:=if c < r.untl then none else if r.tries=3 then some r.number else none
def pkR (n k:Int):Packet:=⟨3,k,n,n,⟨#[]⟩⟩
def lostTrail (l:List Int):Int:=aft (l.getLastD 0) 1
def movedW (w:ReceiveWindow) (t:Int):ReceiveWindow:=relW (giveW (stepsN w.next t) w)
def movedE (w:ReceiveWindow) (t:Int):List ByteArray:=giveE (stepsN w.next t) w++relE (giveW (stepsN w.next t) w)
def noBef (l:List Request) (n:Int):List Request:=l.filter fun q=>!bef q.number n
def needed (l:List Request) (w:ReceiveWindow):List Request:=l.filter fun q=>!(bef q.number w.next || hasB w q.number) && decide (gp w.next q.number < 8)
def tkReq (r:Receiver) (d:Int):List Request:=r.requests.filterMap (tkO (r.clock+1) d)
def tkLost (r:Receiver):List Int:=r.requests.filterMap (tkL (r.clock+1))
def tickRec (r:Receiver) (d:Int):Receiver:=if tkLost r=[] then ⟨r.started,r.clock+1,r.window,tkReq r d⟩ else ⟨r.started,r.clock+1,movedW r.window (lostTrail (tkLost r)),noBef (tkReq r d) (movedW r.window (lostTrail (tkLost r))).next⟩
def tickPk (r:Receiver):List Packet:=(r.requests.filterMap (tkS (r.clock+1))).map (pkR r.window.next)
def tickEv (r:Receiver):List ByteArray:=if tkLost r=[] then [] else movedE r.window (lostTrail (tkLost r))
def zRec:Receiver:=⟨false,0,⟨0,[]⟩,[]⟩
structure GoodR (r:Receiver):Prop where
 k0:0≤r.clock
 k1:r.clock≤9999
 w:goodRW r.window=true
 q:areQ r.requests r.window.next=true
 f:∀z∈r.requests,hasB r.window z.number=false
 z:r.started=false→r.window=⟨0,[]⟩∧r.requests=[]
theorem goodR_iff {r:Receiver}:goodRec r=true↔GoodR r:=by
 have hc:isClk r.clock=true↔0≤r.clock∧r.clock≤9999:=by unfold isClk btw;simp
 have hf:freeQ r=true↔∀z∈r.requests,hasB r.window z.number=false:=by unfold freeQ;simp
 have hz:zeroRec r=true↔r.window=⟨0,[]⟩∧r.requests=[]:=by
  unfold zeroRec
  obtain ⟨st,ck,⟨n,s⟩,q⟩:=r
  simp [and_assoc]
 unfold goodRec
 constructor
 ·intro h
  rw [Bool.and_eq_true,hc] at h
  obtain ⟨⟨c0,c1⟩,h⟩:=h
  cases hs:r.started
  ·rw [hs] at h
   obtain ⟨e1,e2⟩:=hz.1 (by simpa using h)
   refine ⟨c0,c1,by rw [e1];decide,by rw [e1,e2];decide,by rw [e2];simp,fun _=>⟨e1,e2⟩⟩
  ·rw [hs] at h
   simp only [if_true,Bool.and_eq_true] at h
   exact ⟨c0,c1,h.1.1,h.1.2,hf.1 h.2,fun h'=>by rw [hs] at h';cases h'⟩
 ·rintro ⟨c0,c1,h1,h2,h3,h4⟩
  rw [Bool.and_eq_true,hc]
  refine ⟨⟨c0,c1⟩,?_⟩
  cases hs:r.started
  ·simpa using hz.2 (h4 hs)
  ·simp [h1,h2,hf.2 h3]
def goodPk (p:Packet):Bool:=btw 1 p.kind 5 && isSer p.number && isSer p.trail && isSer p.lead && itm p.data && decide (gp p.trail p.lead≤32767) && (decide (p.data=⟨#[]⟩) || decide (p.kind=1) || decide (p.kind=2))
theorem goodPk_num {p:Packet} (h:goodPk p=true):0≤p.number∧p.number≤65535:=by
 unfold goodPk at h
 simp only [Bool.and_eq_true] at h
 exact isSer_iff.1 h.1.1.1.1.1.2
theorem IndexFunc_String (fid:FuncId) (hbd:Body Tryz.prog fid) (caps:Array Value) (v:Value) (xs:List ByteArray) (F:List Nat) (p:ByteArray→Bool) (w:World) (h:Sl EStr w v xs F)
  (hp:∀(k:Nat) (hk:k < xs.length) (wr:World) (u:Value) (G:List Nat),Below w.heap.size w wr→IsC EStr wr u xs[k] G→Calls Tryz.prog fid (#[u]++caps) wr fun e w'=>e=.returned (.bool (p xs[k]))∧Below wr.heap.size wr w') :
  Calls Tryz.prog 313 #[v,.func (.func fid) #[] caps] w fun e w'=>e=.returned (.int .i64 (fidx p xs))∧Below w.heap.size w w':=by
 obtain ⟨a,cap,rfl⟩:=h.slice
 have hl:=h.len
 unfold maxLen at hl
 go_enter Tryz.func313,Tryz.ntmps313
 go_wp2
 go_loopw [5,8] (fun _ i wr=>∃k:Nat,k≤xs.length∧i=.int .i64 k∧Hid (∀j,j < k→∀hj:j < xs.length,p xs[j]=false)∧Below w.heap.size w wr) (fun _ i _=>xs.length - (intOf i).toNat)
 case atStart=>exact ⟨0,Nat.zero_le _,rfl,fun j hj=>by omega,Below.refl _ _⟩
 case round =>
  obtain ⟨k,hk,rfl,hz,hB⟩:=hrel
  by_cases hlt:k < xs.length
  ·have hz0:=hz;clear hz
   obtain ⟨b,off,_,F1,rfl,hx, -,ja⟩:=(h.below (by decide) hB).at k hlt
   obtain ⟨rfl, -, -⟩:=id hx
   have a0:=ja 0 (by decide)
   simp only [show EStr.sz=1 from rfl,Nat.mul_one,Nat.add_zero,List.getElem?_cons_zero,List.getElem?_cons_succ] at a0
   clear ja
   have hr:=hp k hlt wr _ F1 hB ⟨_,rfl,hx⟩
   have hp:=Lib.hid hp
   cases hpk:p xs[k]
   all_goals
    rw [hpk] at hr
    have hpk:=Lib.hid hpk
    have hr:=Lib.hid hr
    go_wp2_with fail
    refine hbd.upon hr.out ?_
    rintro e w1 ⟨rfl,hb1⟩
    refine ⟨_,rfl,?_⟩
    have hB:=tr hB hb1 (Nat.le_refl _)
    clear hb1
    go_wp2_with fail
   ·exact ⟨⟨k+1,by omega,by go_num,fun j hj hl=>by rcases Nat.lt_or_eq_of_le (Nat.le_of_lt_succ hj) with h|h;exact hz0.out j h hl;subst h;exact hpk.out,hB⟩,by simp [intOf];omega⟩
   ·go_ret
    exact ⟨ret_int (fidx_hit hlt hz0.out hpk.out).symm,hB⟩
  ·go_wp2
   go_ret
   exact ⟨ret_int (fidx_none (fun j hj=>hz.out j (by omega) hj)).symm,hB⟩
theorem ContainsFunc_String (fid:FuncId) (hbd:Body Tryz.prog fid) (caps:Array Value) (v:Value) (xs:List ByteArray) (F:List Nat) (p:ByteArray→Bool) (w:World) (h:Sl EStr w v xs F)
  (hp:∀(k:Nat) (hk:k < xs.length) (wr:World) (u:Value) (G:List Nat),Below w.heap.size w wr→IsC EStr wr u xs[k] G→Calls Tryz.prog fid (#[u]++caps) wr fun e w'=>e=.returned (.bool (p xs[k]))∧Below wr.heap.size wr w') :
  Calls Tryz.prog 290 #[v,.func (.func fid) #[] caps] w fun e w'=>e=.returned (.bool (xs.any p))∧Below w.heap.size w w':=by
 have hp:=Lib.hid hp
 go_enter Tryz.func290,Tryz.ntmps290
 go_wp2_with fail
 refine (IndexFunc_String fid hbd caps v xs F p _ h hp.out).mono ?_
 rintro e w1 ⟨rfl,hb1⟩
 go_wp2_with fail
 go_ret
 exact ⟨ret_bool (fidx_any p xs),hb1⟩
theorem Clone_String (v:Value) (xs:List ByteArray) (F:List Nat) (w:World) (h:Sl EStr w v xs F) (hm:xs.length≤4294967296) :
  Calls Tryz.prog 257 #[v] w (RetNew EStr 9 xs w):=by
 obtain ⟨ao,c,news,Fy,rfl,hl,hfy,hFy,hsrc⟩:=h.src
 have hFl:=hfy.lt
 have he:=fun w (a:Option Addr) (n c:Nat)=>Lib.run_eql_slice_nil (P:=Tryz.prog) w 25 _ a n c 0 0 Tryz.underlying25
 go_enter Tryz.func257,Tryz.ntmps257
 rcases hsrc with ⟨rfl,rfl,rfl⟩|⟨ad,rfl,hn⟩
 ·go_wp2
  go_ret
  exact ⟨.slice none 0 0,[],rfl,.inl ⟨rfl,rfl,rfl⟩,by simp,by simp,Below.refl _ _⟩
 ·go_wp2_with (at_builtin;refine wpList_apd one_EStr (by decide) (by rfl) _ _ _ (by rfl) 9 (.string ⟨#[]⟩) 16 Tryz.underlying25 info_string rfl (.slice (some ⟨w.heap.size,0,none⟩) 0 0) [] [w.heap.size] (by rfl) (Ow.empty (Row.made _ _ _)) (Hd.one _) (some ad) xs c (by rfl) news Fy (hfy.frame fun b hb=>Below.heap_alloc _ _ _ (hFl b hb)) (.inr ⟨ad,rfl,fun j u hu=>kc ((Below.refl _ _).alloc (Nat.le_refl _) _) (hn j u hu)⟩) (fun b hb e=>by have:=hFl b hb;simp [Value.ownBlock] at e;omega) (by simpa using hl) (by unfold maxLen at hl;simp;omega) ?_)
  intro v2 w2 F2 hA
  go_wp2_with fail
  go_ret
  have hB:Below w.heap.size w w2:=((Below.refl _ _).alloc (Nat.le_refl _) _).trans (hA.keep.below (by simp) (by simp))
  have hs:∀b,v2.ownBlock=some b→w.heap.size≤b:=fun b hb=>by rcases hA.same with e|e <;> rw [e] at hb <;> simp [Value.ownBlock] at hb <;> omega
  refine ⟨v2,F2,rfl,by simpa using hA.ow,hA.ow.scal scal_EStr▸?_,fun b hb=>?_,hB⟩
  ·cases v2.ownBlock <;> simp
  ·rw [hA.ow.scal scal_EStr] at hb;exact hs b (by simpa using hb)
def goodWin (x:SendWindow):Bool:=isSer x.trail && btw 1 x.size 6 && decide ((x.items.length:Int)≤x.size) && x.items.all itm
theorem goodWin_iff {x:SendWindow}:goodWin x=true↔(0≤x.trail∧x.trail≤65535)∧(1≤x.size∧x.size≤6)∧(x.items.length:Int)≤x.size∧x.items.all itm=true:=by
 unfold goodWin
 simp only [Bool.and_eq_true,isSer_iff,btw,decide_eq_true_eq,and_assoc]
theorem areItems_1_c (s:ByteArray) (w:World) (hs:s.size≤maxLen) :
  Calls Tryz.prog 291 #[.string s] w fun e w'=>e=.returned (.bool (!itm s))∧Below w.heap.size w w':=by
 go_enter Tryz.func291,Tryz.ntmps291
 go_wp2_with fail
 refine (isItem_c s _ hs).mono ?_
 rintro e w1 ⟨rfl,hb⟩
 go_wp2_with fail
 go_ret
 exact ⟨rfl,hb⟩
theorem areItems_c (v:Value) (xs:List ByteArray) (F:List Nat) (w:World) (h:Sl EStr w v xs F) :
  Calls Tryz.prog 238 #[v] w fun e w'=>e=.returned (.bool (xs.all itm))∧Below w.heap.size w w':=by
 have hq:(!xs.any fun s=>!itm s)=xs.all itm:=by rw [List.not_any_eq_all_not];simp
 replace hq:=Lib.hid hq
 go_enter Tryz.func238,Tryz.ntmps238
 go_wp2_with fail
 refine (ContainsFunc_String _ (.mk' Tryz.func291 rfl rfl) _ _ xs F (fun s=>!itm s) _ h ?_).mono ?_
 ·rintro k hk wr u G hb ⟨_,rfl,hu⟩
  obtain ⟨hu,hsz, -⟩:=hu
  cases hu
  exact areItems_1_c _ _ hsz
 rintro e w1 ⟨rfl,hb⟩
 go_wp2_with fail
 go_ret
 exact ⟨ret_bool hq.out,hb⟩
theorem IsValidSendWindow_c (v:Value) (x:SendWindow) (F:List Nat) (w:World) (h:IsV ESendWindow w v x F) :
  Calls Tryz.prog 172 #[v] w fun e w'=>e=.returned (.bool (goodWin x))∧Below w.heap.size w w':=by
 obtain ⟨_,rfl,v1,rfl,h1⟩:=h
 obtain ⟨a,c,rfl⟩:=h1.slice
 have hl:=h1.len
 unfold maxLen at hl
 have hB0:∀A:Obj,Below w.heap.size w (w.alloc A):=fun A=>(Below.refl _ _).alloc (Nat.le_refl _) _
 go_enter Tryz.func172,Tryz.ntmps172
 go_wp2_with fail
 refine (IsSerial_c _ _).mono ?_
 rintro e w' ⟨rfl,rfl⟩
 cases g1:isSer x.trail
 ·go_wp2_with fail
  go_ret
  exact ⟨ret_bool (by simp [goodWin,g1]),hB0 _⟩
 go_wp2_with fail
 refine (within_c _ _ _ _).mono ?_
 rintro e w' ⟨rfl,rfl⟩
 cases g2:btw 1 x.size 6
 ·go_wp2_with fail
  go_ret
  exact ⟨ret_bool (by simp [goodWin,g2]),hB0 _⟩
 by_cases g3:(x.items.length:Int)≤x.size
 ·go_wp2_with fail
  refine (areItems_c _ x.items F _ (h1.below (by decide) (hB0 _))).mono ?_
  rintro e w1 ⟨rfl,hb⟩
  go_wp2_with fail
  go_ret
  exact ⟨ret_bool (by simp [goodWin,g1,g2,g3]),tr (hB0 _) hb (Nat.le_refl _)⟩
 ·go_wp2_with fail
  go_ret
  exact ⟨ret_bool (by simp only [goodWin,decide_eq_false (show ¬(x.items.length:Int)≤x.size by omega),Bool.and_false,Bool.false_and]),hB0 _⟩
theorem SendWindow_clone_c (v:Value) (x:SendWindow) (F:List Nat) (w:World) (h:IsV ESendWindow w v x F) (hm:x.items.length≤4294967296) :
  Calls Tryz.prog 185 #[v] w (RetV OSendWindow x w):=by
 obtain ⟨_,rfl,v1,rfl,h1⟩:=h
 obtain ⟨a,c,rfl⟩:=h1.slice
 have hB0:∀A B:Obj,Below w.heap.size w ((w.alloc A).alloc B):=fun A B=>((Below.refl _ _).alloc (Nat.le_refl _) _).alloc (by simp) _
 go_enter Tryz.func185,Tryz.ntmps185
 go_wp2_with fail
 refine (Clone_String _ x.items F _ (h1.below (by decide) (hB0 _ _)) hm).mono ?_
 rintro e w1 ⟨v2,F2,rfl,o,n,g,hb⟩
 obtain ⟨a2,c2,rfl⟩:=o.slice
 have r0:=Row.below (g:=w.heap.size) (t:=41) (cs:=[.int .i64 x.trail,.int .i64 x.size,.slice a x.items.length c]) (by simp [row_alloc] <;> omega) hb
 have r1:=Row.below (g:=w.heap.size+1) (t:=41) (cs:=[.int .i64 0,.int .i64 0,.slice none 0 0]) (by simp [row_alloc] <;> omega) hb
 have hB:=tr (hB0 _ _) hb (Nat.le_refl _)
 have c0:=r0.cells;have f0:=r0.frozens
 have c1:=r1.cells;have f1:=r1.frozens
 clear hb
 replace o:=Lib.hid o
 go_wp2_with fail
 refine bodyPost_ret (v:=.agg #[.int .i64 x.trail,.int .i64 x.size,.slice a2 x.items.length c2]) ?_ rfl ?_
 ·simp [results,Tryz.results185,go_sem,c0,c1,f1]
 ·refine ⟨_,F2,rfl,⟨_,rfl,_,rfl,?_⟩,n,fun b hb=>by have:=g b hb;simp at this;omega,?_⟩
  ·repeat refine Ow.setFar ?_ (fun hm=>by have:=g _ hm;simp at this <;> omega) _
   exact o.out
  ·repeat refine Below.setCell ?_ (by simp <;> omega) _
   exact hB
theorem l9Good_c (v:Value) (x:SendWindow) (F:List Nat) (w:World) (h:IsV ESendWindow w v x F) :
  Calls Tryz.prog 146 #[v] w fun e w'=>e=.returned (.bool (goodWin x))∧Below w.heap.size w w':=by
 obtain ⟨_,rfl,v1,rfl,h1⟩:=h
 obtain ⟨a,c,rfl⟩:=h1.slice
 have hl:=h1.len
 unfold maxLen at hl
 have hB0:∀A:Obj,Below w.heap.size w (w.alloc A):=fun A=>(Below.refl _ _).alloc (Nat.le_refl _) _
 go_enter Tryz.func146,Tryz.ntmps146
 go_wp2_with fail
 refine (l2Good_c _ _).mono ?_
 rintro e w' ⟨rfl,rfl⟩
 cases g1:isSer x.trail
 ·go_wp2_with fail
  go_ret
  exact ⟨ret_bool (by simp [goodWin,g1]),hB0 _⟩
 go_wp2_with fail
 refine (l1In_c _ _ _ _).mono ?_
 rintro e w' ⟨rfl,rfl⟩
 cases g2:btw 1 x.size 6
 ·go_wp2_with fail
  go_ret
  exact ⟨ret_bool (by simp [goodWin,g2]),hB0 _⟩
 by_cases g3:x.size < (x.items.length:Int)
 ·go_wp2_with fail
  go_ret
  exact ⟨ret_bool (by simp only [goodWin,decide_eq_false (show ¬(x.items.length:Int)≤x.size by omega),Bool.and_false,Bool.false_and]),hB0 _⟩
 have hg:goodWin x=x.items.all itm:=by unfold goodWin;rw [g1,g2,decide_eq_true (by omega)];simp
 replace hg:=Lib.hid hg
 go_wp2_with fail
 have r0:=Row.made w 41 [.int .i64 x.trail,.int .i64 x.size,.slice a x.items.length c]
 have h2:=h1.below (by decide) (hB0 (.cells #[.int .i64 x.trail,.int .i64 x.size,.slice a x.items.length c] 41))
 have hB:=hB0 (.cells #[.int .i64 x.trail,.int .i64 x.size,.slice a x.items.length c] 41)
 generalize w.alloc (.cells #[.int .i64 x.trail,.int .i64 x.size,.slice a x.items.length c] 41)=w1 at *
 have c0:=r0.cells
 go_loop [3] (fun i=>∃k:Nat,k≤x.items.length∧i=.int .i64 k∧Hid (∀j,j < k→∀hj:j < x.items.length,itm x.items[j]=true)) (fun i=>x.items.length - (intOf i).toNat)
 case atStart=>exact ⟨0,Nat.zero_le _,rfl,fun j hj=>by omega⟩
 case round =>
  obtain ⟨k,hk,rfl,hz⟩:=hrel
  by_cases hlt:k < x.items.length
  ·obtain ⟨hsz,b,off,rfl,hc⟩:=h2.str.2.2 k hlt
   cases hi:itm x.items[k]
   ·have hi2:(decide ((x.items[k].size:Int)≤8) && lows x.items[k].data.toList)=false:=hi
    go_wp2_with fail
    refine (l4Letters_c _ _ _ hsz).mono ?_
    rintro e w' ⟨rfl,rfl⟩
    go_wp2_with fail
    go_ret
    refine ⟨ret_bool ?_,hB⟩
    rw [hg.out]
    exact (List.all_eq_false.2 ⟨x.items[k],List.getElem_mem _,by simp [hi]⟩).symm
   ·have hi2:(decide ((x.items[k].size:Int)≤8) && lows x.items[k].data.toList)=true:=hi
    go_wp2_with fail
    refine (l4Letters_c _ _ _ hsz).mono ?_
    rintro e w' ⟨rfl,rfl⟩
    go_wp2_with fail
    exact ⟨⟨k+1,by omega,by go_num,fun j hj hl=>by rcases Nat.lt_or_eq_of_le (Nat.le_of_lt_succ hj) with h|h;exact hz.out j h hl;subst h;exact hi⟩,by simp [intOf];omega⟩
  ·have hk:k=x.items.length:=by omega
   go_wp2_with fail
   go_ret
   refine ⟨ret_bool ?_,hB⟩
   rw [hg.out]
   refine (List.all_eq_true.2 fun s hs=>?_).symm
   obtain ⟨j,hj,rfl⟩:=List.getElem_of_mem hs
   exact hz.out j (by omega) hj
section
variable {c:Cx} {fr:Fr} {H:List Pc} {Φ:Gl}
theorem openSource {v:Value} {x:Source} {F:List Nat} (h:∀(a1:Option Addr) (c1:Nat) (F1:List Nat) (a2:Option Addr) (c2:Nat) (F2:List Nat),v=.agg #[.int .i64 x.window.trail,.int .i64 x.window.size,.slice a1 x.window.items.length c1,.int .i64 x.clock,.int .i64 x.quiet,.slice a2 x.holds.length c2]→x.window.items.length≤maxLen→x.holds.length≤maxLen→T c fr (.sl EStr (.slice a1 x.window.items.length c1) x.window.items F1::.sl EHold (.slice a2 x.holds.length c2) x.holds F2::H) Φ) (hm:.isv ESource v x F∈H:=by (repeat (first|exact .head _|apply List.Mem.tail));first|done|fail):T c fr H Φ:=.mk fun a w s g=>by
 obtain ⟨cs,rfl,v1,v2,G1,G2,rfl,h1,h2,rfl⟩:=s.get hm
 obtain ⟨a1,c1,rfl⟩:=h1.slice;have l1:=h1.len
 obtain ⟨a2,c2,rfl⟩:=h2.slice;have l2:=h2.len
 have t2:=s.ro (p:=.sl EHold (.slice a2 x.holds.length c2) x.holds G2) hm rfl rfl ⟨by decide,h2⟩ (by intro b hb;simp only [Pc.F] at hb ⊢;simp [hb])
 have t1:=t2.ro (p:=.sl EStr (.slice a1 x.window.items.length c1) x.window.items G1) (List.mem_cons_of_mem _ hm) rfl rfl ⟨by decide,h1⟩ (by intro b hb;simp only [Pc.F] at hb ⊢;simp [hb])
 exact (h a1 c1 G1 a2 c2 G2 rfl  l1 l2).h a w t1 g
theorem closeSource (x:Source) {a1:Option Addr} {c1:Nat} {F1:List Nat} {a2:Option Addr} {c2:Nat} {F2:List Nat}  (h:T c fr (.isv ESource (.agg #[.int .i64 x.window.trail,.int .i64 x.window.size,.slice a1 x.window.items.length c1,.int .i64 x.clock,.int .i64 x.quiet,.slice a2 x.holds.length c2]) x (F1++F2)::H) Φ) (m1:.sl EStr (.slice a1 x.window.items.length c1) x.window.items F1∈H:=by (repeat (first|exact .head _|apply List.Mem.tail));first|done|fail) (m2:.sl EHold (.slice a2 x.holds.length c2) x.holds F2∈H:=by (repeat (first|exact .head _|apply List.Mem.tail));first|done|fail):T c fr H Φ:=.mk fun a w s g=>by
 have hP:IsV ESource w (.agg #[.int .i64 x.window.trail,.int .i64 x.window.size,.slice a1 x.window.items.length c1,.int .i64 x.clock,.int .i64 x.quiet,.slice a2 x.holds.length c2]) x (F1++F2):=⟨_,rfl,_,_,_,_,rfl,(s.get m1).2,(s.get m2).2,rfl⟩
 refine h.h a w (s.add (N:=[.isv ESource (.agg #[.int .i64 x.window.trail,.int .i64 x.window.size,.slice a1 x.window.items.length c1,.int .i64 x.clock,.int .i64 x.quiet,.slice a2 x.holds.length c2]) x (F1++F2)]) (Below.refl _ _) (by intro q hq;simp at hq;subst hq;exact hP) ⟨by simp,trivial⟩ fun q hq b hb=>?_) g
 simp at hq;subst hq
 simp only [Pc.F,List.mem_append] at hb
 rcases hb with hb|hb
 ·exact .inr ⟨rfl,_,m1,rfl,hb⟩
 ·exact .inr ⟨rfl,_,m2,rfl,hb⟩
theorem openOSource {v:Value} {x:Source} {F:List Nat} {S:List Pc} (h:∀(a1:Option Addr) (c1:Nat) (F1:List Nat) (a2:Option Addr) (c2:Nat) (F2:List Nat),v=.agg #[.int .i64 x.window.trail,.int .i64 x.window.size,.slice a1 x.window.items.length c1,.int .i64 x.clock,.int .i64 x.quiet,.slice a2 x.holds.length c2]→x.window.items.length≤maxLen→x.holds.length≤maxLen→T c fr (.ow EStr 9 (.slice a1 x.window.items.length c1) x.window.items F1::.ow EHold 194 (.slice a2 x.holds.length c2) x.holds F2::S) Φ) (hp:Pick H (.own OSource v x F) S:=by (repeat (first|exact .here|apply Pick.there));first|done|fail):T c fr H Φ:=.mk fun a w s g=>by
 have z1:=s.pick hp
 obtain ⟨hn,cs,rfl,v1,v2,G1,G2,rfl,h1,h2,rfl⟩:=z1.on (.own OSource v x F) (by simp)
 obtain ⟨a1,c1,rfl⟩:=h1.slice;have l1:=h1.len
 obtain ⟨a2,c2,rfl⟩:=h2.slice;have l2:=h2.len
 have hn2:=hn;simp only [List.nodup_append,List.mem_append] at hn2
 refine (h a1 c1 G1 a2 c2 G2 rfl  l1 l2).h a w (St.turn (M:=[.own OSource (.agg #[.int .i64 x.window.trail,.int .i64 x.window.size,.slice a1 x.window.items.length c1,.int .i64 x.clock,.int .i64 x.quiet,.slice a2 x.holds.length c2]) x _]) (N:=[.ow EStr 9 (.slice a1 x.window.items.length c1) x.window.items G1,.ow EHold 194 (.slice a2 x.holds.length c2) x.holds G2]) z1 (Keep.refl _ w) ?_ ?_ ?_) g
 ·intro q hq;simp only [List.mem_cons,List.not_mem_nil,or_false] at hq
  rcases hq with rfl|rfl
  ·exact ⟨(List.nodup_append.1 hn).1,h1⟩
  ·exact ⟨(List.nodup_append.1 hn).2.1,h2⟩
 ·refine ⟨?_,⟨?_,trivial⟩⟩
  ·intro q hq _ b hb hb2;simp only [List.mem_cons,List.not_mem_nil,or_false] at hq;rcases hq with rfl <;> simp only [Pc.F] at hb hb2 <;> exact nodup_apt hn hb hb2
  ·intro q hq _ b hb hb2;simp at hq
 ·intro q hq b hb;refine .inr (.inl ⟨_,List.mem_singleton.2 rfl,rfl,?_⟩);simp only [List.mem_cons,List.not_mem_nil,or_false] at hq;rcases hq with rfl|rfl <;> simp only [Pc.F] at hb ⊢ <;> simp [hb]
theorem closeOSource (x:Source) {a1:Option Addr} {c1:Nat} {F1:List Nat} {a2:Option Addr} {c2:Nat} {F2:List Nat} {S1 S2:List Pc}  (h:T c fr (.own OSource (.agg #[.int .i64 x.window.trail,.int .i64 x.window.size,.slice a1 x.window.items.length c1,.int .i64 x.clock,.int .i64 x.quiet,.slice a2 x.holds.length c2]) x (F1++F2)::S2) Φ) (m1:Pick H (.ow EStr 9 (.slice a1 x.window.items.length c1) x.window.items F1) S1:=by (repeat (first|exact .here|apply Pick.there));first|done|fail) (m2:Pick S1 (.ow EHold 194 (.slice a2 x.holds.length c2) x.holds F2) S2:=by (repeat (first|exact .here|apply Pick.there));first|done|fail)  : T c fr H Φ:=.mk fun a w s g=>by
 have z1:St c.G c.D c.w0 ([.ow EStr 9 (.slice a1 x.window.items.length c1) x.window.items F1,.ow EHold 194 (.slice a2 x.holds.length c2) x.holds F2]++S2) w:=by simpa using (show Picks H [.ow EStr 9 (.slice a1 x.window.items.length c1) x.window.items F1,.ow EHold 194 (.slice a2 x.holds.length c2) x.holds F2] S2 from Picks.cons m1 (Picks.cons m2 (Picks.nil))).st (X:=[]) (by simpa using s)
 obtain ⟨n1,k1⟩:=z1.on (.ow EStr 9 (.slice a1 x.window.items.length c1) x.window.items F1) (by simp)
 obtain ⟨n2,k2⟩:=z1.on (.ow EHold 194 (.slice a2 x.holds.length c2) x.holds F2) (by simp)
 have hsp:=z1.sep
 have p1_2:∀b∈F1,b ∉ F2:=hsp.1 (.ow EHold 194 (.slice a2 x.holds.length c2) x.holds F2) (by simp) rfl
 have hN:(F1++F2).Nodup:=by
  simp only [List.nodup_append,List.mem_append]
  grind
 refine h.h a w (St.turn (M:=[.ow EStr 9 (.slice a1 x.window.items.length c1) x.window.items F1,.ow EHold 194 (.slice a2 x.holds.length c2) x.holds F2]) (N:=[.own OSource (.agg #[.int .i64 x.window.trail,.int .i64 x.window.size,.slice a1 x.window.items.length c1,.int .i64 x.clock,.int .i64 x.quiet,.slice a2 x.holds.length c2]) x (F1++F2)]) z1 (Keep.refl _ w) (by intro q hq;simp at hq;subst hq;exact ⟨hN,_,rfl,_,_,_,_,rfl,k1,k2,rfl⟩) ⟨by simp,trivial⟩ fun q hq b hb=>?_) g
 simp at hq;subst hq
 simp only [Pc.F,List.mem_append] at hb
 rcases hb with hb|hb
 ·exact .inr (.inl ⟨.ow EStr 9 (.slice a1 x.window.items.length c1) x.window.items F1,by simp,rfl,hb⟩)
 ·exact .inr (.inl ⟨.ow EHold 194 (.slice a2 x.holds.length c2) x.holds F2,by simp,rfl,hb⟩)
end
section
variable {c:Cx} {fr:Fr} {H:List Pc} {Φ:Gl}
theorem openHold {v:Value} {x:Hold} {F:List Nat} (h:∀(_:Unit),v=.agg #[.int .i64 x.number,.int .i64 x.untl]→T c fr (H) Φ) (hm:.isv EHold v x F∈H:=by (repeat (first|exact .head _|apply List.Mem.tail));first|done|fail):T c fr H Φ:=.mk fun a w s g=>by
 obtain ⟨cs,rfl,rfl,rfl⟩:=s.get hm
 exact (h () rfl  ).h a w s g
theorem atHold {a:Option Addr} {n cp:Nat} {xs:List Hold} {F:List Nat} (i:Nat) (h:∀(hi:i < xs.length) (b o:Nat),a=some ⟨b,o,none⟩→T c fr (.cel b (o+i * 2) [.int .i64 xs[i].number,.int .i64 xs[i].untl]::H) Φ) (hm:.sl EHold (.slice a n cp) xs F∈H:=by (repeat (first|exact .head _|apply List.Mem.tail));first|done|fail) (hi:i < xs.length:=by omega):T c fr H Φ:=.mk fun ac w s g=>by
 obtain ⟨b,o,cs,G,ha,hrep,hG,hb,hne,hr⟩:=sl_at (s.get hm) i hi
 obtain ⟨rfl,rfl⟩:=hrep
 exact (h hi b o  ha  ).h ac w (s.ro hm rfl rfl ⟨hne,hr⟩ (by intro x hx;simp [Pc.F] at hx;subst hx;exact hb)) g
end
section
variable {c:Cx} {fr:Fr} {H:List Pc} {Φ:Gl}
theorem openSendWindow {v:Value} {x:SendWindow} {F:List Nat} (h:∀(a1:Option Addr) (c1:Nat) (F1:List Nat),v=.agg #[.int .i64 x.trail,.int .i64 x.size,.slice a1 x.items.length c1]→x.items.length≤maxLen→T c fr (.sl EStr (.slice a1 x.items.length c1) x.items F1::H) Φ) (hm:.isv ESendWindow v x F∈H:=by (repeat (first|exact .head _|apply List.Mem.tail));first|done|fail):T c fr H Φ:=.mk fun a w s g=>by
 obtain ⟨cs,rfl,v1,rfl,h1⟩:=s.get hm
 obtain ⟨a1,c1,rfl⟩:=h1.slice;have l1:=h1.len
 have t1:=s.ro (p:=.sl EStr (.slice a1 x.items.length c1) x.items F) hm rfl rfl ⟨by decide,h1⟩ fun b hb=>hb
 exact (h a1 c1 F rfl  l1).h a w t1 g
theorem closeSendWindow (x:SendWindow) {a1:Option Addr} {c1:Nat} {F1:List Nat}  (h:T c fr (.isv ESendWindow (.agg #[.int .i64 x.trail,.int .i64 x.size,.slice a1 x.items.length c1]) x (F1)::H) Φ) (m1:.sl EStr (.slice a1 x.items.length c1) x.items F1∈H:=by (repeat (first|exact .head _|apply List.Mem.tail));first|done|fail):T c fr H Φ:=.mk fun a w s g=>by
 have hP:IsV ESendWindow w (.agg #[.int .i64 x.trail,.int .i64 x.size,.slice a1 x.items.length c1]) x (F1):=⟨_,rfl,_,rfl,(s.get m1).2⟩
 refine h.h a w (s.add (N:=[.isv ESendWindow (.agg #[.int .i64 x.trail,.int .i64 x.size,.slice a1 x.items.length c1]) x (F1)]) (Below.refl _ _) (by intro q hq;simp at hq;subst hq;exact hP) ⟨by simp,trivial⟩ fun q hq b hb=>?_) g
 simp at hq;subst hq
 simp only [Pc.F,List.mem_append] at hb
 exact .inr ⟨rfl,_,m1,rfl,hb⟩
theorem openOSendWindow {v:Value} {x:SendWindow} {F:List Nat} {S:List Pc} (h:∀(a1:Option Addr) (c1:Nat) (F1:List Nat),v=.agg #[.int .i64 x.trail,.int .i64 x.size,.slice a1 x.items.length c1]→x.items.length≤maxLen→T c fr (.ow EStr 9 (.slice a1 x.items.length c1) x.items F1::S) Φ) (hp:Pick H (.own OSendWindow v x F) S:=by (repeat (first|exact .here|apply Pick.there));first|done|fail):T c fr H Φ:=.mk fun a w s g=>by
 have z1:=s.pick hp
 obtain ⟨hn,cs,rfl,v1,rfl,h1⟩:=z1.on (.own OSendWindow v x F) (by simp)
 obtain ⟨a1,c1,rfl⟩:=h1.slice;have l1:=h1.len
 refine (h a1 c1 F rfl  l1).h a w (St.turn (M:=[.own OSendWindow (.agg #[.int .i64 x.trail,.int .i64 x.size,.slice a1 x.items.length c1]) x _]) (N:=[.ow EStr 9 (.slice a1 x.items.length c1) x.items F]) z1 (Keep.refl _ w) ?_ ?_ ?_) g
 ·intro q hq;simp at hq;subst hq;exact ⟨hn,h1⟩
 ·exact ⟨by simp,trivial⟩
 ·intro q hq b hb;simp at hq;subst hq;exact .inr (.inl ⟨_,List.mem_singleton.2 rfl,rfl,hb⟩)
theorem closeOSendWindow (x:SendWindow) {a1:Option Addr} {c1:Nat} {F1:List Nat} {S1:List Pc}  (h:T c fr (.own OSendWindow (.agg #[.int .i64 x.trail,.int .i64 x.size,.slice a1 x.items.length c1]) x (F1)::S1) Φ) (m1:Pick H (.ow EStr 9 (.slice a1 x.items.length c1) x.items F1) S1:=by (repeat (first|exact .here|apply Pick.there));first|done|fail)  : T c fr H Φ:=.mk fun a w s g=>by
 have z1:St c.G c.D c.w0 ([.ow EStr 9 (.slice a1 x.items.length c1) x.items F1]++S1) w:=by simpa using (show Picks H [.ow EStr 9 (.slice a1 x.items.length c1) x.items F1] S1 from Picks.cons m1 (Picks.nil)).st (X:=[]) (by simpa using s)
 obtain ⟨n1,k1⟩:=z1.on (.ow EStr 9 (.slice a1 x.items.length c1) x.items F1) (by simp)
 have hN:=n1
 refine h.h a w (St.turn (M:=[.ow EStr 9 (.slice a1 x.items.length c1) x.items F1]) (N:=[.own OSendWindow (.agg #[.int .i64 x.trail,.int .i64 x.size,.slice a1 x.items.length c1]) x (F1)]) z1 (Keep.refl _ w) (by intro q hq;simp at hq;subst hq;exact ⟨hN,_,rfl,_,rfl,k1⟩) ⟨by simp,trivial⟩ fun q hq b hb=>?_) g
 simp at hq;subst hq
 simp only [Pc.F,List.mem_append] at hb
 exact .inr (.inl ⟨_,List.mem_singleton.2 rfl,rfl,hb⟩)
end
def heldB (w:SendWindow) (n:Int):Bool:=decide (gp w.trail n < (w.items.length:Int))
theorem clk_bd {n:Int} (h:isClk n=true):0≤n∧n≤9999:=by unfold isClk btw at h;simpa using h
def chkH (x:Source) (i:Nat):Bool:=match x.holds[i]? with
 | none=>true
 | some h=>isSer h.number && heldB x.window h.number && btw (x.clock+1) h.untl (x.clock+3) && (decide (i=0) || match x.holds[i - 1]? with|none=>true|some p=>!decide (gp x.window.trail h.number≤gp x.window.trail p.number))
theorem chkH_at {x:Source} {i:Nat} (h:i < x.holds.length):chkH x i=(isSer x.holds[i].number && heldB x.window x.holds[i].number && btw (x.clock+1) x.holds[i].untl (x.clock+3) && (decide (i=0) || !decide (gp x.window.trail x.holds[i].number≤gp x.window.trail (x.holds[i - 1]'(by omega)).number))):=by
 unfold chkH
 rw [List.getElem?_eq_getElem h,List.getElem?_eq_getElem (show i - 1 < x.holds.length by omega)]
def goodSrc (x:Source):Bool:=goodWin x.window && isClk x.clock && btw 0 x.quiet 3 && (List.range x.holds.length).all (chkH x)
theorem goodSrc_no {x:Source} {i:Nat} (h:i < x.holds.length) (hc:chkH x i=false):goodSrc x=false:=by
 have:(List.range x.holds.length).all (chkH x)=false:=List.all_eq_false.2 ⟨i,by simpa using h,by simp [hc]⟩
 simp [goodSrc,this]
theorem goodSrc_yes {x:Source} (h1:goodWin x.window=true) (h2:isClk x.clock=true) (h3:btw 0 x.quiet 3=true) (h:∀j,j < x.holds.length→chkH x j=true):goodSrc x=true:=by
 unfold goodSrc
 rw [h1,h2,h3,List.all_eq_true.2 fun j hj=>h j (by simpa using hj)];rfl
theorem isHeld_f (x:SendWindow) (n:Int) (v:Value) (F:List Nat) (h0:0≤x.trail) (h1:x.trail≤65535) (h2:0≤n) (h3:n≤65535) :
  Fn Tryz.prog 175 [v,.int .i64 n] [.isv ESendWindow v x F] [] (fun (_:Unit)=>True) (fun _=>.bool (heldB x n)) (fun _=>[]):=by
 refine enter Tryz.func175 rfl Tryz.ntmps175 fun w0=>?_
 refine openSendWindow ?_
 rintro a1 c1 F1 rfl l1
 refine go ?_;intros
 refine d_start [0] [] ?_
 refine dt4 0 1 2 4 ?_
 refine dt2 5 6 ?_
 refine dN 3 ?_
 refine oC ?_
 refine ce (fun w s=>gap_c _ _ _ (by omega) (by omega) (by omega) (by omega)) ?_
 refine dk ?_
 refine dt2 7 8 ?_
 refine dd ?_
 refine go ?_;intros
 refine ret () trivial rfl
theorem l9HeldW_f (x:SendWindow) (n:Int) (v:Value) (F:List Nat) (h0:0≤x.trail) (h1:x.trail≤65535) (h2:-1≤n) (h3:n≤65536) :
  Fn Tryz.prog 149 [v,.int .i64 n] [.isv ESendWindow v x F] [] (fun (_:Unit)=>True) (fun _=>.bool (heldB x n)) (fun _=>[]):=by
 refine enter Tryz.func149 rfl Tryz.ntmps149 fun w0=>?_
 refine openSendWindow ?_
 rintro a1 c1 F1 rfl l1
 refine go ?_;intros
 refine d_start [0] [] ?_
 refine dt4 0 1 2 4 ?_
 refine dt2 5 6 ?_
 refine dN 3 ?_
 refine oC ?_
 refine ce (fun w s=>l2Gap_c _ _ _ (by omega) (by omega)) ?_
 refine dk ?_
 refine dt2 7 8 ?_
 refine dd ?_
 refine go ?_;intros
 refine ret () trivial rfl
theorem l9Held_f (x:SendWindow) (n:Int) (v:Value) (F:List Nat) (h0:0≤x.trail) (h1:x.trail≤65535) (h2:0≤n) (h3:n≤65535) :
  Fn Tryz.prog 149 [v,.int .i64 n] [.isv ESendWindow v x F] [] (fun (_:Unit)=>True) (fun _=>.bool (heldB x n)) (fun _=>[]):=l9HeldW_f x n v F h0 h1 (by omega) (by omega)
theorem IsValidSource_f (x:Source) (v:Value) (F:List Nat):Fn Tryz.prog 93 [v] [.isv ESource v x F] [] (fun (_:Unit)=>True) (fun _=>.bool (goodSrc x)) (fun _=>[]):=by
 refine enter Tryz.func93 rfl Tryz.ntmps93 fun w0=>?_
 refine openSource ?_
 rintro a1 c1 F1 a2 c2 F2 rfl l1 l2
 unfold maxLen at l1 l2
 refine closeSendWindow x.window ?_
 generalize F1=F3
 refine go ?_;intros
 refine cb (fun w st=>IsValidSendWindow_c _ x.window _ w (st.get (p:=.isv ESendWindow (.agg #[.int .i64 x.window.trail,.int .i64 x.window.size,.slice a1 x.window.items.length c1]) x.window F3) (by simp))) ?_
 cases g1:goodWin x.window
 ·refine go ?_;intros
  refine ret () trivial ?_
  simp [goodSrc,g1,tup]
 obtain ⟨⟨t0,t1⟩, -⟩:=goodWin_iff.1 g1
 refine go ?_;intros
 refine ce (fun w s=>isClock_c _ _) ?_
 cases g2:isClk x.clock
 ·refine go ?_;intros
  refine ret () trivial ?_
  simp [goodSrc,g2,tup]
 obtain ⟨k0,k1⟩:=clk_bd g2
 refine go ?_;intros
 refine ce (fun w s=>within_c _ _ _ _) ?_
 cases g3:btw 0 x.quiet 3
 ·refine go ?_;intros
  refine ret () trivial ?_
  simp [goodSrc,g3,tup]
 refine go ?_;intros
 refine c_loopR [1,2,22,23] (fun k:Nat=>[(24,.int .i64 k)]) (fun k=>k≤x.holds.length∧∀j,j < k→chkH x j=true) (fun k=>x.holds.length - k) 0 ⟨Nat.zero_le _,fun j h=>by omega⟩ fun k hk=>?_
 obtain ⟨hk1,hk2⟩:=hk
 refine go ?_;intros
 refine c_if rfl (fun h3=>?_) (fun h3=>?_)
 ·have hk3:k < x.holds.length:=by omega
  have bad:chkH x k=false→goodSrc x=false:=fun h=>goodSrc_no hk3 h
  have hck:=chkH_at hk3
  refine atHold (xs:=x.holds) k ?_
  rintro hi b o e
  rw [e]
  refine go ?_;intros
  refine ce (fun w s=>IsSerial_c _ _) ?_
  cases g4:isSer x.holds[k].number
  ·refine go ?_;intros
   refine ret () trivial ?_
   rw [bad (by rw [hck,g4];rfl)];rfl
  obtain ⟨m0,m1⟩:=isSer_iff.1 g4
  refine go ?_;intros
  refine cb (fun w st=>(isHeld_f x.window x.holds[k].number _ _ t0 t1 m0 m1).val w (hol1 (st.get (p:=.isv ESendWindow (.agg #[.int .i64 x.window.trail,.int .i64 x.window.size,.slice a1 x.window.items.length c1]) x.window F3) (by simp)))) ?_
  cases g5:heldB x.window x.holds[k].number
  ·refine go ?_;intros
   refine ret () trivial ?_
   rw [bad (by rw [hck,g4,g5];rfl)];rfl
  refine go ?_;intros
  refine ce (fun w s=>within_c _ _ _ _) ?_
  cases g6:btw (x.clock+1) x.holds[k].untl (x.clock+3)
  ·refine go ?_;intros
   refine ret () trivial ?_
   rw [bad (by rw [hck,g4,g5,g6];rfl)];rfl
  refine go ?_;intros
  by_cases hk0:0 < k
  ·have hk4:k - 1 < x.holds.length:=by omega
   have hp:=hk2 (k - 1) (by omega)
   rw [chkH_at hk4] at hp
   simp only [Bool.and_eq_true] at hp
   obtain ⟨p0,p1⟩:=isSer_iff.1 hp.1.1.1
   rw [←e]
   refine atHold (xs:=x.holds) (k - 1) ?_
   rintro hi5 b5 o5 e5
   rw [e5]
   refine d_start [0,1,3] [] ?_
   refine dt2 0 1 ?_
   rw [decide_eq_true (show (0:Int) < k by omega)]
   refine dt 2 ?_
   refine dtg 3 ?_
   refine dtg 4 ?_
   refine dtg 5 ?_
   refine dtg 6 ?_
   refine dtg 7 ?_
   refine dtg 8 ?_
   refine dtg 9 ?_
   rw [show (k:Int) - 1=((k - 1:Nat):Int) by omega]
   refine dtg 10 ?_
   refine dtg 11 ?_
   refine dtg 12 ?_
   refine dtg 14 ?_
   refine dtg 15 ?_
   refine dtg 16 ?_
   refine dtg 17 ?_
   refine dtg 18 ?_
   refine d1g 13 ?_
   apply On.h
   refine oC ?_
   refine ce (fun w s=>gap_c _ _ _ (by omega) (by omega) (by omega) (by omega)) ?_
   refine dk ?_
   refine d1g 19 ?_
   apply On.h
   refine oC ?_
   refine ce (fun w s=>gap_c _ _ _ (by omega) (by omega) (by omega) (by omega)) ?_
   refine dk ?_
   refine dtg 20 ?_
   refine dt 21 ?_
   refine dd ?_
   refine go ?_;intros
   refine c_if rfl (fun h6=>?_) (fun h6=>?_)
   ·refine go ?_;intros
    refine ret () trivial ?_
    rw [bad (by rw [hck,decide_eq_true h6,decide_eq_false (show ¬k=0 by omega)];simp)];rfl
   ·refine go ?_;intros
    refine n_lp (k+1) ⟨by omega,fun j hj=>?_⟩ (by omega)
    rcases Nat.lt_or_eq_of_le (Nat.lt_succ_iff.1 hj) with h|rfl
    ·exact hk2 j h
    ·rw [hck,g4,g5,g6,decide_eq_false h6];simp
  ·have hz:k=0:=by omega
   refine d_start [0,2] [] ?_
   refine dt2 0 1 ?_
   rw [decide_eq_false (show ¬(0:Int) < k by omega)]
   refine dt 2 ?_
   refine ds 3 ?_
   refine ds 4 ?_
   refine ds 5 ?_
   refine ds 6 ?_
   refine ds 7 ?_
   refine ds 8 ?_
   refine ds 9 ?_
   refine ds 10 ?_
   refine ds 11 ?_
   refine ds 12 ?_
   refine ds 13 ?_
   refine ds 14 ?_
   refine ds 15 ?_
   refine ds 16 ?_
   refine ds 17 ?_
   refine ds 18 ?_
   refine ds 19 ?_
   refine ds 20 ?_
   refine dt 21 ?_
   refine dd ?_
   refine go ?_;intros
   refine n_lp (k+1) ⟨by omega,fun j hj=>?_⟩ (by omega)
   rcases Nat.lt_or_eq_of_le (Nat.lt_succ_iff.1 hj) with h|rfl
   ·exact hk2 j h
   ·rw [hck,g4,g5,g6,decide_eq_true hz];simp
 have hkl:k=x.holds.length:=by omega
 refine go ?_;intros
 refine ret () trivial ?_
 rw [goodSrc_yes g1 g2 g3 (hkl▸hk2)];rfl
theorem l11Good_f (x:Source) (v:Value) (F:List Nat):Fn Tryz.prog 77 [v] [.isv ESource v x F] [] (fun (_:Unit)=>True) (fun _=>.bool (goodSrc x)) (fun _=>[]):=by
 refine enter Tryz.func77 rfl Tryz.ntmps77 fun w0=>?_
 refine openSource ?_
 rintro a1 c1 F1 a2 c2 F2 rfl l1 l2
 unfold maxLen at l1 l2
 refine closeSendWindow x.window ?_
 generalize F1=F3
 refine go ?_;intros
 refine cb (fun w st=>l9Good_c _ x.window _ w (st.get (p:=.isv ESendWindow (.agg #[.int .i64 x.window.trail,.int .i64 x.window.size,.slice a1 x.window.items.length c1]) x.window F3) (by simp))) ?_
 cases g1:goodWin x.window
 ·refine go ?_;intros
  refine ret () trivial ?_
  simp [goodSrc,g1,tup]
 obtain ⟨⟨t0,t1⟩, -⟩:=goodWin_iff.1 g1
 refine go ?_;intros
 refine ce (fun w s=>l11Clock_c _ _) ?_
 cases g2:isClk x.clock
 ·refine go ?_;intros
  refine ret () trivial ?_
  simp [goodSrc,g2,tup]
 obtain ⟨k0,k1⟩:=clk_bd g2
 refine go ?_;intros
 refine ce (fun w s=>l1In_c _ _ _ _) ?_
 cases g3:btw 0 x.quiet 3
 ·refine go ?_;intros
  refine ret () trivial ?_
  simp [goodSrc,g3,tup]
 refine go ?_;intros
 refine c_loopR [1,2] (fun k:Nat=>[(3,.int .i64 k)]) (fun k=>k≤x.holds.length∧∀j,j < k→chkH x j=true) (fun k=>x.holds.length - k) 0 ⟨Nat.zero_le _,fun j h=>by omega⟩ fun k hk=>?_
 obtain ⟨hk1,hk2⟩:=hk
 refine go ?_;intros
 refine c_if rfl (fun h3=>?_) (fun h3=>?_)
 ·have hk3:k < x.holds.length:=by omega
  have bad:chkH x k=false→goodSrc x=false:=fun h=>goodSrc_no hk3 h
  have hck:=chkH_at hk3
  refine atHold (xs:=x.holds) k ?_
  rintro hi b o e
  rw [e]
  refine go ?_;intros
  refine ce (fun w s=>l2Good_c _ _) ?_
  cases g4:isSer x.holds[k].number
  ·refine go ?_;intros
   refine ret () trivial ?_
   rw [bad (by rw [hck,g4];rfl)];rfl
  obtain ⟨m0,m1⟩:=isSer_iff.1 g4
  refine go ?_;intros
  refine cb (fun w st=>(l9Held_f x.window x.holds[k].number _ _ t0 t1 m0 m1).val w (hol1 (st.get (p:=.isv ESendWindow (.agg #[.int .i64 x.window.trail,.int .i64 x.window.size,.slice a1 x.window.items.length c1]) x.window F3) (by simp)))) ?_
  cases g5:heldB x.window x.holds[k].number
  ·refine go ?_;intros
   refine ret () trivial ?_
   rw [bad (by rw [hck,g4,g5];rfl)];rfl
  refine go ?_;intros
  refine ce (fun w s=>l1In_c _ _ _ _) ?_
  cases g6:btw (x.clock+1) x.holds[k].untl (x.clock+3)
  ·refine go ?_;intros
   refine ret () trivial ?_
   rw [bad (by rw [hck,g4,g5,g6];rfl)];rfl
  refine go ?_;intros
  by_cases hk0:0 < k
  ·have hk4:k - 1 < x.holds.length:=by omega
   have hp:=hk2 (k - 1) (by omega)
   rw [chkH_at hk4] at hp
   simp only [Bool.and_eq_true] at hp
   obtain ⟨p0,p1⟩:=isSer_iff.1 hp.1.1.1
   rw [←e]
   refine atHold (xs:=x.holds) (k - 1) ?_
   rintro hi5 b5 o5 e5
   rw [e5]
   refine d_start [0,1,3] [] ?_
   refine dt2 0 1 ?_
   rw [decide_eq_true (show (0:Int) < k by omega)]
   refine dt 2 ?_
   refine dtg 3 ?_
   refine dtg 4 ?_
   refine dtg 5 ?_
   refine dtg 6 ?_
   refine dtg 7 ?_
   refine dtg 8 ?_
   refine dtg 9 ?_
   rw [show (k:Int) - 1=((k - 1:Nat):Int) by omega]
   refine dtg 10 ?_
   refine dtg 11 ?_
   refine dtg 12 ?_
   refine dtg 14 ?_
   refine dtg 15 ?_
   refine dtg 16 ?_
   refine dtg 17 ?_
   refine dtg 18 ?_
   refine d1g 13 ?_
   apply On.h
   refine oC ?_
   refine ce (fun w s=>l2Gap_c _ _ _ (by omega) (by omega)) ?_
   refine dk ?_
   refine d1g 19 ?_
   apply On.h
   refine oC ?_
   refine ce (fun w s=>l2Gap_c _ _ _ (by omega) (by omega)) ?_
   refine dk ?_
   refine dtg 20 ?_
   refine dt 21 ?_
   refine dd ?_
   refine go ?_;intros
   refine c_if rfl (fun h6=>?_) (fun h6=>?_)
   ·refine go ?_;intros
    refine ret () trivial ?_
    rw [bad (by rw [hck,decide_eq_true h6,decide_eq_false (show ¬k=0 by omega)];simp)];rfl
   ·refine go ?_;intros
    refine n_lp (k+1) ⟨by omega,fun j hj=>?_⟩ (by omega)
    rcases Nat.lt_or_eq_of_le (Nat.lt_succ_iff.1 hj) with h|rfl
    ·exact hk2 j h
    ·rw [hck,g4,g5,g6,decide_eq_false h6];simp
  ·have hz:k=0:=by omega
   refine d_start [0,2] [] ?_
   refine dt2 0 1 ?_
   rw [decide_eq_false (show ¬(0:Int) < k by omega)]
   refine dt 2 ?_
   refine ds 3 ?_
   refine ds 4 ?_
   refine ds 5 ?_
   refine ds 6 ?_
   refine ds 7 ?_
   refine ds 8 ?_
   refine ds 9 ?_
   refine ds 10 ?_
   refine ds 11 ?_
   refine ds 12 ?_
   refine ds 13 ?_
   refine ds 14 ?_
   refine ds 15 ?_
   refine ds 16 ?_
   refine ds 17 ?_
   refine ds 18 ?_
   refine ds 19 ?_
   refine ds 20 ?_
   refine dt 21 ?_
   refine dd ?_
   refine go ?_;intros
   refine n_lp (k+1) ⟨by omega,fun j hj=>?_⟩ (by omega)
   rcases Nat.lt_or_eq_of_le (Nat.lt_succ_iff.1 hj) with h|rfl
   ·exact hk2 j h
   ·rw [hck,g4,g5,g6,decide_eq_true hz];simp
 have hkl:k=x.holds.length:=by omega
 refine go ?_;intros
 refine ret () trivial ?_
 rw [goodSrc_yes g1 g2 g3 (hkl▸hk2)];rfl
def goodQ (l:List Packet):Bool:=decide (l.length≤6) && l.all goodPk
def upQ (l:List Packet):Bool:=l.all fun p=>decide (p.kind=3)
def zElem (e:Element):Bool:=decide (e.clock=0) && decide (e.entries.length=0)
def zRecv (r:Receiver):Bool:=!r.started && decide (r.clock=0) && zeroRec r
def rightN (par:List Int) (clk:Int) (i:Nat) (e:Element) (r:Receiver) (d u:List Packet):Bool:=goodQ d && goodQ u && upQ u &&
 (if i=0 then zElem e && zRecv r && decide (d.length=0) && decide (u.length=0)
  else if leafT par i then zElem e && goodRec r && decide (r.clock=clk) else goodElement e && decide (e.clock=clk) && zRecv r)
def atNode (n:Net) (i:Nat):Bool:=match n.elements[i]?,n.receivers[i]?,n.down[i]?,n.up[i]? with
 | some e,some r,some d,some u=>rightN n.tree.parent n.source.clock i e r d u
 | _,_,_,_=>true
def lensN (n:Net):Bool:=decide (n.elements.length=n.tree.parent.length) && decide (n.receivers.length=n.tree.parent.length) && decide (n.down.length=n.tree.parent.length) && decide (n.up.length=n.tree.parent.length)
def goodNet (n:Net):Bool:=goodTree n.tree && goodSrc n.source && lensN n && allUpTo (atNode n) n.tree.parent.length
theorem atNode_at {n:Net} {i:Nat} (h1:i < n.elements.length) (h2:i < n.receivers.length) (h3:i < n.down.length) (h4:i < n.up.length):atNode n i=rightN n.tree.parent n.source.clock i n.elements[i] n.receivers[i] n.down[i] n.up[i]:=by
 unfold atNode
 rw [List.getElem?_eq_getElem h1,List.getElem?_eq_getElem h2,List.getElem?_eq_getElem h3,List.getElem?_eq_getElem h4]
theorem lensN_iff {n:Net}:lensN n=true↔n.elements.length=n.tree.parent.length∧n.receivers.length=n.tree.parent.length∧n.down.length=n.tree.parent.length∧n.up.length=n.tree.parent.length:=by
 unfold lensN
 simp only [Bool.and_eq_true,decide_eq_true_eq]
 exact ⟨fun ⟨⟨⟨a,b⟩,c⟩,d⟩=>⟨a,b,c,d⟩,fun ⟨a,b,c,d⟩=>⟨⟨⟨a,b⟩,c⟩,d⟩⟩
theorem goodNet_iff {n:Net}:goodNet n=true↔goodTree n.tree=true∧goodSrc n.source=true∧lensN n=true∧∀i,i < n.tree.parent.length→atNode n i=true:=by
 unfold goodNet
 simp only [Bool.and_eq_true]
 exact ⟨fun ⟨⟨⟨a,b⟩,c⟩,d⟩=>⟨a,b,c,allUpTo_get d⟩,fun ⟨a,b,c,d⟩=>⟨⟨⟨a,b⟩,c⟩,allUpTo_yes d⟩⟩
theorem goodNet_at {n:Net} {i:Nat} (hi:i < n.tree.parent.length) (h:atNode n i=false):goodNet n=false:=by unfold goodNet;rw [allUpTo_no hi h,Bool.and_false]
theorem zRecv_of {r:Receiver} (h:goodRec r=true):zRecv r=(!r.started && decide (r.clock=0)):=by
 unfold zRecv
 cases hs:r.started
 ·unfold goodRec at h
  rw [hs] at h
  simp only [Bool.and_eq_true,Bool.false_eq_true,if_false] at h
  rw [h.2,Bool.and_true]
 ·rfl
theorem good_zRecv {r:Receiver} (h:zRecv r=true):goodRec r=true:=by
 unfold zRecv at h
 simp only [Bool.and_eq_true,Bool.not_eq_true',decide_eq_true_eq] at h
 unfold goodRec
 rw [h.1.1,h.2,h.1.2];rfl
theorem good_zElem {e:Element} (h:zElem e=true):goodElement e=true:=by
 unfold zElem at h
 simp only [Bool.and_eq_true,decide_eq_true_eq] at h
 unfold goodElement
 rw [h.1,h.2];rfl
def rightS (par:List Int) (clk:Int) (i:Nat) (e:Element) (r:Receiver) (d u:List Packet):Bool:=goodElement e && goodRec r && goodQ d && (goodQ u && upQ u) &&
 (if i=0 then zElem e && (!r.started && decide (r.clock=0)) && decide (d.length+u.length=0)
  else if leafT par i then zElem e && decide (r.clock=clk) else (!r.started && decide (r.clock=0)) && decide (e.clock=clk))
theorem rightS_eq (par:List Int) (clk:Int) (i:Nat) (e:Element) (r:Receiver) (d u:List Packet):rightS par clk i e r d u=rightN par clk i e r d u:=by
 have hz:(decide (d.length+u.length=0))=(decide (d.length=0) && decide (u.length=0)):=by
  by_cases a:d.length=0 <;> by_cases b:u.length=0 <;> simp [a,b]
 unfold rightS rightN
 rw [hz]
 cases gq:goodQ d <;> cases gu:goodQ u <;> cases gk:upQ u <;> simp only [Bool.and_false,Bool.false_and,Bool.and_true,Bool.true_and]
 split
 ·cases he:zElem e
  ·simp
  ·rw [good_zElem he]
   cases hr:goodRec r
   ·cases hr2:zRecv r
    ·simp
    ·rw [good_zRecv hr2] at hr;cases hr
   ·rw [zRecv_of hr];simp [Bool.and_assoc]
 ·split
  ·cases he:zElem e
   ·simp
   ·rw [good_zElem he];simp
  ·cases hr:goodRec r
   ·cases hr2:zRecv r
    ·simp
    ·rw [good_zRecv hr2] at hr;cases hr
   ·rw [zRecv_of hr]
    cases goodElement e <;> cases (!r.started && decide (r.clock=0)) <;> simp
def pushQ (q:List Packet) (p:Packet):List Packet:=if q.length < 6 then q++[p] else q
def putQ (q ps:List Packet):List Packet:=q++ps.take (6 - q.length)
theorem putQ_nil (q:List Packet):putQ q []=q:=by unfold putQ;simp
theorem putQ_cons (q:List Packet) (p:Packet) (ps:List Packet):putQ (pushQ q p) ps=putQ q (p::ps):=by
 unfold putQ pushQ
 by_cases h:q.length < 6
 ·rw [if_pos h,show 6 - q.length=(6 - (q.length+1))+1 by omega,List.take_succ_cons]
  simp
 ·rw [if_neg h,show 6 - q.length=0 by omega];simp
theorem putQ_one (q:List Packet) (p:Packet):putQ q [p]=pushQ q p:=by rw [←putQ_cons,putQ_nil]
theorem putQ_len (q ps:List Packet):(putQ q ps).length≤q.length+ps.length∧(q.length≤6→(putQ q ps).length≤6):=by
 unfold putQ
 rw [List.length_append,List.length_take]
 omega
theorem putQ_good {q ps:List Packet} (hq:goodQ q=true) (hp:∀p∈ps,goodPk p=true):goodQ (putQ q ps)=true:=by
 unfold goodQ at *
 simp only [Bool.and_eq_true,decide_eq_true_eq] at hq ⊢
 refine ⟨(putQ_len q ps).2 hq.1,?_⟩
 unfold putQ
 rw [List.all_append,hq.2,Bool.true_and,List.all_eq_true]
 exact fun p h=>hp p (List.mem_of_mem_take h)
def spread (d:List (List Packet)) (nodes:List Int) (ps:List Packet):List (List Packet):=nodes.foldl (fun d x=>d.modify x.toNat fun q=>putQ q ps) d
theorem spread_len (ps:List Packet):∀(nodes:List Int) (d:List (List Packet)),(spread d nodes ps).length=d.length
 | [],_=>rfl
 | x::r,d=>by
  show (spread (d.modify x.toNat fun q=>putQ q ps) r ps).length=d.length
  rw [spread_len ps r,List.length_modify]
theorem spread_snoc (d:List (List Packet)) (nodes:List Int) (x:Int) (ps:List Packet):spread d (nodes++[x]) ps=(spread d nodes ps).modify x.toNat fun q=>putQ q ps:=by
 unfold spread
 rw [List.foldl_append];rfl
def wsum (f:Nat→Nat):Nat→List (List Packet)→Nat
 | _,[]=>0
 | k,x::r=>x.length * f k+wsum f (k+1) r
theorem wsum_set (f:Nat→Nat):∀(l:List (List Packet)) (k i:Nat) (h:i < l.length) (x:List Packet),wsum f k (l.set i x)+l[i].length * f (k+i)=wsum f k l+x.length * f (k+i)
 | [],_,_,h,_=>absurd h (by simp)
 | y::r,k,0,_,x=>by
  show x.length * f k+wsum f (k+1) r+y.length * f k=y.length * f k+wsum f (k+1) r+x.length * f k
  omega
 | y::r,k,i+1,h,x=>by
  have hr:i < r.length:=by simpa using h
  have ih:=wsum_set f r (k+1) i hr x
  show y.length * f k+wsum f (k+1) (r.set i x)+r[i].length * f (k+(i+1))=y.length * f k+wsum f (k+1) r+x.length * f (k+(i+1))
  rw [show k+(i+1)=k+1+i by omega]
  omega
theorem modify_set {l:List (List Packet)} {i:Nat} {g:List Packet→List Packet} (h:i < l.length):l.modify i g=l.set i (g l[i]):=by
 refine List.ext_getElem? fun j=>?_
 rw [List.getElem?_modify,List.getElem?_set]
 by_cases e:i=j
 ·subst e;simp [h]
 ·simp [e]
theorem modify_out {l:List (List Packet)} {i:Nat} {g:List Packet→List Packet} (h:¬i < l.length):l.modify i g=l:=by
 refine List.ext_getElem? fun j=>?_
 rw [List.getElem?_modify]
 by_cases e:i=j
 ·subst e;simp [List.getElem?_eq_none (show l.length≤i by omega)]
 ·simp [e]
theorem wsum_put (f:Nat→Nat) (l:List (List Packet)) (i:Nat) (ps:List Packet):wsum f 0 (l.modify i fun q=>putQ q ps)≤wsum f 0 l+ps.length * f i:=by
 by_cases h:i < l.length
 ·have h1:=wsum_set f l 0 i h (putQ l[i] ps)
  have h2:=Nat.mul_le_mul_right (f i) (putQ_len l[i] ps).1
  rw [Nat.zero_add,Nat.add_mul] at *
  rw [modify_set h]
  omega
 ·rw [modify_out h];omega
def wnodes (f:Nat→Nat) (nodes:List Int):Nat:=(nodes.map fun x=>f x.toNat).sum
theorem wsum_spread (f:Nat→Nat) (ps:List Packet):∀(nodes:List Int) (d:List (List Packet)),wsum f 0 (spread d nodes ps)≤wsum f 0 d+ps.length * wnodes f nodes
 | [],d=>by show wsum f 0 d≤_;omega
 | x::r,d=>by
  have ih:=wsum_spread f ps r (d.modify x.toNat fun q=>putQ q ps)
  have h1:=wsum_put f d x.toNat ps
  show wsum f 0 (spread (d.modify x.toNat fun q=>putQ q ps) r ps)≤wsum f 0 d+ps.length * (f x.toNat+wnodes f r)
  rw [Nat.mul_add];omega
theorem wsum_pop (f:Nat→Nat) (l:List (List Packet)) (i:Nat) (h:i < l.length) (h0:0 < l[i].length):wsum f 0 (l.set i (l[i].drop 1))+f i=wsum f 0 l:=by
 have h1:=wsum_set f l 0 i h (l[i].drop 1)
 rw [List.length_drop,Nat.zero_add] at h1
 have h2:l[i].length * f i=(l[i].length - 1) * f i+f i:=by
  obtain ⟨m,hm⟩:∃m,l[i].length=m+1:=⟨l[i].length - 1,by omega⟩
  rw [hm,Nat.succ_mul,Nat.add_sub_cancel]
 omega
theorem wnodes_le (f:Nat→Nat) (b:Nat):∀nodes:List Int,(∀x∈nodes,f x.toNat≤b)→wnodes f nodes≤nodes.length * b
 | [],_=>by simp [wnodes]
 | x::r,h=>by
  have ih:=wnodes_le f b r fun y hy=>h y (by simp [hy])
  have:=h x (by simp)
  show f x.toNat+wnodes f r≤(r.length+1) * b
  rw [Nat.succ_mul];omega
theorem kids_behind {l:List Int} (hg:GoodT l) {i:Nat} {x:Int} (h:x∈kids l (i:Int)):i < x.toNat∧x.toNat < l.length∧0≤x:=by
 obtain ⟨j,hj,rfl,e⟩:=kids_mem h
 rcases Nat.eq_zero_or_pos j with rfl|h0
 ·have:=hg.z hj;omega
 ·have:=(hg.p j hj h0).2;simp only [Int.toNat_natCast];omega
theorem kids_len (l:List Int) (node:Int):(kids l node).length≤l.length:=kidsTo_len l node l.length
abbrev Bs:=List UInt8
def behind (b:UInt8) (l:Bs):Bs:=(l.dropWhile (· != b)).drop 1
def Whole (x:Bs):Prop:=∃y,x=y++[10]∧∀c∈y,c≠10
theorem digit_len:∀(n u:Nat),u < 10 ^ (n+1)→(Lib.decDigits u).length≤n+1
 | 0,u,h=>by rw [Lib.decDigits,dif_pos (by simpa using h)];simp
 | n+1,u,h=>by
  rw [Lib.decDigits]
  split
  ·simp
  ·have:=digit_len n (u / 10) (by rw [Nat.pow_succ] at h;omega)
   simp;omega
structure Good (c r:Bs):Prop where
 c0:1≤c.length
 c1:c.length≤160
 r1:r.length≤200
 ct:∀b∈c,(32≤b.toNat∧b.toNat≤126)∧b≠35
 rt:∀b∈r,(32≤b.toNat∧b.toNat≤126)∧b≠35
 ca:∀b∈c,b≠64
def bz (l:Bs):ByteArray:=⟨l.toArray⟩
theorem bz_size (l:Bs):(bz l).size=l.length:=by simp [bz,ByteArray.size]
theorem bz_app (a b:Bs):bz a++bz b=bz (a++b):=by apply ByteArray.ext;simp [bz,ByteArray.data_append]
theorem ret_str {a b:ByteArray} (h:a=b):Ending.returned (.string a)=.returned (.string b):=by rw [h]
theorem below_grow (w:World) (k:Nat) (os:Array Obj):Below w.heap.size w (Go.Sort.grow (w.drewN k) os):=by
 refine ⟨rfl,rfl,rfl,?_,fun i hi=>?_⟩
 ·simp [Go.Sort.grow,World.drewN]
 ·simp [Go.Sort.grow,World.drewN,Array.getElem?_append_left hi]
theorem dig_small:∀n:Nat,n < 10→(⟨#[48,49,50,51,52,53,54,55,56,57]⟩:ByteArray).extract n (n+1)=⟨#[UInt8.ofNat (48+n)]⟩:=by decide
theorem l1Num_c:∀(k n:Nat) (w:World),n < 10 ^ (k+1)→n≤999999999999999999 →
  Calls Tryz.prog 227 #[.int .i64 (n:Int)] w fun e w'=>e=.returned (.string (bz (Lib.decDigits n)))∧∃j,w'=w.drewN j:=by
 intro k
 induction k with
 | zero =>
  intro n w h1 h2
  have h3:n < 10:=by simpa using h1
  have hd:=Lib.hid (dig_small n h3)
  have hn:¬((n:Int) < 0):=by omega
  go_enter Tryz.func227,Tryz.ntmps227
  go_wp2_with fail
  go_ret
  refine ⟨ret_str ?_,0,rfl⟩
  rw [hd.out,Lib.decDigits,dif_pos h3];rfl
 | succ k ih =>
  intro n w h1 h2
  by_cases h3:n < 10
  ·have hd:=Lib.hid (dig_small n h3)
   have hn:¬((n:Int) < 0):=by omega
   go_enter Tryz.func227,Tryz.ntmps227
   go_wp2_with fail
   go_ret
   refine ⟨ret_str ?_,0,rfl⟩
   rw [hd.out,Lib.decDigits,dif_pos h3];rfl
  ·have h4:n / 10 < 10 ^ (k+1):=by rw [Nat.pow_succ] at h1;omega
   have hc:=fun w=>ih (n / 10) w h4 (by omega)
   rw [show ((n / 10:Nat):Int)=(n:Int) / 10 from by omega] at hc
   have hn:¬((n:Int) < 0):=by omega
   have h5:¬((n:Int) < 10):=by omega
   have hd:=Lib.hid (dig_small (n % 10) (by omega))
   have b0:(0:Int)≤(n:Int) % 10:=by omega
   have b1:(n:Int) % 10≤9:=by omega
   have e0:IntKind.i64.wrap ((n:Int) / 10)=(n:Int) / 10:=by rw [IntKind.wrap_i64];omega
   have e1:IntKind.i64.wrap ((n:Int) % 10)=(n:Int) % 10:=by rw [IntKind.wrap_i64];omega
   have e2:IntKind.i64.wrap ((n:Int) % 10+1)=(n:Int) % 10+1:=by rw [IntKind.wrap_i64];omega
   have e3:((n:Int) % 10).toNat=n % 10:=by omega
   have e4:((n:Int) % 10+1).toNat=n % 10+1:=by omega
   have e5:(n:Int).tmod 10=(n:Int) % 10:=Int.tmod_eq_emod_of_nonneg (by omega)
   have e6:(n:Int).tdiv 10=(n:Int) / 10:=Int.tdiv_eq_ediv_of_nonneg (by omega)
   have hsl:∀wx,(Instr.slice 9 (.string ⟨#[48,49,50,51,52,53,54,55,56,57]⟩) (some (.int .i64 ((n:Int) % 10))) (some (.int .i64 ((n:Int) % 10+1))) none).run Tryz.prog wx=.ok (.string ⟨#[UInt8.ofNat (48+n % 10)]⟩) wx:=fun wx=>by
    have h6:=run_slice_string (P:=Tryz.prog) wx 9 ⟨#[48,49,50,51,52,53,54,55,56,57]⟩ .i64 .i64 ((n:Int) % 10) ((n:Int) % 10+1) Tryz.underlying9 (by omega) (by omega) (by show _≤((10:Nat):Int);omega)
    rw [h6,e3,e4,hd.out]
   have hD:(bz (Lib.decDigits (n / 10))).size≤18:=by rw [bz_size];exact digit_len 17 _ (by omega)
   have hd1:(⟨#[UInt8.ofNat (48+n % 10)]⟩:ByteArray).size≤1:=by simp [ByteArray.size]
   have hR:Hid (bz (Lib.decDigits (n / 10))++⟨#[UInt8.ofNat (48+n % 10)]⟩=bz (Lib.decDigits n)):=by
    refine Lib.hid ?_
    conv=>rhs;rw [Lib.decDigits,dif_neg (by omega),←bz_app]
    rfl
   generalize bz (Lib.decDigits (n / 10))=D at *
   generalize (⟨#[UInt8.ofNat (48+n % 10)]⟩:ByteArray)=d at *
   clear ih h1 e3 e4
   go_enter Tryz.func227,Tryz.ntmps227
   go_wp2_with fail
   go_quiet ((go_at_call 227;exact Calls.quiet_of (v:=.string D) (hc (World.drewN _ _))))
   go_wp2_with fail
   go_ret
   refine ⟨ret_str ?_,_,rfl⟩
   exact hR.out
def EEnv:Elem Unit where
 sz:=0
 rep w cs _ F:=cs=[]∧Lib.TabIs Tryz.prog w "internal/strconv.uint64pow10" .u64 Lib.pow10Tab∧F=[2]∧∀b∈F,b < w.heap.size
 len h:=by simp [h.1]
 lt h:=h.2.2.2
 frame h hF:=by
  obtain ⟨h1,h2,rfl,h6⟩:=h
  have e0:=hF 2 (by simp)
  refine ⟨h1,?_,rfl,fun b hb=>?_⟩
  ·unfold Lib.TabIs World.var? at h2 ⊢
   rw [show Tryz.prog.globalNamed "internal/strconv.uint64pow10" = some 2 by kernel_rfl] at h2 ⊢
   simp only [Option.bind_some] at h2 ⊢
   rw [e0];exact h2
  ·have e:=hF b hb
   have:=h6 b hb
   rw [Array.getElem?_eq_getElem this] at e
   exact (Array.getElem?_eq_some_iff.1 e).1
def EnvP (FT:List Nat):Pc:=.isv EEnv (.agg #[]) () FT
theorem EnvP.env {w:World} {FT:List Nat} (h:(EnvP FT).P w):Lib.TabIs Tryz.prog w "internal/strconv.uint64pow10" .u64 Lib.pow10Tab∧True:=by
 obtain ⟨cs,_,h⟩:=h;exact ⟨h.2.1,trivial⟩
theorem itoa_c (n:Int) (h0:-9223372036854775808≤n) (h1:n≤9223372036854775807) (FT:List Nat) (w:World) (hT:(EnvP FT).P w) :
  Calls Tryz.prog 211 #[.int .i64 n] w fun e w'=>e=.returned (.string (bz (Lib.itoa n)))∧Below w.heap.size w w':=by
 refine (Tryz.strconv_Itoa n h0 h1 w (EnvP.env hT).1).mono ?_
 rintro e w' ⟨rfl,k,os,rfl⟩
 exact ⟨rfl,below_grow w k os⟩
theorem num_c (n:Nat) (hn:n≤999999) (w:World):Calls Tryz.prog 227 #[.int .i64 (n:Int)] w fun e w2=>e=.returned (.string (bz (Lib.decDigits n)))∧Below w.heap.size w w2:=by
 refine (l1Num_c 5 n w (by omega) (by omega)).mono ?_
 rintro e w2 ⟨rfl,j,rfl⟩
 exact ⟨rfl,belowDrewN (Below.refl _ _) j⟩
def tellE (i:Nat) (e:ByteArray):ByteArray:=bz (Lib.itoa ((i:Nat):Int))++⟨#[32]⟩++e
def tell (i:Nat) (es:List ByteArray):List ByteArray:=es.map (tellE i)
def dly (i:Nat):Int:=1+((i:Nat):Int) % 3
section
variable {c:Cx} {fr:Fr} {H:List Pc} {Φ:Gl}
theorem atPacket {a:Option Addr} {n cp:Nat} {xs:List Packet} {F:List Nat} (i:Nat) (h:∀(hi:i < xs.length) (b o:Nat),a=some ⟨b,o,none⟩→xs[i].data.size≤maxLen→T c fr (.cel b (o+i * 5) [.int .i64 xs[i].kind,.int .i64 xs[i].number,.int .i64 xs[i].trail,.int .i64 xs[i].lead,.string xs[i].data]::H) Φ) (hm:.sl EPacket (.slice a n cp) xs F∈H:=by (repeat (first|exact .head _|apply List.Mem.tail));first|done|fail) (hi:i < xs.length:=by omega):T c fr H Φ:=.mk fun ac w s g=>by
 obtain ⟨b,o,cs,G,ha,hrep,hG,hb,hne,hr⟩:=sl_at (s.get hm) i hi
 obtain ⟨rfl,s1,rfl⟩:=hrep
 exact (h hi b o  ha s1 ).h ac w (s.ro hm rfl rfl ⟨hne,hr⟩ (by intro x hx;simp [Pc.F] at hx;subst hx;exact hb)) g
theorem focPacket {t:TypeId} {a:Option Addr} {n cp:Nat} {xs:List Packet} {F:List Nat} {S:List Pc} (i:Nat) (h:∀(_:i < xs.length) g A B,a=some ⟨g,0,none⟩→F=[g]→xs[i].data.size≤maxLen→Hole EPacket t g (.slice (some ⟨g,0,none⟩) n cp) xs i A B→T c fr (.row g t (0+i * 5) A [.int .i64 xs[i].kind,.int .i64 xs[i].number,.int .i64 xs[i].trail,.int .i64 xs[i].lead,.string xs[i].data] B::S) Φ) (hp:Pick H (.ow EPacket t (.slice a n cp) xs F) S:=by (repeat (first|exact .here|apply Pick.there));first|done|fail) (hi:i < xs.length:=by omega):T c fr H Φ :=
 focF scal_EPacket i (fun hi g A cs B ha hF hr hh=>by obtain ⟨rfl,s1, -⟩:=hr default;exact h hi g A B ha hF s1 hh) hp rfl hi
theorem flatPacket (x:Packet) (s1:x.data.size≤maxLen) (w:World):Flat EPacket w [.int .i64 x.kind,.int .i64 x.number,.int .i64 x.trail,.int .i64 x.lead,.string x.data] [x] []:=⟨_,[],[],[],by simp,by simp,⟨rfl,s1,rfl⟩,rfl,rfl⟩
end
theorem lenE {p:Prop} (h:p:=by first|omega|(simp only [List.length_append,List.length_take,List.length_drop,List.length_cons,List.length_nil,List.length_set,List.length_replicate];omega)):p:=h
def EC (m:Nat):Elem (List Value) where
 sz:=m
 rep _ cs x F:=cs=x∧(x.length=m∧∀u∈x,u.oneCell'=true)∧F=[]
 len h:=by obtain ⟨rfl,⟨h,_⟩,_⟩:=h;exact h
 lt h:=by obtain ⟨_,_,rfl⟩:=h;simp
 frame h _:=h
theorem scal_EC (m:Nat):Scal (EC m):=fun h=>h.2.2
theorem one_EC (m:Nat):One (EC m):=fun h=>by obtain ⟨rfl,⟨_,h⟩,_⟩:=h;exact h
theorem ec_flat {m:Nat} {w:World}:∀{ys:List (List Value)} {cs:List Value} {F:List Nat},Flat (EC m) w cs ys F→cs=ys.flatten∧F=[]∧∀y∈ys,y.length=m
 | [],_,_,h=>⟨h.1,h.2,by simp⟩
 | y::r,_,_,h=>by
  obtain ⟨c1,c2,F1,F2,rfl,rfl,⟨rfl,⟨h1,_⟩,rfl⟩,h2⟩:=h
  obtain ⟨rfl,rfl,h4⟩:=ec_flat h2
  refine ⟨by simp,rfl,fun z hz=>?_⟩
  rcases List.mem_cons.1 hz with rfl|hz
  ·exact h1
  ·exact h4 z hz
theorem flat_ec {α:Type} {E:Elem α} {w w':World} (one:One E):∀{xs:List α} {cs:List Value} {G:List Nat},Flat E w cs xs G→∃ys:List (List Value),ys.length=xs.length∧cs=ys.flatten∧(∀y∈ys,y.length=E.sz)∧Flat (EC E.sz) w' cs ys []
 | [],_,_,h=>⟨[],rfl,h.1,by simp,h.1,rfl⟩
 | x::r,_,_,h=>by
  obtain ⟨c1,c2,F1,F2,rfl,rfl,h1,h2⟩:=h
  obtain ⟨ys,e1,rfl,e2,h3⟩:=flat_ec (w':=w') one h2
  refine ⟨c1::ys,by simp [e1],by simp,fun z hz=>?_,c1,ys.flatten,[],[],rfl,rfl,⟨rfl,⟨E.len h1,one h1⟩,rfl⟩,h3⟩
  rcases List.mem_cons.1 hz with rfl|hz
  ·exact E.len h1
  ·exact e2 z hz
theorem flat_len {m:Nat}:∀{ys:List (List Value)},(∀y∈ys,y.length=m)→ys.flatten.length=ys.length * m
 | [],_=>by simp
 | y::r,h=>by
  have:=flat_len (m:=m) (ys:=r) fun z hz=>h z (by simp [hz])
  rw [List.flatten_cons,List.length_append,this,h y (by simp),List.length_cons,Nat.add_mul];omega
theorem Flat.cut {α:Type} {E:Elem α} {w:World} {c1 c2:List Value} {x1 x2:List α} {G:List Nat} (h:Flat E w (c1++c2) (x1++x2) G) (hl:c1.length=x1.length * E.sz):∃G1 G2,G=G1++G2∧Flat E w c1 x1 G1∧Flat E w c2 x2 G2:=by
 obtain ⟨d1,d2,G1,G2,he,hG,h1,h2⟩:=h.split
 have:d1.length=c1.length:=by rw [h1.len,hl]
 obtain ⟨rfl,rfl⟩:=List.append_inj he this.symm
 exact ⟨G1,G2,hG,h1,h2⟩
theorem sep_nd:∀{N:List Pc},(fp N).Nodup→Sep N
 | [],_=>trivial
 | p::N,h=>⟨fun q hq _ b hb hqb=>nodup_apt h hb (mem_fp.2 ⟨q,hq,hqb⟩),sep_nd (List.nodup_append.1 h).2.1⟩
theorem St.swap {G D w0 H M N R w} (s:St G D w0 H w) (hM:Picks H M R) (hm:∀p∈M,p.mu=true) (hN:Hol N w) (hnd:(fp M).Nodup→(fp N).Nodup) (hF:∀b∈fp N,b∈fp M):St G D w0 (N++R) w :=
 have s1:St G D w0 (M++R) w:=by simpa using hM.st (X:=[]) (by simpa using s)
 have sM:Sep M:=by
  have:∀(M:List Pc),Sep (M++R)→Sep M:=by
   intro M
   induction M with
   | nil=>intro _;trivial
   | cons p M ih=>intro h;exact ⟨fun q hq=>h.1 q (by simp [hq]),ih h.2⟩
  exact this M s1.sep
 have hn:(fp M).Nodup:=fp_nd (by simpa using hm) (fun p hp=>s1.on p (by simp [hp])) sM
 St.turn (M:=M) (N:=N) s1 (Keep.refl _ w) hN (sep_nd (hnd hn)) fun p hp b hb=>by
  obtain ⟨q,hq,hqb⟩:=mem_fp.1 (hF b (mem_fp.2 ⟨p,hp,hb⟩))
  exact .inr (.inl ⟨q,hq,hm q hq,hqb⟩)
section
variable {c:Cx} {fr:Fr} {H:List Pc} {Φ:Gl}
theorem t_shal {α:Type} {E:Elem α} (one:One E) {t:TypeId} {v:Value} {xs:List α} {F:List Nat} {S:List Pc} {m:Nat} (hm:E.sz=m)
  (h:∀(ys:List (List Value)) F0 G,ys.length=xs.length→(∀y∈ys,y.length=m)→T c fr (.ow (EC m) t v ys F0::.flat E ys.flatten xs G::S) Φ) (hp:Pick H (.ow E t v xs F) S:=by (repeat (first|exact .here|apply Pick.there));first|done|fail):T c fr H Φ:=.mk fun a w s g=>by
 subst hm
 have s1:=s.pick hp
 obtain ⟨hnd,ho⟩:=s1.on (.ow E t v xs F) (by simp)
 rcases ho with ⟨rfl,rfl,rfl⟩|⟨b,cap,cs,rest,G,rfl,h2,h3,h4,h5,h6,rfl⟩
 ·refine (h [] [] [] rfl (by simp)).h a w (s1.swap (M:=[_]) (N:=[.ow (EC E.sz) t (.slice none 0 0) [] [],.flat E [] [] []]) (.cons .here .nil) (by intro p hp;simp at hp;subst hp;rfl) ?_ (fun _=>by simp [fp,Pc.F]) (by simp [fp,Pc.F])) g
  intro p hp
  simp only [List.mem_cons,List.not_mem_nil,or_false] at hp
  rcases hp with rfl|rfl
  ·exact ⟨by simp,.inl ⟨rfl,rfl,rfl⟩⟩
  ·exact ⟨by simp,rfl,rfl⟩
 ·obtain ⟨ys,e1,rfl,e2,h7⟩:=flat_ec (w':=w) one h6
  refine (h ys [b] G e1 e2).h a w (s1.swap (M:=[_]) (N:=[.ow (EC E.sz) t (.slice (some ⟨b,0,none⟩) xs.length cap) ys [b],.flat E ys.flatten xs G]) (.cons .here .nil) (by intro p hp;simp at hp;subst hp;rfl) ?_ (fun hn=>by simpa [fp,Pc.F] using hn) (by simp [fp,Pc.F])) g
  intro p hp
  simp only [List.mem_cons,List.not_mem_nil,or_false] at hp
  rcases hp with rfl|rfl
  ·exact ⟨by simp,.inr ⟨b,cap,ys.flatten,rest,[],by rw [e1],h2,by rw [e1];exact h3,h4,h5,h7,rfl⟩⟩
  ·exact ⟨(List.nodup_cons.1 hnd).2,h6⟩
theorem t_deep {α:Type} {E:Elem α} {t:TypeId} {a:Option Addr} {n cp:Nat} {ys:List (List Value)} {cs:List Value} {xs:List α} {F G:List Nat} {S S2:List Pc} {m:Nat}
  (h:T c fr (.ow E t (.slice a n cp) xs (F++G)::S2) Φ) (hm:E.sz=m) (hc:cs=ys.flatten) (hl:ys.length=xs.length) (hp:Pick H (.ow (EC m) t (.slice a n cp) ys F) S:=by (repeat (first|exact .here|apply Pick.there));first|done|fail) (hp2:Pick S (.flat E cs xs G) S2:=by (repeat (first|exact .here|apply Pick.there));first|done|fail):T c fr H Φ:=.mk fun ac w s g=>by
 subst hm hc
 have a1:=s.on _ hp.mem
 have a2:=s.on _ (hp.sub _ hp2.mem)
 obtain ⟨nd1,o1⟩:=a1
 obtain ⟨nd2,f2⟩:=a2
 refine h.h ac w (s.swap (M:=[.ow (EC E.sz) t (.slice a n cp) ys F,.flat E ys.flatten xs G]) (N:=[.ow E t (.slice a n cp) xs (F++G)]) (.cons hp (.cons hp2 .nil)) (by intro p hp;simp at hp;rcases hp with rfl|rfl <;> rfl) ?_ (fun hn=>by simpa [fp,Pc.F] using hn) (by simp [fp,Pc.F])) g
 have hnd:(F++G).Nodup:=by
  have s2:=s.pick hp
  refine List.nodup_append.2 ⟨nd1,nd2,fun b hb b' hb' e=>?_⟩
  subst e
  exact s2.sep.1 (.flat E ys.flatten xs G) hp2.mem rfl b hb hb'
 intro p hp
 simp only [List.mem_cons,List.not_mem_nil,or_false] at hp
 subst hp
 refine ⟨hnd,?_⟩
 rcases o1 with ⟨h1,rfl,rfl⟩|⟨b,cap,cs,rest,G',h1,h2,h3,h4,h5,h6,rfl⟩
 ·cases h1
  have:xs=[]:=List.eq_nil_of_length_eq_zero hl.symm
  subst this
  exact .inl ⟨rfl,rfl,by simpa using f2.2⟩
 ·cases h1
  obtain ⟨rfl,rfl, -⟩:=ec_flat h6
  exact .inr ⟨b,cp,ys.flatten,rest,G,by rw [hl],h2,by rw [←hl];exact h3,h4,h5,f2,rfl⟩
theorem t_fcut {α:Type} {E:Elem α} {ys:List (List Value)} {xs:List α} {G:List Nat} {S:List Pc} (i:Nat) (hi:i < xs.length) (hl:ys.length=xs.length) (hm:∀y∈ys,y.length=E.sz)
  (h:∀G1 Gi G2,T c fr (.flat E (ys.take i).flatten (xs.take i) G1::.own E (.agg (ys[i]'(by omega)).toArray) xs[i] Gi::.flat E (ys.drop (i+1)).flatten (xs.drop (i+1)) G2::S) Φ) (hp:Pick H (.flat E ys.flatten xs G) S:=by (repeat (first|exact .here|apply Pick.there));first|done|fail):T c fr H Φ:=.mk fun ac w s g=>by
 have s1:=s.pick hp
 obtain ⟨hnd,hf⟩:=s1.on (.flat E ys.flatten xs G) (by simp)
 have e1:ys.flatten=(ys.take i).flatten++(ys[i]'(by omega)++(ys.drop (i+1)).flatten):=by
  rw [←List.flatten_cons,←List.drop_eq_getElem_cons,←List.flatten_append,List.take_append_drop]
 have e2:xs=xs.take i++([xs[i]]++xs.drop (i+1)):=by simp
 have hf2:Flat E w ((ys.take i).flatten++(ys[i]'(by omega)++(ys.drop (i+1)).flatten)) (xs.take i++([xs[i]]++xs.drop (i+1))) G:=by rw [←e1,←e2];exact hf
 obtain ⟨G1,G',rfl,f1,f2⟩:=hf2.cut (by rw [flat_len (m:=E.sz) fun y hy=>hm y (List.mem_of_mem_take hy)];simp [hl])
 obtain ⟨Gi,G2,rfl,⟨d1,d2,F1,F2,h1,h2,h3,h4⟩,f3⟩:=f2.cut (by rw [hm _ (List.getElem_mem _)];simp)
 obtain ⟨rfl,rfl⟩:=h4
 simp only [List.append_nil] at h1 h2
 subst h1 h2
 refine (h G1 Gi G2).h ac w (s1.swap (M:=[_]) (N:=[.flat E (ys.take i).flatten (xs.take i) G1,.own E (.agg (ys[i]'(by omega)).toArray) xs[i] Gi,.flat E (ys.drop (i+1)).flatten (xs.drop (i+1)) G2]) (.cons .here .nil) (by intro p hp;simp at hp;subst hp;rfl) ?_ (fun hn=>by simpa [fp,Pc.F] using hn) (by simp [fp,Pc.F])) g
 have hn1:=List.nodup_append.1 hnd
 have hn2:=List.nodup_append.1 hn1.2.1
 intro p hp
 simp only [List.mem_cons,List.not_mem_nil,or_false] at hp
 rcases hp with rfl|rfl|rfl
 ·exact ⟨hn1.1,f1⟩
 ·exact ⟨hn2.1,_,rfl,h3⟩
 ·exact ⟨hn2.2.1,f3⟩
theorem t_fjoin {α:Type} {E:Elem α} {c1 c2:List Value} {x1 x2:List α} {G1 G2:List Nat} {S S2:List Pc} (h:T c fr (.flat E (c1++c2) (x1++x2) (G1++G2)::S2) Φ) (hp:Pick H (.flat E c1 x1 G1) S:=by (repeat (first|exact .here|apply Pick.there));first|done|fail) (hp2:Pick S (.flat E c2 x2 G2) S2:=by (repeat (first|exact .here|apply Pick.there));first|done|fail):T c fr H Φ:=.mk fun ac w s g=>by
 obtain ⟨nd1,f1⟩:=s.on _ hp.mem
 obtain ⟨nd2,f2⟩:=s.on _ (hp.sub _ hp2.mem)
 refine h.h ac w (s.swap (M:=[.flat E c1 x1 G1,.flat E c2 x2 G2]) (N:=[.flat E (c1++c2) (x1++x2) (G1++G2)]) (.cons hp (.cons hp2 .nil)) (by intro p hp;simp at hp;rcases hp with rfl|rfl <;> rfl) ?_ (fun hn=>by simpa [fp,Pc.F] using hn) (by simp [fp,Pc.F])) g
 intro p hq
 simp only [List.mem_cons,List.not_mem_nil,or_false] at hq
 subst hq
 refine ⟨List.nodup_append.2 ⟨nd1,nd2,fun b hb b' hb' e=>?_⟩,f1.append f2⟩
 subst e
 exact (s.pick hp).sep.1 (.flat E c2 x2 G2) hp2.mem rfl b hb hb'
def HoleO {α:Type} (E:Elem α) (t:TypeId) (g:Nat) (v:Value) (xs:List α) (i:Nat) (A B c1 c2:List Value):Prop :=
 ∀w cs y G1 Gi G2,Row w g t (A++cs++B)→Flat E w c1 (xs.take i) G1→E.rep w cs y Gi→Flat E w c2 (xs.drop (i+1)) G2→Ow E t w v (xs.set i y) (g::(G1++Gi++G2))
theorem focO {α:Type} {E:Elem α} {t:TypeId} {a:Option Addr} {n cp m:Nat} {xs:List α} {F:List Nat} {S:List Pc} (i:Nat)
  (h:∀(_:i < xs.length) g A cs B c1 c2 G1 Gi G2,a=some ⟨g,0,none⟩→n=xs.length→n≤cp→HoleO E t g (.slice (some ⟨g,0,none⟩) n cp) xs i A B c1 c2→T c fr (.row g t (0+i * m) A cs B::.own E (.agg cs.toArray) xs[i] Gi::.flat E c1 (xs.take i) G1::.flat E c2 (xs.drop (i+1)) G2::S) Φ)
  (hm:E.sz=m) (hi:i < xs.length) (hp:Pick H (.ow E t (.slice a n cp) xs F) S:=by (repeat (first|exact .here|apply Pick.there));first|done|fail):T c fr H Φ:=.mk fun ac w s ag=>by
 subst hm
 have s1:=s.pick hp
 obtain ⟨hnd,ho⟩:=s1.on (.ow E t (.slice a n cp) xs F) (by simp)
 rcases ho with ⟨-,rfl, -⟩|⟨g,cap,cs0,rest,G,h1,h2,h3,h4,h5,h6,rfl⟩
 ·simp at hi
 cases h1
 obtain ⟨A,cs,B,G1,Gi,G2,rfl,rfl,hA,hc,f1,f2,f3⟩:=h6.focus i hi
 refine (h hi g A cs (B++rest) A B G1 Gi G2 rfl rfl h3 ?_).h ac w (s1.swap (M:=[_]) (N:=[.row g t (0+i * E.sz) A cs (B++rest),.own E (.agg cs.toArray) xs[i] Gi,.flat E A (xs.take i) G1,.flat E B (xs.drop (i+1)) G2]) (.cons .here .nil) (by intro p hp;simp at hp;subst hp;rfl) ?_ (fun hn=>?_) (fun b hb=>?_)) ag
 ·intro w' cs' y G1' Gi' G2' hr k1 k2 k3
  have:=Flat.build hi k1 k2 k3
  have hl:=this.len
  exact .inr ⟨g,cp,A++cs'++B,rest,G1'++Gi'++G2',by simp,by simpa using hr,by simpa using h3,h4,by
   have e1:=E.len k2
   simp only [List.length_append] at h5 ⊢
   omega,this,rfl⟩
 ·have hn1:=List.nodup_append.1 (List.nodup_cons.1 hnd).2
  have hn2:=List.nodup_append.1 hn1.1
  intro p hp
  simp only [List.mem_cons,List.not_mem_nil,or_false] at hp
  rcases hp with rfl|rfl|rfl|rfl
  ·exact ⟨by omega,by simpa using h2⟩
  ·exact ⟨hn2.2.1,_,rfl,f2⟩
  ·exact ⟨hn2.1,f1⟩
  ·exact ⟨hn1.2.1,f3⟩
 ·have:(g::(G1++Gi++G2)).Perm ([g]++(Gi++(G1++(G2++[])))):=by
   simp only [List.singleton_append,List.append_nil,List.append_assoc]
   refine List.Perm.cons _ ?_
   rw [←List.append_assoc,←List.append_assoc]
   exact (List.perm_append_comm).append_right _
  exact this.nodup_iff.1 (by simpa [fp,Pc.F] using hn)
 ·simp only [fp,Pc.F,List.append_nil,List.mem_append,List.mem_cons,List.not_mem_nil,or_false] at hb ⊢
  grind
theorem unfO {α:Type} {E:Elem α} {t:TypeId} {g o i:Nat} {u v:Value} {xs:List α} {A cs B c1 c2:List Value} {x1 x2:List α} {G1 Gi G2:List Nat} {S1 S2 S3 S4:List Pc} (y:α) (hh:HoleO E t g u xs i A B c1 c2) (hv:v=.agg cs.toArray) (h:∀F',T c fr (.ow E t u (xs.set i y) F'::S4) Φ) (e1:x1=xs.take i:=by rfl) (e2:x2=xs.drop (i+1):=by rfl)
  (hp1:Pick H (.row g t o A cs B) S1:=by (repeat (first|exact .here|apply Pick.there));first|done|fail) (hp2:Pick S1 (.own E v y Gi) S2:=by (repeat (first|exact .here|apply Pick.there));first|done|fail) (hp3:Pick S2 (.flat E c1 x1 G1) S3:=by (repeat (first|exact .here|apply Pick.there));first|done|fail) (hp4:Pick S3 (.flat E c2 x2 G2) S4:=by (repeat (first|exact .here|apply Pick.there));first|done|fail):T c fr H Φ:=.mk fun ac w s ag=>by
 subst hv e1 e2
 have hP:Picks H [.row g t o A cs B,.own E (.agg cs.toArray) y Gi,.flat E c1 (xs.take i) G1,.flat E c2 (xs.drop (i+1)) G2] S4:=.cons hp1 (.cons hp2 (.cons hp3 (.cons hp4 .nil)))
 have s1:St c.G c.D c.w0 ([.row g t o A cs B,.own E (.agg cs.toArray) y Gi,.flat E c1 (xs.take i) G1,.flat E c2 (xs.drop (i+1)) G2]++S4) w:=by simpa using hP.st (X:=[]) (by simpa using s)
 obtain ⟨-,r⟩:=s1.on (.row g t o A cs B) (by simp)
 obtain ⟨-,cs',e,hr⟩:=s1.on (.own E (.agg cs.toArray) y Gi) (by simp)
 obtain rfl:cs=cs':=by simpa using e
 have f1:=(s1.on (.flat E c1 (xs.take i) G1) (by simp)).2
 have f3:=(s1.on (.flat E c2 (xs.drop (i+1)) G2) (by simp)).2
 have hO:=hh w cs y G1 Gi G2 r f1 hr f3
 have hpm:(g::(G1++Gi++G2)).Perm ([g]++(Gi++(G1++(G2++[])))):=by
  simp only [List.singleton_append,List.append_nil,List.append_assoc]
  refine List.Perm.cons _ ?_
  rw [←List.append_assoc,←List.append_assoc]
  exact (List.perm_append_comm).append_right _
 have hmM:∀p∈[Pc.row g t o A cs B,.own E (.agg cs.toArray) y Gi,.flat E c1 (xs.take i) G1,.flat E c2 (xs.drop (i+1)) G2],p.mu=true:=by intro p hp;simp only [List.mem_cons,List.not_mem_nil,or_false] at hp;rcases hp with rfl|rfl|rfl|rfl <;> rfl
 have hndM:(fp [Pc.row g t o A cs B,.own E (.agg cs.toArray) y Gi,.flat E c1 (xs.take i) G1,.flat E c2 (xs.drop (i+1)) G2]).Nodup:=fp_nd (by simpa using hmM) (fun p hp=>s1.on p (List.mem_append_left _ hp)) (by
  have sp:=s1.sep
  exact ⟨fun q hq=>sp.1 q (List.mem_append_left _ hq),fun q hq=>sp.2.1 q (List.mem_append_left _ hq),fun q hq=>sp.2.2.1 q (List.mem_append_left _ hq),fun q hq=>sp.2.2.2.1 q (List.mem_append_left _ hq),trivial⟩)
 have hnd:(g::(G1++Gi++G2)).Nodup:=hpm.nodup_iff.2 (by simpa [fp,Pc.F] using hndM)
 refine (h (g::(G1++Gi++G2))).h ac w (s.swap hP hmM (N:=[.ow E t u (xs.set i y) (g::(G1++Gi++G2))]) (by intro p hp;rw [List.mem_singleton] at hp;subst hp;exact ⟨hnd,hO⟩) (fun _=>by simpa [fp,Pc.F] using hnd) (fun b hb=>?_)) ag
 simp only [fp,Pc.F,List.append_nil,List.mem_append,List.mem_cons,List.not_mem_nil,or_false] at hb ⊢
 grind
theorem ap1o {α:Type} {E:Elem α} {t e m b:Nat} {z:Value} [hS:SlC c.P t e m] [hE:ElT c.P e z m b] {xs:List α} {F Fy:List Nat} {g tt:Nat} {cs:List Value} {u:Value} {R R2 S:List Pc} {d:Nat} {ty:TypeId} {v:Value} {x y:Operand} (one:One E) (ey:α) (hu:u=.agg cs.toArray)
  (h:∀a' c' F',T c ((d,.slice a' (xs++[ey]).length c')::fr) (.ow E e (.slice a' (xs++[ey]).length c') (xs++[ey]) F'::S) Φ)
  (hx:ev fr x=some v:=by rfl) (hy:ev fr y=some (.slice (some ⟨g,0,none⟩) 1 1):=by rfl) (hp:Pick H (.ow E e v xs F) R:=by (repeat (first|exact .here|apply Pick.there));first|done|fail) (hp2:Pick R (.row g tt 0 [] cs []) R2:=by (repeat (first|exact .here|apply Pick.there));first|done|fail) (hp3:Pick R2 (.own E u ey Fy) S:=by (repeat (first|exact .here|apply Pick.there));first|done|fail) (hz:0 < E.sz:=by decide) (hm:E.sz=m:=by rfl)
  (h63:xs.length+1≤9223372036854775807:=by omega) (hby:(xs.length+1) * b≤140737488355328:=by omega) (hd:Nat.blt d c.n=true:=by rfl) :
  On c fr H (some d) (.call { callee:=.builtin .append,args:=#[x,y],argTypes:=#[t,t] }) ty Φ:=⟨fun _ _ _=>by
 subst hu
 refine ap (ys:=[ey]) (Fy:=Fy) (S:=S) one hz hm hp hx hy rfl (fun w s=>?_) (fun w v' F' s hF w' hk hv=>?_) (by unfold maxLen;exact h63) hby h hd
 ·have hro:=s.on (.row g tt 0 [] cs []) (by simp [hp2.mem])
  have how:=s.on (.own E (.agg cs.toArray) ey Fy) (by simp [hp2.sub _ hp3.mem])
  obtain ⟨hnd,cs',e1,hrep⟩:=how
  obtain rfl:cs=cs':=by simpa using e1
  refine ⟨cs,Flat.one hrep,.inr ⟨_,rfl,fun j u hu=>?_⟩,fun b hb hbF=>?_,hnd⟩
  ·have hr:=hro.2
   have:=hr.cell j
   simp only [List.nil_append,List.append_nil] at this
   rw [hu] at this
   unfold Addr.add
   split
   ·rename_i e;subst e;exact this
   ·simpa using this
  ·exact s.sep.1 (.own E (.agg cs.toArray) ey Fy) (hp2.sub _ hp3.mem) rfl b hbF hb
 ·have hP:Picks (.ow E e v xs F::R) [.ow E e v xs F,.own E (.agg cs.toArray) ey Fy,.row g tt 0 [] cs []] S:=.cons .here (by
   have:∀{R R2 S:List Pc} {p q:Pc},Pick R p R2→Pick R2 q S→Picks R [q,p] S:=by
    intro R R2 S p q h1
    induction h1 generalizing S with
    | here=>intro h2;exact .cons (.there h2) (.cons .here .nil)
    | @there x p R R' h ih =>
     intro h2
     cases h2 with
     | here=>exact .cons .here (.cons h .nil)
     | there h3 =>
      cases ih h3 with
      | cons a1 a2 =>
       cases a2 with
       | cons b1 b2=>cases b2;exact .cons (.there a1) (.cons (.there b1) .nil)
   exact this hp2 hp3)
  have s1:St c.G c.D c.w0 ([.ow E e v xs F,.own E (.agg cs.toArray) ey Fy]++S) w:=by
   have s0:St c.G c.D c.w0 ([.ow E e v xs F,.own E (.agg cs.toArray) ey Fy,.row g tt 0 [] cs []]++S) w:=by simpa using hP.st (X:=[]) (by simpa using s)
   have sp:=s0.sep
   have hm3:∀q,q∈[Pc.ow E e v xs F,.own E (.agg cs.toArray) ey Fy]++S→q∈[Pc.ow E e v xs F,.own E (.agg cs.toArray) ey Fy,.row g tt 0 [] cs []]++S:=fun q hq=>by
    simp only [List.cons_append,List.nil_append,List.mem_cons] at hq ⊢
    rcases hq with h|h|h
    ·exact .inl h
    ·exact .inr (.inl h)
    ·exact .inr (.inr (.inr h))
   exact ⟨s0.keep,fun q hq=>s0.on q (hm3 q hq),⟨fun q hq=>sp.1 q (by
    rcases List.mem_cons.1 hq with h|h
    ·simp [h]
    ·exact List.mem_cons_of_mem _ (List.mem_cons_of_mem _ h)),fun q hq=>sp.2.1 q (List.mem_cons_of_mem _ hq),sp.2.2.2⟩,fun q hq=>s0.mine q (hm3 q hq)⟩
  refine St.turn (M:=[.ow E e v xs F,.own E (.agg cs.toArray) ey Fy]) (N:=[.ow E e v' (xs++[ey]) F']) s1 (hk.mono (fun b hb _=>by simp [List.filter,Pc.mu,fp,Pc.F,hb])) (by intro q hq;simp at hq;subst hq;exact hv) ⟨by simp,trivial⟩ ?_
  intro q hq b hb
  simp only [List.mem_cons,List.not_mem_nil,or_false] at hq;subst hq
  rcases hF b hb with h|h|h
  ·exact .inr (.inl ⟨.ow E e v xs F,by simp,rfl,h⟩)
  ·exact .inr (.inl ⟨.own E (.agg cs.toArray) ey Fy,by simp,rfl,h⟩)
  ·exact .inl (by omega)⟩
theorem t_stk {α:Type} {E:Elem α} {a:Option Addr} {n cp:Nat} {xs:List α} {F:List Nat} (k:Nat) (hk:k≤xs.length) (h:∀F',n≤cp→cp≤9223372036854775807→T c fr (.sl E (.slice a k cp) (xs.take k) F'::H) Φ) (hm:.sl E (.slice a n cp) xs F∈H:=by (repeat (first|exact .head _|apply List.Mem.tail));first|done|fail):T c fr H Φ:=.mk fun ac w s g=>by
 obtain ⟨hz,hs⟩:=s.get hm
 obtain ⟨rfl,hnc,hmx⟩:=hs.caps
 obtain ⟨F',hF,h2⟩:=hs.takeS k hk
 exact (h F' hnc (by unfold maxLen at hmx;omega)).h ac w (s.ro hm rfl rfl ⟨hz,h2⟩ hF) g
/-! the same for slices that read -/
def EA {α:Type} (E:Elem α) (n:Nat):Elem (List α) where
 sz:=n * E.sz
 rep w cs xs F:=xs.length=n∧Flat E w cs xs F
 len h:=by obtain ⟨rfl,h⟩:=h;exact h.len
 lt h:=h.2.lt
 frame h hF:=⟨h.1,h.2.frame hF⟩
theorem t_deepR {α:Type} {E:Elem α} {a:Option Addr} {n cp m k:Nat} {ys:List (List Value)} {v:Value} {xs:List α} {F G:List Nat} (hm:E.sz=m) (hl:ys.length=xs.length) (hv:v=.agg ys.flatten.toArray)
  (h:∀F',T c fr (.sl E (.slice a n cp) xs F'::H) Φ) (hp:.sl (EC m) (.slice a n cp) ys F∈H:=by (repeat (first|exact .head _|apply List.Mem.tail));first|done|fail) (hp2:.isv (EA E k) v xs G∈H:=by (repeat (first|exact .head _|apply List.Mem.tail));first|done|fail):T c fr H Φ:=.mk fun ac w s g=>by
 subst hm hv
 obtain ⟨hz,a',cap,hv,hlc,hh⟩:=s.get hp
 cases hv
 obtain ⟨cs,e, -,hf⟩:=s.get hp2
 obtain rfl:ys.flatten=cs:=by simpa using e
 rcases hh with ⟨rfl,rfl,h0⟩|⟨b,off,F',rfl,hne,rfl,hc⟩
 ·have:xs=[]:=List.eq_nil_of_length_eq_zero hl.symm
  subst this
  refine (h []).h ac w (s.add (N:=[.sl E (.slice a 0 cp) [] []]) (Below.refl _ _) (by intro p hp;simp only [List.mem_cons,List.not_mem_nil,or_false] at hp;subst hp;exact ⟨hz,a,cp,rfl,hlc,.inl ⟨rfl,rfl,h0⟩⟩) ⟨by simp,trivial⟩ (by intro p hp b hb;simp only [List.mem_cons,List.not_mem_nil,or_false] at hp;subst hp;simp [Pc.F] at hb)) g
 ·have hxs:xs≠[]:=by rintro rfl;exact hne (List.eq_nil_of_length_eq_zero hl)
  have key:∀(ys:List (List Value)) (off:Nat) (G:List Nat),Cells (EC E.sz) w b off ys G→∀j u,ys.flatten[j]?=some u→w.cell? ⟨b,off+j,none⟩=some u:=by
   intro ys
   induction ys with
   | nil=>intro off G _ j u hu;simp at hu
   | cons y r ih =>
    intro off G h j u hu
    obtain ⟨c1,F1,F2,rfl,⟨rfl,⟨hy, -⟩, -⟩,h2,h3⟩:=h
    rw [List.flatten_cons] at hu
    by_cases hj:j < c1.length
    ·rw [List.getElem?_append_left hj] at hu
     rw [h2 j (by show j < E.sz;omega)];exact hu
    ·rw [List.getElem?_append_right (by omega)] at hu
     have:=ih _ _ h3 _ _ hu
     rwa [show off+(EC E.sz).sz+(j - c1.length)=off+j by show off+E.sz+(j - c1.length)=off+j;omega] at this
  refine (h (b::G)).h ac w (s.add (N:=[.sl E (.slice (some ⟨b,off,none⟩) ys.length cp) xs (b::G)]) (Below.refl _ _) (by
   intro p hp
   simp only [List.mem_cons,List.not_mem_nil,or_false] at hp;subst hp
   exact ⟨hz,_,cp,by rw [hl],by rw [←hl];exact hlc,.inr ⟨b,off,G,rfl,hxs,rfl,hf.cells (fun j u hu=>key ys off F' hc j u hu)⟩⟩) ⟨by simp,trivial⟩ (by
   intro p hq z hb
   simp only [List.mem_cons,List.not_mem_nil,or_false] at hq;subst hq
   simp only [Pc.F,List.mem_cons] at hb
   rcases hb with rfl|hb
   ·exact .inr ⟨rfl,_,hp,rfl,by simp [Pc.F]⟩
   ·exact .inr ⟨rfl,_,hp2,rfl,hb⟩)) g
theorem t_weakI {α:Type} {O R:Elem α} (hW:Weak O R) {v:Value} {x:α} {F:List Nat} {S:List Pc} (h:∀F',T c fr (.isv R v x F'::S) Φ) (hp:Pick H (.own O v x F) S:=by (repeat (first|exact .here|apply Pick.there));first|done|fail):T c fr H Φ:=.mk fun a w s g=>by
 have s1:=s.pick hp
 obtain ⟨-,ho⟩:=s1.on (.own O v x F) (by simp)
 obtain ⟨F',hF,hs⟩:=IsV.weak hW ho
 exact (h F').h a w (s1.conv rfl hs hF) g
end
section
variable {c:Cx} {fr:Fr} {H:List Pc} {Φ:Gl}
theorem at_ESl {α:Type} {E:Elem α} {hz:0 < E.sz} {a:Option Addr} {n cp:Nat} {xs:List (List α)} {F:List Nat} (i:Nat) (h:∀(hi:i < xs.length) (b o:Nat) (a1:Option Addr) (c1:Nat) (F1:List Nat),a=some ⟨b,o,none⟩→xs[i].length≤maxLen→T c fr (.cel b (o+i * 1) [.slice a1 xs[i].length c1]::.sl E (.slice a1 xs[i].length c1) xs[i] F1::H) Φ) (hm:.sl (ESl E hz) (.slice a n cp) xs F∈H:=by (repeat (first|exact .head _|apply List.Mem.tail));first|done|fail) (hi:i < xs.length:=by omega):T c fr H Φ:=.mk fun ac w s g=>by
 obtain ⟨b,o,cs,G,ha,hrep,hG,hb,hne,hr⟩:=sl_at (s.get hm) i hi
 obtain ⟨v1,rfl,h1⟩:=hrep
 obtain ⟨a1,c1,rfl⟩:=h1.slice;have l1:=h1.len
 have t1:=s.ro (p:=.sl E (.slice a1 xs[i].length c1) xs[i] G) hm rfl rfl ⟨hz,h1⟩ (by intro b hb;simp only [Pc.F] at hb ⊢;exact hG b (by simp [hb]))
 exact (h hi b o a1 c1 G ha l1).h ac w (t1.ro (List.mem_cons_of_mem _ hm) rfl rfl ⟨hne,hr⟩ (by intro x hx;simp [Pc.F] at hx;subst hx;exact hb)) g
theorem openOSl {α:Type} {O:Elem α} {t:TypeId} {v:Value} {xs:List α} {F:List Nat} {S:List Pc} (h:∀(a1:Option Addr) (c1:Nat),v=.agg #[.slice a1 xs.length c1]→xs.length≤maxLen→T c fr (.ow O t (.slice a1 xs.length c1) xs F::S) Φ) (hp:Pick H (.own (OSl O t) v xs F) S:=by (repeat (first|exact .here|apply Pick.there));first|done|fail):T c fr H Φ:=.mk fun a w s g=>by
 have z1:=s.pick hp
 obtain ⟨hn,cs,rfl,v1,rfl,h1⟩:=z1.on (.own (OSl O t) v xs F) (by simp)
 obtain ⟨a1,c1,rfl⟩:=h1.slice
 have l1:=h1.len
 exact (h a1 c1 rfl l1).h a w (z1.conv rfl ⟨hn,h1⟩ (fun b hb=>hb)) g
theorem closeOSl {α:Type} {O:Elem α} {t:TypeId} (xs:List α) {a1:Option Addr} {c1:Nat} {F:List Nat} {S:List Pc} (h:T c fr (.own (OSl O t) (.agg #[.slice a1 xs.length c1]) xs F::S) Φ) (hp:Pick H (.ow O t (.slice a1 xs.length c1) xs F) S:=by (repeat (first|exact .here|apply Pick.there));first|done|fail):T c fr H Φ:=.mk fun a w s g=>by
 have z1:=s.pick hp
 obtain ⟨hn,h1⟩:=z1.on (.ow O t (.slice a1 xs.length c1) xs F) (by simp)
 exact h.h a w (z1.conv rfl ⟨hn,_,rfl,_,rfl,h1⟩ (fun b hb=>hb)) g
end
theorem sep_roA:∀(A:List Pc),A.all (fun p=>!p.mu)=true→Sep A
 | [],_=>trivial
 | p::A,h=>by
  simp only [List.all_cons,Bool.and_eq_true,Bool.not_eq_true'] at h
  exact ⟨fun q hq hm=>by
   have hq':=List.all_eq_true.1 h.2 q hq
   simp only [Bool.not_eq_true'] at hq'
   rw [h.1,hq'] at hm;simp at hm,sep_roA A h.2⟩
section
variable {c:Cx} {fr:Fr} {H:List Pc} {d:Nat} {Φ:Gl}
theorem cfr {f:Nat} {vs:List Value} {σ:Type} {C:σ→Prop} {vv:σ→Value} {N:σ→List Pc} (hf:∀w,St c.G c.D c.w0 H w→∃A,Hol A w∧A.all (fun p=>!p.mu)=true∧Fn c.P f vs A [] C vv N)
  (h:∀s,C s→T c ((d,vv s)::fr) (N s++H) Φ) (hN:∀s,(N s).all (·.mu)=true:=by intro s;rfl):Cl c fr H d f vs Φ :=
 cl_of (R:=fun w e w'=>∃s,C s∧e=.returned (vv s)∧Hol (N s) w'∧Sep (N s)∧Keep [] w w'∧∀p∈N s,∀b∈p.F,w.heap.size≤b)
  (fun w s=>by
   obtain ⟨A,hA,hm,hF⟩:=hf w s
   refine (hF w (by simpa using hA) (by simpa using sep_roA A hm)).mono fun e w' ⟨z,hz,he,h1,h2,h3,h4⟩=>⟨z,hz,he,h1,h2,h3,fun p hp b hb=>?_⟩
   rcases h4 p hp b hb with h|⟨q,hq, -⟩|⟨hp', -⟩
   ·exact h
   ·cases hq
   ·have:=List.all_eq_true.1 (hN z) p hp
    rw [hp'] at this;cases this)
  (fun w e w' s ⟨z,hz,he,h1,h2,h3,h4⟩=>⟨_,he,fun a g=>(h z hz).h a w' (St.turn (M:=[]) (R:=H) (N:=N z) s h3 h1 h2 fun p hp b hb=>.inl (h4 p hp b hb)) g⟩)
theorem sep_lend {M A R:List Pc} (hm:M.all (·.mu)=true) (hA:A.all (fun p=>!p.mu)=true) (hb:∀p∈A,∀b∈p.F,∃q∈R,b∈q.F):Sep (M++R)→Sep (M++A):=by
 induction M with
 | nil=>intro _;exact sep_roA A hA
 | cons p M ih =>
  simp only [List.all_cons,Bool.and_eq_true] at hm
  intro s
  refine ⟨fun q hq=>?_,ih hm.2 s.2⟩
  rcases List.mem_append.1 hq with h|h
  ·exact s.1 q (by simp [h])
  ·intro _ b hp hq2
   obtain ⟨r,hr,hbr⟩:=hb q h b hq2
   exact s.1 r (by simp [hr]) (by rw [hm.1];rfl) b hp hbr
theorem cfm {f:Nat} {vs:List Value} {M R:List Pc} {σ:Type} {C:σ→Prop} {vv:σ→Value} {N:σ→List Pc} (hM:Picks H M R) (hf:∀w,St c.G c.D c.w0 (M++R) w→∃A,Hol A w∧A.all (fun p=>!p.mu)=true∧(∀p∈A,∀b∈p.F,∃q∈R,b∈q.F)∧Fn c.P f vs A M C vv N)
  (h:∀s,C s→T c ((d,vv s)::fr) (N s++R) Φ) (hmM:M.all (·.mu)=true:=by rfl) (hN:∀s,(N s).all (·.mu)=true:=by intro s;rfl):Cl c fr H d f vs Φ :=
 have hMR:∀w,St c.G c.D c.w0 H w→St c.G c.D c.w0 (M++R) w:=fun w s=>by simpa using hM.st (X:=[]) (by simpa using s)
 have hmu:∀p∈M,p.mu=true:=fun p hp=>List.all_eq_true.1 hmM p hp
 cl_of (R:=fun w e w'=>∃s,C s∧e=.returned (vv s)∧Hol (N s) w'∧Sep (N s)∧Keep (fp M) w w'∧∀p∈N s,∀b∈p.F,w.heap.size≤b∨∃q∈M,b∈q.F)
  (fun w s=>by
   obtain ⟨A,hA,hm,hb,hF⟩:=hf w (hMR w s)
   have s2:=hMR w s
   refine (hF w (fun p hp=>?_) (sep_lend hmM hm hb s2.sep)).mono fun e w' ⟨z,hz,he,h1,h2,h3,h4⟩=>⟨z,hz,he,h1,h2,h3,fun p hp b hb=>?_⟩
   ·rcases List.mem_append.1 hp with hp|hp
    ·exact s2.on p (by simp [hp])
    ·exact hA p hp
   ·rcases h4 p hp b hb with h|h|⟨hp', -⟩
    ·exact .inl h
    ·exact .inr h
    ·have:=List.all_eq_true.1 (hN z) p hp
     rw [hp'] at this;cases this)
  (fun w e w' s ⟨z,hz,he,h1,h2,h3,h4⟩=>⟨_,he,fun a g=>(h z hz).h a w' (St.turn (hMR w s) (by rwa [List.filter_eq_self.2 hmu]) h1 h2 fun p hp b hb=>by
   rcases h4 p hp b hb with h|⟨q,hq,hqb⟩
   ·exact .inl h
   ·exact .inr (.inl ⟨q,hq,hmu q hq,hqb⟩)) g⟩)
theorem t_each {α:Type} {E:Elem α} (Q:α→Prop) (hQ:∀w cs x F,E.rep w cs x F→Q x) {a:Option Addr} {n cp:Nat} {xs:List α} {F:List Nat} (h:(∀x∈xs,Q x)→T c fr H Φ) (hm:.sl E (.slice a n cp) xs F∈H:=by (repeat (first|exact .head _|apply List.Mem.tail));first|done|fail):T c fr H Φ:=.mk fun ac w s g =>
 (h fun x hx=>by
  obtain ⟨k,hk,rfl⟩:=List.getElem_of_mem hx
  obtain ⟨-,hs⟩:=s.get hm
  obtain ⟨-, -,cs,F1, -,h1, -, -⟩:=hs.at k hk
  exact hQ _ _ _ _ h1).h ac w s g
theorem t_fall {P:Program} {fn:Func} {G D:List Nat} {w0:World} {n:Nat} {R:Ending→World→Prop} (h:T ⟨P,G,D,w0,n,bodyPost P fn R⟩ fr H (.fin .ret)):T ⟨P,G,D,w0,n,bodyPost P fn R⟩ fr H (.norm []):=n_end ⟨fun a w s g=>h.h a w s g⟩
end
section
variable {P:Program} {ops:Array Oper} {Q:Exit→Act→World→Prop} {md:Region.Mode} {S:World→Prop} {X:Nat→Bool}
theorem AnyX.firstP {i:Nat} {oi:Oper} {v:Value} (hi:ops[i]?=some oi) (hsel:∀(j:Nat) (o:Oper) cs b,ops[j]?=some o→o.op≠.select cs b)
  (hQ:∀c a w,Q (.panic c) (a.put oi.dst v) w→Q (.panic c) a w) (hXi:X i=true) :
  ∀(f:Nat) (listed:Array Bool) (a:Act) (w:World),
   (∀j oj,ops[j]?=some oj→j≠i→listed.getD j true=false→(∀e∈oj.after,Region.binds md e=true→e.on≠i)→oi.apart ops oj=true) →
   i∈Region.ready md ops listed→YieldsIf P ops (fun _=>True) oi v a→AnyX P md ops Q S X f (listed.setIfInBounds i true) (a.put oi.dst v) w→AnyX P md ops Q S X (f+1) listed a w:=by
 intro f
 induction f with
 | zero =>
  intro listed a w _ hr hy H
  refine ⟨fun h=>(by rw [h] at hr;cases hr),fun j hj=>?_⟩
  by_cases hji:j=i
  ·subst hji;exact hy.wpOp hi trivial ⟨(fun h=>by rw [hXi] at h;cases h),H⟩
  ·have:=ready_mono hj hji
   rw [H.1] at this;cases this
 | succ f ih =>
  intro listed a w hfree hr hy H
  refine ⟨fun h=>(by rw [h] at hr;cases hr),fun j hj=>?_⟩
  by_cases hji:j=i
  ·subst hji;exact hy.wpOp hi trivial ⟨(fun h=>by rw [hXi] at h;cases h),H⟩
  ·obtain ⟨hju,oj,hoj,hall⟩:=mem_ready.1 hj
   have hiu:=unlisted (mem_ready.1 hr).1
   have hnot:∀e∈oj.after,Region.binds md e=true→e.on≠i:=fun e he hb heq=>by
    have h1:=hall e he hb
    rw [heq,hiu] at h1;cases h1
   have h2:=wpOp_putIf hoj (hfree j oj hoj hji hju hnot) (fun cs b=>hsel i oi cs b hi) (fun cs b=>hsel j oj cs b hoj) hQ hy (H.2 j (ready_mono hj hji))
   refine wpOp_mono (fun a' w' h3=>⟨h3.2.1,ih (listed.setIfInBounds j true) a' w' (fun k ok hk hki hun hno=>hfree k ok hk hki ?_ hno) (ready_mono hr (Ne.symm hji)) h3.1 ?_⟩) h2
   ·by_cases hjk:j=k
    ·subst hjk;exact hju
    ·rw [getD_set_ne true hjk] at hun;exact hun
   ·rw [Array.setIfInBounds_comm _ _ hji];exact h3.2.2
theorem AnyX.takeP {i:Nat} {oi:Oper} {v:Value} {f:Nat} {listed:Array Bool} {a:Act} {w:World} (hi:ops[i]?=some oi)
  (hs:Region.noSelect ops=true) (hf:Region.free md ops listed i=true) (hr:(Region.ready md ops listed).contains i=true) (hXi:X i=true)
  (hQ:∀c a w,Q (.panic c) (a.put oi.dst v) w→Q (.panic c) a w) (hy:YieldsIf P ops (fun _=>True) oi v a)
  (h:AnyX P md ops Q S X f (listed.setIfInBounds i true) (a.put oi.dst v) w):AnyX P md ops Q S X (f+1) listed a w :=
 AnyX.firstP hi (Region.noSelect_spec hs) hQ hXi f listed a w (Region.free_spec hi hf) (by simpa using hr) hy h
end
section
variable {c:Cx} {fr:Fr} {H H0:List Pc} {k:List It} {X:List Nat} {ops:Array Oper} {f:Nat} {listed:Array Bool} {d:Nat} {o:Op} {ty:TypeId} {pos:String} {aft:Array Edge} {v:Value}
theorem dtp (i:Nat) (h:T c ((d,v)::fr) H (.dx k H0 X ops f (listed.setIfInBounds i true))) (ho:ops[i]?=some ⟨some d,o,ty,pos,aft,none⟩:=by rw [List.getElem?_toArray];rfl) (hy:Yd c.P c.n fr [] o ty v:=by exact ydE) (hX:X.contains i=true:=by rfl)
  (h1:Region.noSelect ops=true:=by kernel_rfl) (h2:Region.free .any ops listed i=true:=by kernel_rfl) (h3:(Region.ready .any ops listed).contains i=true:=by kernel_rfl) (hR:PanOk c:=by exact panOk) (hd:Nat.blt d c.n=true:=by rfl) :
  T c fr H (.dx k H0 X ops (f+1) listed):=.mk fun a w s g =>
 AnyX.takeP (v:=v) ho h1 h2 h3 hX (fun ch a w hp=>by rw [run_panic] at hp ⊢;exact hR _ _ _ _ _ hp) (.inl ⟨rfl,fun w' _=>hy.h a w' _ _ _ _ g (by intro p hp;simp at hp)⟩) (h.h _ _ s (g.put hd))
theorem c_join2 {c:Cx} {fr:Fr} {H:List Pc} {k:List It} {x y:Code} {σ:Type} {cst:Fr} {rest:List Pc} (ks rs:List Nat) (upd:σ→Fr) (chg:σ→List Pc) (C:σ→Prop) (h:T c fr H (.code (.cd y::.lp (Jn c (fun s=>upd s++cst) (fun s=>chg s++rest) C)::k) x)) (h2:∀s,C s→T c (upd s++cst) (chg s++rest) (.norm k))
  (_hk:Kf fr ks cst:=by repeat (first|exact Kf.nil|apply Kf.cons (by rfl))) (_hr:Sel H rs rest:=by repeat constructor):T c fr H (.code (.cd y::k) x):=.mk fun a w s g=>by
 refine wp_mono (h.h a w s g) fun e a1 w1 he=>?_
 cases e with
 | normal =>
  refine wp_mono he fun e a2 w2 he=>?_
  cases e with
  | normal=>obtain ⟨s,hC,hs,hg⟩:=he;exact (h2 s hC).h a2 w2 hs hg
  | _=>exact he
 | _=>exact he
end
section
variable {c:Cx} {fr:Fr} {H H0:List Pc} {k:List It} {Φ:Gl} {X:List Nat} {ops:Array Oper} {f:Nat} {listed:Array Bool} {d:Nat} {o:Op} {ty:TypeId} {v u:Value} {x y:Operand}
theorem t_weakV {α:Type} {O R:Elem α} (hW:Weak O R) {v:Value} {x:α} {F:List Nat} {S:List Pc} (h:∀F',T c fr (.isv R v x F'::S) Φ) (hp:Pick H (.own O v x F) S:=by (repeat (first|exact .here|apply Pick.there));first|done|fail):T c fr H Φ:=.mk fun a w s g=>by
 have s1:=s.pick hp
 obtain ⟨-,ho⟩:=s1.on (.own O v x F) (by simp)
 obtain ⟨F',hF,hs⟩:=IsV.weak hW ho
 exact (h F').h a w (s1.conv rfl hs hF) g
theorem t_weakL {α:Type} {O R:Elem α} (hW:Weak O R) {t:TypeId} {v:Value} {xs:List α} {F:List Nat} {S:List Pc} (h:∀F',T c fr (.sl R v xs F'::S) Φ) (hp:Pick H (.ow O t v xs F) S:=by (repeat (first|exact .here|apply Pick.there));first|done|fail) (hz:0 < R.sz:=by decide):T c fr H Φ:=.mk fun a w s g=>by
 have s1:=s.pick hp
 obtain ⟨-,ho⟩:=s1.on (.ow O t v xs F) (by simp)
 obtain ⟨F',hF,hs⟩:=ho.sl hW
 exact (h F').h a w (s1.conv rfl ⟨hz,hs⟩ hF) g
theorem t_aggI {α:Type} {E:Elem α} {v:Value} {x:α} {F:List Nat} (one:One E) (h:∀cs:List Value,v=.agg cs.toArray→cs.length=E.sz→cs.all (·.oneCell')=true→T c fr H Φ) (hm:.isv E v x F∈H:=by (repeat (first|exact .head _|apply List.Mem.tail));first|done|fail):T c fr H Φ:=.mk fun a w s g=>by
 obtain ⟨cs,hv,hx⟩:=s.get hm
 exact (h cs hv (E.len hx) (List.all_eq_true.2 fun u hu=>one hx u hu)).h a w s g
theorem t_aggO {α:Type} {E:Elem α} {v:Value} {x:α} {F:List Nat} (one:One E) (h:∀cs:List Value,v=.agg cs.toArray→cs.length=E.sz→cs.all (·.oneCell')=true→T c fr H Φ) (hm:.own E v x F∈H:=by (repeat (first|exact .head _|apply List.Mem.tail));first|done|fail):T c fr H Φ:=.mk fun a w s g=>by
 obtain ⟨-,cs,hv,hx⟩:=s.get hm
 exact (h cs hv (E.len hx) (List.all_eq_true.2 fun u hu=>one hx u hu)).h a w s g
theorem Put.all:∀{zs l:List Value},zs.length=l.length→Put zs 0 l l
 | [],[],_=>.zero
 | [],_::_,h=>by simp at h
 | _::_,[],h=>by simp at h
 | _::zs,_::l,h=>.one (Put.all (by simpa using h))
theorem yd_ldw {P:Program} {n:Nat} {H:List Pc} {t g o tt m:Nat} {A cs B:List Value} [AggC P t m] (hx:ev fr x=some (ptr g o 0)) (hm:Pc.row g tt o A cs B∈H) (hl:cs.length=m):Yd P n fr H (.load t x) ty (.agg cs.toArray):=yd_lda hx hm (hl▸Cut.whole cs)
theorem cm {f:Nat} {vs:List Value} {σ:Type} {C:σ→Prop} {vv:σ→Value} {N:σ→List Pc} (hc:∀w,St c.G c.D c.w0 H w→Calls c.P f vs.toArray w fun e w'=>∃s,C s∧e=.returned (vv s)∧Hol (N s) w'∧(fp (N s)).Nodup∧(∀b∈fp (N s),w.heap.size≤b)∧Below w.heap.size w w')
  (h:∀s,C s→T c ((d,vv s)::fr) (N s++H) Φ):Cl c fr H d f vs Φ :=
 cl_of hc (fun w e w' s hR=>by
  obtain ⟨z,hz,he,hN,hn,hF,hB⟩:=hR
  have sep:∀{N:List Pc},(fp N).Nodup→Sep N:=by
   intro N
   induction N with
   | nil=>intro _;trivial
   | cons p N ih =>
    intro h
    rw [fp,List.nodup_append] at h
    exact ⟨fun q hq _ b hb hq2=>h.2.2 b hb b (mem_fp.2 ⟨q,hq,hq2⟩) rfl,ih h.2.1⟩
  exact ⟨_,he,fun ac g=>(h z hz).h ac w' (s.add (N:=N z) hB hN (sep hn) (fun p hp b hb=>.inl (hF b (mem_fp.2 ⟨p,hp,hb⟩)))) g⟩)
theorem d_startA {id:Nat} {l:List Oper} (X:List Nat) (h:T c fr H (.dx k H X l.toArray l.length (Array.replicate l.length false))) (hm:c.P.follows .mixedOrders=true:=by kernel_rfl):T c fr H (.code k (Code.region id l.toArray true)):=.mk fun a w s g=>by
 refine AnyX.start (S:=Hol H) (X:=fun i=>X.contains i) hm ?_
 have:=h.h a w.drew (s.below (belowDrewN (Below.refl _ _) 1)) g
 simpa [Gl.sem] using this
theorem o_stw {t g tt m:Nat} {cs l:List Value} {S:List Pc} (hx:ev fr x=some (ptr g 0 0)) (hy:ev fr y=some (.agg l.toArray)) (hs:(c.P.info? t).map (·.size)=some m) (hr:Rpl H (.row g tt 0 [] cs []) (.row g tt 0 [] l []) S) (hl:l.length=m) (hc:cs.length=m) (h1:l.all (·.oneCell')=true) (h:T c fr S Φ):On c fr H none (.store t x y) ty Φ :=
 o_st hx hy rfl hs hl hr (Put.all (by omega)) h1 h
end
/-! contracts, with what they ask read off pieces -/
theorem ex1 {α:Type} {A:α→Prop} {C:Prop} (f:∀a,A a→C):(∃a,A a)→C:=fun ⟨a,h⟩=>f a h
theorem ex2 {α β:Type} {A:α→Prop} {B:β→Prop} {C:Prop} (f:∀a b,A a→B b→C):(∃a,A a)→(∃b,B b)→C:=fun ⟨a,h⟩ ⟨b,h2⟩=>f a b h h2
section
variable {G D:List Nat} {w0 w:World} {H:List Pc}
theorem St.rI {α:Type} {E:Elem α} {v:Value} {x:α} {F:List Nat} (s:St G D w0 H w) (hm:.isv E v x F∈H:=by (repeat (first|exact .head _|apply List.Mem.tail));first|done|fail):∃F',IsV E w v x F':=⟨F,s.get hm⟩
theorem St.rO {α:Type} {O R:Elem α} (hW:Weak O R) {v:Value} {x:α} {F:List Nat} (s:St G D w0 H w) (hm:.own O v x F∈H:=by (repeat (first|exact .head _|apply List.Mem.tail));first|done|fail):∃F',IsV R w v x F':=by
 obtain ⟨-,ho⟩:=s.get hm
 obtain ⟨F', -,h⟩:=IsV.weak hW ho
 exact ⟨F',h⟩
theorem St.rS {α:Type} {E:Elem α} {v:Value} {xs:List α} {F:List Nat} (s:St G D w0 H w) (hm:.sl E v xs F∈H:=by (repeat (first|exact .head _|apply List.Mem.tail));first|done|fail):∃F',Sl E w v xs F':=⟨F,(s.get hm).2⟩
theorem St.rL {α:Type} {O R:Elem α} (hW:Weak O R) {t:TypeId} {v:Value} {xs:List α} {F:List Nat} (s:St G D w0 H w) (hm:.ow O t v xs F∈H:=by (repeat (first|exact .head _|apply List.Mem.tail));first|done|fail):∃F',Sl R w v xs F':=by
 obtain ⟨-,ho⟩:=s.get hm
 obtain ⟨F', -,h⟩:=ho.sl hW
 exact ⟨F',h⟩
end
theorem fn_markV {P:Program} {α:Type} {O:Elem α} {f:FuncId} {v:Value} {x x':α} {F:List Nat} {k m:Int} (h:∀w,IsV O w v x F→F.Nodup→Calls P f #[v,.int .i64 k] w (RetMarkV O v m x' F w)):Fn P f [v,.int .i64 k] [] [.own O v x F] (fun (_:Unit)=>True) (fun _=>.int .i64 m) (fun _=>[.own O v x' F]):=fun w hH _=>by
 obtain ⟨hn,ho⟩:=hH (.own O v x F) (by simp)
 refine (h w ho hn).mono ?_
 rintro e w' ⟨he,h1,h2⟩
 refine ⟨(),trivial,he,hol1 ⟨hn,h1⟩,⟨by simp,trivial⟩,by simpa [fp,Pc.F] using h2,fun p hp b hb=>?_⟩
 rw [List.mem_singleton] at hp;subst hp
 exact .inr (.inl ⟨_,List.mem_singleton.2 rfl,hb⟩)
theorem fn_markL {P:Program} {α:Type} {O:Elem α} {t:TypeId} {f:FuncId} {v:Value} {x x':List α} {F:List Nat} {k m:Int} (h:∀w,Ow O t w v x F→F.Nodup→Calls P f #[v,.int .i64 k] w (RetMark O t v m x' F w)):Fn P f [v,.int .i64 k] [] [.ow O t v x F] (fun (_:Unit)=>True) (fun _=>.int .i64 m) (fun _=>[.ow O t v x' F]):=fun w hH _=>by
 obtain ⟨hn,ho⟩:=hH (.ow O t v x F) (by simp)
 refine (h w ho hn).mono ?_
 rintro e w' ⟨he,h1,h2⟩
 refine ⟨(),trivial,he,hol1 ⟨hn,h1⟩,⟨by simp,trivial⟩,by simpa [fp,Pc.F] using h2,fun p hp b hb=>?_⟩
 rw [List.mem_singleton] at hp;subst hp
 exact .inr (.inl ⟨_,List.mem_singleton.2 rfl,hb⟩)
theorem getN {α:Type} {l:List α} {i:Nat} (h:i < l.length) (x:α):l.getD i x=l[i]:=by rw [List.getD_eq_getElem?_getD,List.getElem?_eq_getElem h];rfl
theorem netPush_f (d:List (List Packet)) (i:Nat) (p:Packet) (a:Option Addr) (n c:Nat) (F:List Nat) (hn:n=d.length) (hi:i < d.length) (hs:p.data.size≤maxLen):Fn Tryz.prog 132 [.slice a n c,.int .i64 (i:Nat),.agg #[.int .i64 (p).kind,.int .i64 (p).number,.int .i64 (p).trail,.int .i64 (p).lead,.string (p).data]] [] [.ow (OSl EPacket 127) 132 (.slice a n c) d F] (fun (_:List Nat)=>True) (fun _=>.tuple #[]) (fun G=>[.ow (OSl EPacket 127) 132 (.slice a n c) (d.set i (pushQ d[i] p)) G]):=by
 refine enter Tryz.func132 rfl Tryz.ntmps132 fun w0=>?_
 refine focO (m:=1) i ?_ rfl hi
 rintro _ g A cs B k1 k2 G1 Gi G2 rfl - hc hH
 refine openOSl ?_
 rintro a5 c5 ev l5
 obtain rfl:cs=[.slice a5 d[i].length c5]:=by simpa using ev
 refine go ?_;intros
 refine c_if rfl (fun h1=>?_) (fun h1=>?_)
 ·have h6:d[i].length < 6:=by omega
  rw [show pushQ d[i] p=d[i]++[p] by unfold pushQ;rw [if_pos h6]]
  refine go ?_;intros
  refine d_start [0,2] [10] ?_
  refine dt4 0 1 2 3 ?_
  refine dt2 4 5 ?_
  refine dt 6 ?_
  refine dN 7 ?_
  apply o_bs;rfl;rfl;rfl;rfl;exact rptE;exact filE;intro _
  refine dk ?_
  refine dN 8 ?_
  refine ap1 (ys:=[p]) (flatPacket p hs) one_EPacket fun a7 c7 F7=>?_
  refine dk ?_
  refine dt 9 ?_
  refine dN 10 ?_
  refine oS ?_
  refine dkx ?_
  refine dd ?_
  refine closeOSl (d[i]++[p]) ?_
  refine go ?_;intros
  refine unfO _ hH rfl fun F6=>?_
  refine t_fall ?_
  refine ret F6 trivial rfl
 ·rw [show pushQ d[i] p=d[i] by unfold pushQ;rw [if_neg (by omega)]]
  refine go ?_;intros
  refine closeOSl d[i] ?_
  refine unfO _ hH rfl fun F6=>?_
  refine t_fall ?_
  refine ret F6 trivial rfl
theorem putQ_snoc (q l:List Packet) (p:Packet):putQ q (l++[p])=pushQ (putQ q l) p:=by
 unfold putQ pushQ
 by_cases h:l.length < 6 - q.length
 ·rw [List.take_of_length_le (by rw [List.length_append];simp;omega),List.take_of_length_le (by omega),if_pos (by rw [List.length_append];omega),List.append_assoc]
 ·have e:(l++[p]).take (6 - q.length)=l.take (6 - q.length):=by rw [List.take_append_of_le_length (by omega)]
  rw [e,if_neg (by rw [List.length_append,List.length_take];omega)]
def putAt (s:List (List Packet)) (i:Nat) (ps:List Packet):List (List Packet):=s.modify i fun q=>putQ q ps
theorem putAt_len (s:List (List Packet)) (i:Nat) (ps:List Packet):(putAt s i ps).length=s.length:=List.length_modify ..
theorem putAt_nil (s:List (List Packet)) (i:Nat):putAt s i []=s:=by
 unfold putAt
 by_cases h:i < s.length
 ·rw [modify_set h,putQ_nil,List.set_getElem_self]
 ·exact modify_out h
theorem putAt_step {s:List (List Packet)} {i j:Nat} {ps:List Packet} (hi:i < s.length) (hj:j < ps.length) (h:i < (putAt s i (ps.take j)).length):(putAt s i (ps.take j)).set i (pushQ (putAt s i (ps.take j))[i] ps[j])=putAt s i (ps.take (j+1)):=by
 unfold putAt
 simp only [modify_set hi]
 rw [List.getElem_set_self,List.set_set,List.take_succ_eq_append_getElem hj,putQ_snoc]
theorem spread_take {d:List (List Packet)} {nodes:List Int} {ps:List Packet} {k:Nat} (hk:k < nodes.length):spread d (nodes.take (k+1)) ps=putAt (spread d (nodes.take k) ps) nodes[k].toNat ps:=by rw [List.take_succ_eq_append_getElem hk,spread_snoc];rfl
structure KF where
 k:Nat
 F:List Nat
theorem down_f (d:List (List Packet)) (nodes:List Int) (ps:List Packet) (g:Nat) (v0 v1 v2 v3 v4 v5 v6 v7 v8 v10:Value) (a:Option Addr) (n c:Nat) (F:List Nat) (an:Option Addr) (cn:Nat) (Fn_:List Nat) (ap:Option Addr) (cp:Nat) (Fp:List Nat) (hn:n=d.length) (hx:∀x∈nodes,0≤x∧x.toNat < d.length) :
  Fn Tryz.prog 102 [ptr g 0 0,.slice an nodes.length cn,.slice ap ps.length cp] [.sl EInt (.slice an nodes.length cn) nodes Fn_,.sl EPacket (.slice ap ps.length cp) ps Fp] [.row g 49 0 [] [v0,v1,v2,v3,v4,v5,v6,v7,v8,.slice a n c,v10] [],.ow (OSl EPacket 127) 132 (.slice a n c) d F] (fun (_:List Nat)=>True) (fun _=>.tuple #[]) (fun G=>[.row g 49 0 [] [v0,v1,v2,v3,v4,v5,v6,v7,v8,.slice a n c,v10] [],.ow (OSl EPacket 127) 132 (.slice a n c) (spread d nodes ps) G]):=by
 refine enter Tryz.func102 rfl Tryz.ntmps102 fun w0=>?_
 refine t_sl (E:=EInt) (xs:=nodes) ?_
 rintro _ _ e0 hn1 hn2
 refine t_sl (E:=EPacket) (xs:=ps) ?_
 rintro _ _ e3 hp1 hp2
 refine t_each (E:=EPacket) (fun p:Packet=>p.data.size≤maxLen) (fun w cs x F h=>by obtain ⟨_,h,_⟩:=h;exact h) ?_
 intro hz
 cases e0;cases e3
 refine go ?_;intros
 refine c_loopS [0,2,10,11] (fun z:KF=>[(12,.int .i64 (z.k:Nat))]) (fun z=>[.ow (OSl EPacket 127) 132 (.slice a n c) (spread d (nodes.take z.k) ps) z.F]) (fun z=>z.k≤nodes.length) (fun z=>nodes.length - z.k) ⟨0,_⟩ (Nat.zero_le _) fun z hz0=>?_
 have hsl:=spread_len ps (nodes.take z.k) d
 refine go ?_;intros
 refine c_if rfl (fun h1=>?_) (fun h1=>?_)
 ·have hk:z.k < nodes.length:=by omega
  obtain ⟨x0,x1⟩:=hx _ (List.getElem_mem hk)
  obtain ⟨i,hi⟩:∃i:Nat,nodes[z.k]=((i:Nat):Int):=⟨nodes[z.k].toNat,by omega⟩
  have hil:i < (spread d (nodes.take z.k) ps).length:=by omega
  have hst:=spread_take (d:=d) (ps:=ps) hk
  rw [show nodes[z.k].toNat=i by omega] at hst
  refine at_int (xs:=nodes) z.k ?_
  rintro hi2 b o e1
  rw [e1,hi]
  refine go ?_;intros
  rw [show spread d (nodes.take z.k) ps=putAt (spread d (nodes.take z.k) ps) i (ps.take 0) by rw [List.take_zero,putAt_nil]]
  refine c_loopS [0,2,7,10,11,12,13,14,15,16,17] (fun y:KF=>[(18,.int .i64 (y.k:Nat))]) (fun y=>[.ow (OSl EPacket 127) 132 (.slice a n c) (putAt (spread d (nodes.take z.k) ps) i (ps.take y.k)) y.F]) (fun y=>y.k≤ps.length) (fun y=>ps.length - y.k) ⟨0,z.F⟩ (Nat.zero_le _) fun y hy0=>?_
  have hpl:=putAt_len (spread d (nodes.take z.k) ps) i (ps.take y.k)
  refine go ?_;intros
  refine c_if rfl (fun h2=>?_) (fun h2=>?_)
  ·have hj:y.k < ps.length:=by omega
   refine atPacket (xs:=ps) y.k ?_
   rintro hi3 b3 o3 e3 s3
   rw [e3]
   refine go ?_;intros
   refine d_start [0,4] [] ?_
   refine dt4 0 1 2 3 ?_
   refine dt2 4 5 ?_
   refine dN 6 ?_
   refine oC ?_
   refine cf (netPush_f (putAt (spread d (nodes.take z.k) ps) i (ps.take y.k)) i ps[y.k] a n c y.F (by omega) (by omega) s3) fun f1 _=>?_
   refine t_app ?_
   rw [putAt_step hil hj]
   refine dk ?_
   refine dd ?_
   refine go ?_;intros
   refine n_lp ⟨y.k+1,f1⟩ hj (by show ps.length - (y.k+1) < ps.length - y.k;omega)
  ·rw [show ps.take y.k=ps from List.take_of_length_le (by omega),←hst]
   refine go ?_;intros
   refine n_lp ⟨z.k+1,y.F⟩ hk (by show nodes.length - (z.k+1) < nodes.length - z.k;omega)
 ·rw [show nodes.take z.k=nodes from List.take_of_length_le (by omega)]
  refine go ?_;intros
  refine t_fall ?_
  refine ret z.F trivial rfl
section
variable {c:Cx} {fr:Fr} {H:List Pc} {Φ:Gl}
theorem atRequest {a:Option Addr} {n cp:Nat} {xs:List Request} {F:List Nat} (i:Nat) (h:∀(hi:i < xs.length) (b o:Nat),a=some ⟨b,o,none⟩→T c fr (.cel b (o+i * 4) [.int .i64 xs[i].number,.int .i64 xs[i].state,.int .i64 xs[i].untl,.int .i64 xs[i].tries]::H) Φ) (hm:.sl ERequest (.slice a n cp) xs F∈H:=by (repeat (first|exact .head _|apply List.Mem.tail));first|done|fail) (hi:i < xs.length:=by omega):T c fr H Φ:=.mk fun ac w s g=>by
 obtain ⟨b,o,cs,G,ha,hrep,hG,hb,hne,hr⟩:=sl_at (s.get hm) i hi
 obtain ⟨rfl,rfl⟩:=hrep
 exact (h hi b o  ha  ).h ac w (s.ro hm rfl rfl ⟨hne,hr⟩ (by intro x hx;simp [Pc.F] at hx;subst hx;exact hb)) g
theorem focRequest {t:TypeId} {a:Option Addr} {n cp:Nat} {xs:List Request} {F:List Nat} {S:List Pc} (i:Nat) (h:∀(_:i < xs.length) g A B,a=some ⟨g,0,none⟩→F=[g]→Hole ERequest t g (.slice (some ⟨g,0,none⟩) n cp) xs i A B→T c fr (.row g t (0+i * 4) A [.int .i64 xs[i].number,.int .i64 xs[i].state,.int .i64 xs[i].untl,.int .i64 xs[i].tries] B::S) Φ) (hp:Pick H (.ow ERequest t (.slice a n cp) xs F) S:=by (repeat (first|exact .here|apply Pick.there));first|done|fail) (hi:i < xs.length:=by omega):T c fr H Φ :=
 focF scal_ERequest i (fun hi g A cs B ha hF hr hh=>by obtain ⟨rfl, -⟩:=hr default;exact h hi g A B ha hF  hh) hp rfl hi
theorem flatRequest (x:Request)  (w:World):Flat ERequest w [.int .i64 x.number,.int .i64 x.state,.int .i64 x.untl,.int .i64 x.tries] [x] []:=⟨_,[],[],[],by simp,by simp,⟨rfl,rfl⟩,rfl,rfl⟩
end
theorem yd_eqn {P:Program} {n:Nat} {fr:Fr} {H:List Pc} {ty t':TypeId} {x:Operand} {t e m:Nat} [hS:SlC P t e m] {a:Option Addr} {l c:Nat} (hx:ev fr x=some (.slice a l c)):Yd P n fr H (.binOp .eql t x (.const (.slice none 0 0)) t') ty (.bool a.isNone):=.mk fun ac w d pos aft gd hA _=>by
 have he:ac.eval (.const (.slice none 0 0))=.slice none 0 0:=rfl
 have eg:eqGuard .eql t x (.const (.slice none 0 0)) (.slice a l c) (.slice none 0 0)=pure ():=by unfold eqGuard;simp
 simp only [execOp,hA.ev hx,he,eg,Sem.run_bind,Sem.run_pure,Result.andThen_ok,Lib.run_eql_slice_nil w t e a l c 0 0 hS.u]
theorem t_none {c:Cx} {fr:Fr} {H:List Pc} {Φ:Gl} {α:Type} {E:Elem α} {n cp:Nat} {xs:List α} {F:List Nat} (h:xs=[]→T c fr H Φ) (hm:.sl E (.slice none n cp) xs F∈H:=by (repeat (first|exact .head _|apply List.Mem.tail));first|done|fail):T c fr H Φ:=.mk fun ac w s g=>by
 obtain ⟨-,a,cap,hv, -,⟨rfl, -, -⟩|⟨b,off,F',rfl, -⟩⟩:=s.get hm
 ·exact (h rfl).h ac w s g
 ·cases hv
theorem ClRequest_f (xs:List Request) (a:Option Addr) (c:Nat) (F:List Nat) (hl:xs.length≤1000000000) :
  Fn Tryz.prog 190 [.slice a xs.length c] [.sl ERequest (.slice a xs.length c) xs F] [] (fun (_:Option Addr × Nat × List Nat)=>True) (fun z=>.slice z.1 xs.length z.2.1) (fun z=>[.ow ERequest 235 (.slice z.1 xs.length z.2.1) xs z.2.2]):=by
 refine enter Tryz.func190 rfl Tryz.ntmps190 fun w0=>?_
 refine go ?_;intros
 cases a with
 | none =>
  refine t_none (xs:=xs) fun h0=>?_
  subst h0
  apply wO;apply oc;rfl;exact yd_eqn rfl
  refine t_nilow ERequest 235 ?_
  refine go ?_;intros
  refine ret (none,0,[]) trivial rfl
 | some ad =>
  apply wO;apply oc;rfl;exact yd_eqn rfl
  refine go ?_;intros
  refine t_emp ERequest ?_
  apply wO
  refine aps one_ERequest scal_ERequest fun a2 c2 F2=>?_
  rw [List.nil_append]
  refine go ?_;intros
  refine ret (a2,c2,F2) trivial rfl
section
variable {P:Program} {n:Nat} {fr:Fr} {H:List Pc} {ty:TypeId} {x y z u:Operand}
theorem yd_slw {t e m i g o len cp:Nat} {kd:IntKind} {q:Int} [hS:SlC P t e m] (hx:ev fr x=some (.slice (some ⟨g,o,none⟩) len cp)) (hy:ev fr y=some (.int kd q)) (hq:q=(i:Int)) (hi:i≤len) (hlc:len≤cp):Yd P n fr H (.slice t x (some y) none none) ty (.slice (some ⟨g,if cp=i then o else o+i * m,none⟩) (len - i) (cp - i)):=.mk fun ac w d pos aft gd hA _=>by
 subst hq
 have he2:P.elem t=e:=by simp [Program.elem,hS.u]
 have h3:(Instr.sliceAt t (.slice (some ⟨g,o,none⟩) len cp) (some (.int kd (i:Int))) none none).run P w=.ok (.slice (some ⟨g,if cp=i then o else o+i * m,none⟩) (len - i) (cp - i)) w:=by
  rw [run_sliceAt_slice (h:=by rw [he2];exact hS.u),run_slice_l (ht:=by rw [he2];exact hS.u) (h0:=by omega) (h1:=by omega),he2,size_of hS.s]
  simp only [Result.andThen,sliced,Option.map_some,Addr.add_lit,Int.toNat_natCast]
  split <;> rfl
 simp only [execOp,Option.map_none,Option.map_some,hA.ev hx,hA.ev hy,Sem.run_bind,h3,Result.andThen_ok,Sem.run_pure]
theorem yd_slhv {t e m i j g o len cp:Nat} {kd kd2:IntKind} {q r:Int} [hS:SlC P t e m] (hx:ev fr x=some (.slice (some ⟨g,o,none⟩) len cp)) (hy:ev fr y=some (.int kd q)) (hz:ev fr z=some (.int kd2 r)) (hq:q=(i:Int)) (hr:r=(j:Int)) (hi:i < cp) (hij:i≤j) (hj:j≤cp):Yd P n fr H (.slice t x (some y) (some z) none) ty (.slice (some ⟨g,o+i * m,none⟩) (j - i) (cp - i)):=.mk fun ac w d pos aft gd hA _=>by
 subst hq hr
 have he2:P.elem t=e:=by simp [Program.elem,hS.u]
 have h3:(Instr.sliceAt t (.slice (some ⟨g,o,none⟩) len cp) (some (.int kd (i:Int))) (some (.int kd2 (j:Int))) none).run P w=.ok (.slice (some ⟨g,o+i * m,none⟩) (j - i) (cp - i)) w:=by
  rw [run_sliceAt_slice (h:=by rw [he2];exact hS.u),run_slice_lh (ht:=by rw [he2];exact hS.u) (h0:=by omega) (h1:=by omega) (h2:=by omega),he2,size_of hS.s]
  simp only [Result.andThen,sliced,Option.map_some,Addr.add_lit,Int.toNat_natCast]
  rw [if_neg (by omega)]
 simp only [execOp,Option.map_none,Option.map_some,hA.ev hx,hA.ev hy,hA.ev hz,Sem.run_bind,h3,Result.andThen_ok,Sem.run_pure]
end
section
variable {c:Cx} {fr:Fr} {H:List Pc} {k:List It} {Φ:Gl} {d:Nat} {ty:TypeId} {x y z u:Operand}
theorem o_slany3 {t e m n cp i j l:Nat} {a:Option Addr} {q r s:Int} [hS:SlC c.P t e m] (hd:Nat.blt d c.n=true) (hx:ev fr x=some (.slice a n cp)) (hy:ev fr y=some (.int .i64 q)) (hz:ev fr z=some (.int .i64 r)) (hu:ev fr u=some (.int .i64 s)) (hq:q=(i:Int)) (hr:r=(j:Int)) (hs:s=(l:Int)) (hij:i≤j) (hjl:j≤l) (hl:l≤cp) (h:∀v,T c ((d,v)::fr) H Φ):On c fr H (some d) (.slice t x (some y) (some z) (some u)) ty Φ:=⟨fun _ _ _=>ef_of fun Q ac w st g=>by
 subst hq hr hs
 have he2:=elem_of hS
 obtain ⟨v,h3⟩:∃v,(Instr.sliceAt t (.slice a n cp) (some (.int .i64 (i:Int))) (some (.int .i64 (j:Int))) (some (.int .i64 (l:Int)))).run c.P w=.ok v w:=by
  rw [run_sliceAt_slice (h:=by rw [he2];exact hS.u),run_slice_lhm (ht:=by rw [he2];exact hS.u) (h0:=by omega) (h1:=by omega) (h2:=by omega) (h3:=by omega),he2,size_of hS.s]
  exact ⟨_,rfl⟩
 have e1:∀pos aft gd,(execOp ac.eval ⟨some d,.slice t x (some y) (some z) (some u),ty,pos,aft,gd⟩).run c.P w=.ok (.value v) w:=by
  intro pos aft gd
  simp only [execOp,Option.map_none,Option.map_some,g.ev hx,g.ev hy,g.ev hz,g.ev hu,Sem.run_bind,h3,Result.andThen_ok,Sem.run_pure]
 rw [e1]
 exact (h v).h _ w st (g.put hd)⟩
theorem o_apin {α:Type} {E:Elem α} (sc:Scal E) (one:One E) {t e m b g n cp i j q c2:Nat} {zv:Value} [hS:SlC c.P t e m] [hE:ElT c.P e zv m b] (hm:E.sz=m) {xs:List α} {F:List Nat} {S:List Pc}
  (hd:Nat.blt d c.n=true) (hx:ev fr x=some (.slice (some ⟨g,0,none⟩) i cp)) (hy:ev fr y=some (.slice (some ⟨g,q,none⟩) (n - j) c2)) (hq:j < n→q=j * m) (hij:i≤j) (hj:j≤n) (hn:n=xs.length)
  (hp:Pick H (.ow E e (.slice (some ⟨g,0,none⟩) n cp) xs F) S) (h:T c ((d,.slice (some ⟨g,0,none⟩) (i+(n - j)) cp)::fr) (.ow E e (.slice (some ⟨g,0,none⟩) n cp) (xs.take i++xs.drop j++xs.drop (i+(n - j))) F::S) Φ) :
  On c fr H (some d) (.call { callee:=.builtin .append,args:=#[x,y],argTypes:=#[t,t] }) ty Φ:=⟨fun _ _ _=>ef_of fun Q a w s ag=>by
 subst hm hn
 have s1:=s.pick hp
 obtain ⟨hnd,ho⟩:=s1.on (.ow E e (.slice (some ⟨g,0,none⟩) xs.length cp) xs F) (by simp)
 have hF:=ho.scal sc
 rcases ho with ⟨h1, -, -⟩|⟨g2,cap,cs,rest,G,h1,h2,h3,h4,h5,h6,h7⟩
 ·cases h1
 cases h1
 have hG:G=[]:=by rw [h7] at hF;simpa [Value.ownBlock] using hF
 subst hG h7
 obtain ⟨ti,hi,hiz⟩:=Option.map_eq_some_iff.1 hE.i
 simp only [Prod.mk.injEq] at hiz
 obtain ⟨-,i2, -⟩:=hiz
 have hl:=h6.len
 have hle:i+(xs.length - j)≤xs.length:=by omega
 have fi:=(h6.cutL i (by omega)).1
 have fj:=(h6.cutL j hj).2
 have fk:=(h6.cutL (i+(xs.length - j)) hle).2
 have hd1:(cs.take (i * E.sz)).length=i * E.sz:=by have:=fi.len;rw [List.length_take (l:=xs),Nat.min_eq_left (by omega)] at this;exact this
 have hd2:(cs.drop (j * E.sz)).length=(xs.length - j) * E.sz:=by have:=fj.len;rwa [List.length_drop (l:=xs)] at this
 have h1c:=h6.one' one
 have hsm:(i+(xs.length - j)) * E.sz≤xs.length * E.sz:=Nat.mul_le_mul_right _ hle
 have hadd:(i+(xs.length - j)) * E.sz=i * E.sz+(xs.length - j) * E.sz:=Nat.add_mul _ _ _
 have hsrc:∀r u,(cs.drop (j * E.sz))[r]?=some u→w.cell? ((⟨g,q,none⟩:Addr).add r)=some u:=fun r u hu=>by
  have hr:r < (cs.drop (j * E.sz)).length:=(List.getElem?_eq_some_iff.1 hu).1
  have hlt:j < xs.length:=by
   rcases Nat.lt_or_ge j xs.length with h|h
   ·exact h
   ·rw [hd2,show xs.length - j=0 by omega] at hr;simp at hr
  rw [hq hlt,Addr.add_lit,h2.cell,List.getElem?_append_left (by rw [List.length_drop] at hr;omega)]
  rw [List.getElem?_drop] at hu;exact hu
 have hr:=fun ty=>run_append_room_cells (P:=c.P) w t ty e ti hS.u hi g 0 i cp ⟨g,q,none⟩ (xs.length - j) c2 (cs.drop (j * E.sz)) (by rw [hd2,i2]) hsrc (fun u hu=>h1c u (List.mem_of_mem_drop hu)) (by omega)
  (fun r hr=>by rw [i2,h2.cell,List.getElem?_eq_getElem (by rw [List.length_append];omega)];rfl) (fun r _=>h2.frozen _)
 have e1:∀pos aft gd,(execOp a.eval ⟨some d,.call { callee:=.builtin .append,args:=#[x,y],argTypes:=#[t,t] },ty,pos,aft,gd⟩).run c.P w=.ok (.value (.slice (some ⟨g,0,none⟩) (i+(xs.length - j)) cp)) (w.setCells g (0+i * E.sz) (cs.drop (j * E.sz))):=by
  intro pos aft gd
  simp only [execOp,resolve,invoke,builtin,Sem.run_bind,Sem.run_pure,Result.andThen_ok,List.map_toArray,List.map_cons,List.map_nil,ag.ev hx,ag.ev hy,hr,i2]
 rw [e1]
 have R0:Row w g e (cs.take (i * E.sz)++(cs.drop (i * E.sz)).take ((xs.length - j) * E.sz)++(cs.drop ((i+(xs.length - j)) * E.sz)++rest)):=by
  rw [hadd,←List.drop_drop,List.append_assoc,←List.append_assoc _ _ rest,List.take_append_drop,←List.append_assoc,List.take_append_drop];exact h2
 have R1:=Row.put (cs.drop (j * E.sz)) _ R0 (p:=0+i * E.sz) (by omega) (by rw [hd2,List.length_take,List.length_drop];omega)
 have hk:=putCells_keep (g:=g) (cs.drop (j * E.sz)) w (0+i * E.sz)
 rw [putCells_eq w g] at R1 hk
 have hW:(Pc.ow E e (.slice (some ⟨g,0,none⟩) xs.length cp) (xs.take i++xs.drop j++xs.drop (i+(xs.length - j))) [g]).P (w.setCells g (0+i * E.sz) (cs.drop (j * E.sz))):=by
  have hll:(xs.take i++xs.drop j++xs.drop (i+(xs.length - j))).length=xs.length:=by simp only [List.length_append,List.length_take,List.length_drop];omega
  refine ⟨by simp,.inr ⟨g,cp,cs.take (i * E.sz)++cs.drop (j * E.sz)++cs.drop ((i+(xs.length - j)) * E.sz),rest,[],by rw [hll],by simpa [List.append_assoc] using R1,by rw [hll];exact h3,h4,?_,?_,rfl⟩⟩
  ·rw [List.length_append,List.length_append,hd1,hd2,List.length_drop,hl,←h5];omega
  ·have:=((fi.all (w.setCells g (0+i * E.sz) (cs.drop (j * E.sz)))).append (fj.all _)).append (fk.all _)
   simpa using this
 exact h.h _ _ (St.turn (M:=[.ow E e (.slice (some ⟨g,0,none⟩) xs.length cp) xs [g]]) (N:=[.ow E e (.slice (some ⟨g,0,none⟩) xs.length cp) (xs.take i++xs.drop j++xs.drop (i+(xs.length - j))) [g]]) s1 (by simpa [List.filter,Pc.mu,fp,Pc.F] using hk) (by intro q hq;rw [List.mem_singleton] at hq;subst hq;exact hW) ⟨by simp,trivial⟩ (by
   intro q hq b hb
   rw [List.mem_singleton] at hq;subst hq
   exact .inr (.inl ⟨_,List.mem_singleton.2 rfl,rfl,hb⟩))) (ag.put hd)⟩
end
theorem DelE_f (xs:List (List Value)) (n i:Nat) (j:Int) (a:Option Addr) (c:Nat) (F:List Nat) (hn:n=xs.length) (hi:i < xs.length) (hj:j=(i:Int)+1) (hl:xs.length≤1000000) :
  Fn Tryz.prog 305 [.slice a n c,.int .i64 i,.int .i64 j] [] [.ow (EC 3) 231 (.slice a n c) xs F] (fun (_:Option Addr × Nat × List Nat)=>True)
   (fun z=>.slice z.1 (xs.take i++xs.drop (i+1)).length z.2.1) (fun z=>[.ow (EC 3) 231 (.slice z.1 (xs.take i++xs.drop (i+1)).length z.2.1) (xs.take i++xs.drop (i+1)) z.2.2]):=by
 subst hn
 refine enter Tryz.func305 rfl Tryz.ntmps305 fun w0=>?_
 refine t_head (xs:=xs) (scal_EC 3) (by rintro rfl;simp at hi) ?_
 rintro g rfl rfl - hc1 hc2
 refine go ?_;intros
 apply wO
 refine o_slany3 (i:=i) (j:=i+1) (l:=xs.length) rfl rfl rfl rfl rfl rfl (by omega) rfl (by omega) (by omega) hc1 (fun _=>?_)
 refine go ?_;intros
 refine c_if rfl (fun h=>absurd h (by omega)) (fun _=>?_)
 refine go ?_;intros
 refine d_start [] [] ?_
 refine dt2 0 1 ?_
 refine dt 2 ?_ (hy:=yd_slt (i:=i) rfl rfl rfl (by omega) (by omega))
 refine dt2 3 4 ?_
 refine dt 5 ?_ (hy:=yd_slw (i:=i+1) rfl rfl (by omega) (by omega) hc1)
 refine dN 6 ?_
 refine o_apin (m:=3) (i:=i) (j:=i+1) (q:=if c=i+1 then 0 else 0+(i+1) * 3) (g:=g) (cp:=c) (n:=xs.length) (scal_EC 3) (one_EC 3) rfl rfl rfl rfl (fun h=>by rw [if_neg (by omega)];omega) (by omega) (by omega) rfl (by repeat (first|exact .here|apply Pick.there)) ?_
 refine dk ?_
 refine dt 7 ?_
 refine dd ?_
 refine go ?_;intros
 apply wO;apply oc;rfl;exact yd_slhv (i:=i+(xs.length - (i+1))) (j:=xs.length) rfl rfl rfl rfl rfl (by omega) (by omega) hc1
 refine go ?_;intros
 apply wO
 refine o_clr (xs:=xs.take i++xs.drop (i+1)++xs.drop (i+(xs.length - (i+1)))) (z0:=[.int .i64 0,.slice none 0 0,.int .i64 0]) (n:=xs.length) (cp:=c) (i:=i+(xs.length - (i+1))) (g:=g) (scal_EC 3) (fun w=>⟨rfl,⟨rfl,by simp [Value.oneCell']⟩,rfl⟩) (by decide) rfl rfl (by omega) (by exact lenE) (by repeat (first|exact .here|apply Pick.there)) ?_
 have hk:(xs.take i++xs.drop (i+1)).length=i+(xs.length - (i+1)):=by exact lenE
 refine t_take (xs:=(xs.take i++xs.drop (i+1)++xs.drop (i+(xs.length - (i+1)))).take (i+(xs.length - (i+1)))++List.replicate (xs.length - (i+(xs.length - (i+1)))) [.int .i64 0,.slice none 0 0,.int .i64 0]) (i+(xs.length - (i+1))) (fun F2=>?_) (by exact lenE)
 rw [List.take_left' (by rw [List.take_left' hk,hk]),List.take_left' hk,←hk]
 refine go ?_;intros
 refine ret (_,c,F2) trivial rfl
section
variable {c:Cx} {fr:Fr} {H:List Pc} {k:List It} {Φ:Gl} {ops:Array Oper} {o:Op} {ty:TypeId} {pos:String} {aft:Array Edge} {H0:List Pc} {X:List Nat} {f:Nat} {listed:Array Bool}
theorem made_z (z:List Value) (n:Nat):madeCells z.toArray (n * z.length)=((List.replicate n z).flatten).toArray:=by
 have:=madeCells_flat z.toArray n
 rw [List.size_toArray] at this
 rw [←Array.toArray_toList (xs:=madeCells z.toArray (n * z.length)),this]
end
def zP:Packet:=⟨0,0,0,0,⟨#[]⟩⟩
def popP (q:List Packet):Packet:=q.headD zP
theorem popP_get {q:List Packet} (h:0 < q.length):popP q=q[0]:=by
 cases q with
 | nil=>cases h
 | cons p r=>rfl
theorem DelP_f (xs:List Packet) (n i:Nat) (j:Int) (a:Option Addr) (c:Nat) (F:List Nat) (hn:n=xs.length) (hi:i < xs.length) (hj:j=(i:Int)+1) (hl:xs.length≤1000000) :
  Fn Tryz.prog 262 [.slice a n c,.int .i64 i,.int .i64 j] [] [.ow EPacket 127 (.slice a n c) xs F] (fun (_:Option Addr × Nat × List Nat)=>True)
   (fun z=>.slice z.1 (xs.take i++xs.drop (i+1)).length z.2.1) (fun z=>[.ow EPacket 127 (.slice z.1 (xs.take i++xs.drop (i+1)).length z.2.1) (xs.take i++xs.drop (i+1)) z.2.2]):=by
 subst hn
 refine enter Tryz.func262 rfl Tryz.ntmps262 fun w0=>?_
 refine t_head (xs:=xs) scal_EPacket (by rintro rfl;simp at hi) ?_
 rintro g rfl rfl - hc1 hc2
 refine go ?_;intros
 apply wO
 refine o_slany3 (i:=i) (j:=i+1) (l:=xs.length) rfl rfl rfl rfl rfl rfl (by omega) rfl (by omega) (by omega) hc1 (fun _=>?_)
 refine go ?_;intros
 refine c_if rfl (fun h=>absurd h (by omega)) (fun _=>?_)
 refine go ?_;intros
 refine d_start [] [] ?_
 refine dt2 0 1 ?_
 refine dt 2 ?_ (hy:=yd_slt (i:=i) rfl rfl rfl (by omega) (by omega))
 refine dt2 3 4 ?_
 refine dt 5 ?_ (hy:=yd_slw (i:=i+1) rfl rfl (by omega) (by omega) hc1)
 refine dN 6 ?_
 refine o_apin (m:=5) (i:=i) (j:=i+1) (q:=if c=i+1 then 0 else 0+(i+1) * 5) (g:=g) (cp:=c) (n:=xs.length) scal_EPacket one_EPacket rfl rfl rfl rfl (fun h=>by rw [if_neg (by omega)];omega) (by omega) (by omega) rfl (by repeat (first|exact .here|apply Pick.there)) ?_
 refine dk ?_
 refine dt 7 ?_
 refine dd ?_
 refine go ?_;intros
 apply wO;apply oc;rfl;exact yd_slhv (i:=i+(xs.length - (i+1))) (j:=xs.length) rfl rfl rfl rfl rfl (by omega) (by omega) hc1
 refine go ?_;intros
 apply wO
 refine o_clr (xs:=xs.take i++xs.drop (i+1)++xs.drop (i+(xs.length - (i+1)))) (z0:=zP) (n:=xs.length) (cp:=c) (i:=i+(xs.length - (i+1))) (g:=g) scal_EPacket (fun w=>⟨rfl,Nat.zero_le _,rfl⟩) (by decide) rfl rfl (by omega) (by exact lenE) (by repeat (first|exact .here|apply Pick.there)) ?_
 have hk:(xs.take i++xs.drop (i+1)).length=i+(xs.length - (i+1)):=by exact lenE
 refine t_take (xs:=(xs.take i++xs.drop (i+1)++xs.drop (i+(xs.length - (i+1)))).take (i+(xs.length - (i+1)))++List.replicate (xs.length - (i+(xs.length - (i+1)))) zP) (i+(xs.length - (i+1))) (fun F2=>?_) (by exact lenE)
 rw [List.take_left' (by rw [List.take_left' hk,hk]),List.take_left' hk,←hk]
 refine go ?_;intros
 refine ret (_,c,F2) trivial rfl
theorem ClP_f (xs:List Packet) (a:Option Addr) (c:Nat) (F:List Nat) (hl:xs.length≤1000000000) :
  Fn Tryz.prog 187 [.slice a xs.length c] [.sl EPacket (.slice a xs.length c) xs F] [] (fun (_:Option Addr × Nat × List Nat)=>True) (fun z=>.slice z.1 xs.length z.2.1) (fun z=>[.ow EPacket 127 (.slice z.1 xs.length z.2.1) xs z.2.2]):=by
 refine enter Tryz.func187 rfl Tryz.ntmps187 fun w0=>?_
 refine go ?_;intros
 cases a with
 | none =>
  refine t_none (xs:=xs) fun h0=>?_
  subst h0
  apply wO;apply oc;rfl;exact yd_eqn rfl
  refine t_nilow EPacket 127 ?_
  refine go ?_;intros
  refine ret (none,0,[]) trivial rfl
 | some ad =>
  apply wO;apply oc;rfl;exact yd_eqn rfl
  refine go ?_;intros
  refine t_emp EPacket ?_
  apply wO
  refine aps one_EPacket scal_EPacket fun a2 c2 F2=>?_
  rw [List.nil_append]
  refine go ?_;intros
  refine ret (a2,c2,F2) trivial rfl
theorem netPop_f (d:List (List Packet)) (i:Nat) (a:Option Addr) (n c:Nat) (F:List Nat) (hn:n=d.length) (hi:i < d.length) (h6:d[i].length≤6):Fn Tryz.prog 193 [.slice a n c,.int .i64 (i:Nat)] [] [.ow (OSl EPacket 127) 132 (.slice a n c) d F] (fun (_:List Nat)=>True) (fun _=>.tuple #[.agg #[.int .i64 (popP d[i]).kind,.int .i64 (popP d[i]).number,.int .i64 (popP d[i]).trail,.int .i64 (popP d[i]).lead,.string (popP d[i]).data],.bool (decide (0 < d[i].length))]) (fun G=>[.ow (OSl EPacket 127) 132 (.slice a n c) (d.set i (d[i].drop 1)) G]):=by
 refine enter Tryz.func193 rfl Tryz.ntmps193 fun w0=>?_
 refine focO (m:=1) i ?_ rfl hi
 rintro _ g A cs B k1 k2 G1 Gi G2 rfl - hc hH
 refine openOSl ?_
 rintro a5 c5 ev l5
 obtain rfl:cs=[.slice a5 d[i].length c5]:=by simpa using ev
 refine go ?_;intros
 refine c_if rfl (fun h1=>?_) (fun h1=>?_)
 ·have h0:d[i]=[]:=List.length_eq_zero_iff.1 (by omega)
  rw [h0]
  refine go ?_;intros
  refine closeOSl [] ?_
  refine unfO _ hH rfl fun F6=>?_
  refine ret F6 trivial rfl
 ·have h0:0 < d[i].length:=by omega
  rw [decide_eq_true h0,popP_get h0]
  refine focPacket (xs:=d[i]) 0 ?_
  rintro _ g2 A2 B2 rfl rfl sz hH2
  refine goN ?_;intros
  refine unfF d[i][0] hH2 (fun w=>⟨rfl,sz,rfl⟩) ?_
  rw [List.set_getElem_self]
  refine go ?_;intros
  refine cf (DelP_f d[i] d[i].length 0 1 _ c5 _ rfl h0 rfl (by omega)) fun z _=>?_
  refine t_app ?_
  rw [show d[i].take 0++d[i].drop (0+1)=d[i].drop 1 by simp]
  refine go ?_;intros
  refine closeOSl (d[i].drop 1) ?_
  refine unfO _ hH rfl fun F6=>?_
  refine ret F6 trivial rfl
def fillQ (l:List (List Packet)) (k:Nat):List (List Packet):=l.take k++List.replicate (l.length - k) []
theorem fillQ_len {l:List (List Packet)} {k:Nat} (h:k≤l.length):(fillQ l k).length=l.length:=by unfold fillQ;simp;omega
theorem fillQ_set {l:List (List Packet)} {k:Nat} (h:k < l.length):(fillQ l k).set k l[k]=fillQ l (k+1):=by
 unfold fillQ
 have e:List.replicate (l.length - k) ([]:List Packet)=[]::List.replicate (l.length - (k+1)) []:=by rw [show l.length - k=(l.length - (k+1))+1 by omega,List.replicate_succ]
 have hl:(l.take k).length=k:=by rw [List.length_take];omega
 rw [e,List.set_append_right _ _ (by omega),hl,Nat.sub_self,List.set_cons_zero,List.take_succ_eq_append_getElem h,List.append_assoc];rfl
theorem cloneQueues_f (l:List (List Packet)) (a:Option Addr) (c:Nat) (F:List Nat) (hl:l.length≤1000000) (hq:∀q∈l,q.length≤1000000000):Fn Tryz.prog 99 [.slice a l.length c] [.sl (ESl EPacket (by decide)) (.slice a l.length c) l F] [] (fun (_:Nat × List Nat)=>True) (fun z=>.slice (some ⟨z.1,0,none⟩) l.length l.length) (fun z=>[.ow (OSl EPacket 127) 132 (.slice (some ⟨z.1,0,none⟩) l.length l.length) l z.2]):=by
 refine enter Tryz.func99 rfl Tryz.ntmps99 fun w0=>?_
 refine go ?_;intros
 apply wO
 refine o_ms l.length (cs:=(List.replicate l.length ([.slice none 0 0]:List Value)).flatten) rfl rfl rfl (made_z _ _) (by omega) (by omega) fun g=>?_
 refine t_row (E:=OSl EPacket 127) (xs:=List.replicate l.length []) (fun w=>Flat.rep0 (E:=OSl EPacket 127) (w:=w) (zs:=[.slice none 0 0]) (z:=([]:List Packet)) ⟨_,rfl,.inl ⟨rfl,rfl,rfl⟩⟩ _) ?_ (by rw [List.length_replicate];omega)
 rw [List.length_replicate,show List.replicate l.length ([]:List Packet)=fillQ l 0 by unfold fillQ;simp]
 refine go ?_;intros
 refine c_loopS [2,3,9,10] (fun z:KF=>[(11,.int .i64 (z.k:Nat))]) (fun z=>[.ow (OSl EPacket 127) 132 (.slice (some ⟨g,0,none⟩) l.length l.length) (fillQ l z.k) z.F]) (fun z=>z.k≤l.length) (fun z=>l.length - z.k) ⟨0,_⟩ (Nat.zero_le _) fun z hz0=>?_
 have hfl:=fillQ_len hz0
 refine go ?_;intros
 refine c_if rfl (fun h1=>?_) (fun h1=>?_)
 ·have hk:z.k < l.length:=by omega
  refine at_ESl (E:=EPacket) (hz:=by decide) (xs:=l) z.k ?_
  rintro hi6 b6 o6 a11 c11 F11 rfl l11
  refine focO (xs:=fillQ l z.k) (m:=1) z.k ?_ rfl (by omega)
  rintro _ g2 A cs B k1 k2 G1 Gi G2 e2 - hc hH
  cases e2
  refine openOSl ?_
  rintro a5 c5 ev l5
  obtain rfl:cs=[.slice a5 (fillQ l z.k)[z.k].length c5]:=by simpa using ev
  refine go ?_;intros
  refine cf (ClP_f l[z.k] a11 c11 F11 (hq _ (List.getElem_mem hk))) fun y _=>?_
  refine t_app ?_
  refine go ?_;intros
  refine closeOSl l[z.k] ?_
  refine unfO _ hH rfl fun F6=>?_
  rw [fillQ_set hk]
  refine go ?_;intros
  refine n_lp ⟨z.k+1,F6⟩ hk (by show l.length - (z.k+1) < l.length - z.k;omega)
 ·rw [show fillQ l z.k=l by unfold fillQ;rw [show z.k=l.length by omega];simp]
  refine go ?_;intros
  refine ret (g,z.F) trivial rfl
theorem IndexFunc_Hold (fid:FuncId) (hbd:Body Tryz.prog fid) (caps:Array Value) (v:Value) (xs:List Hold) (F:List Nat) (p:Hold→Bool) (w:World) (h:Sl EHold w v xs F)
  (hp:∀(k:Nat) (hk:k < xs.length) (wr:World) (u:Value) (G:List Nat),Below w.heap.size w wr→IsV EHold wr u xs[k] G→Calls Tryz.prog fid (#[u]++caps) wr fun e w'=>e=.returned (.bool (p xs[k]))∧Below wr.heap.size wr w') :
  Calls Tryz.prog 270 #[v,.func (.func fid) #[] caps] w fun e w'=>e=.returned (.int .i64 (fidx p xs))∧Below w.heap.size w w':=by
 obtain ⟨a,cap,rfl⟩:=h.slice
 have hl:=h.len
 unfold maxLen at hl
 go_enter Tryz.func270,Tryz.ntmps270
 go_wp2
 go_loopw [5,8] (fun _ i wr=>∃k:Nat,k≤xs.length∧i=.int .i64 k∧Hid (∀j,j < k→∀hj:j < xs.length,p xs[j]=false)∧Below w.heap.size w wr) (fun _ i _=>xs.length - (intOf i).toNat)
 case atStart=>exact ⟨0,Nat.zero_le _,rfl,fun j hj=>by omega,Below.refl _ _⟩
 case round =>
  obtain ⟨k,hk,rfl,hz,hB⟩:=hrel
  by_cases hlt:k < xs.length
  ·have hz0:=hz;clear hz
   obtain ⟨b,off,_,F1,rfl,hx, -,ja⟩:=(h.below (by decide) hB).at k hlt
   obtain ⟨rfl,rfl⟩:=id hx
   have a0:=ja 0 (by decide)
   have a1:=ja 1 (by decide)
   simp only [show EHold.sz=2 from rfl,Nat.mul_one,Nat.add_zero,List.getElem?_cons_zero,List.getElem?_cons_succ] at a0 a1
   clear ja
   have hr:=hp k hlt wr _ _ hB ⟨_,rfl,hx⟩
   have hp:=Lib.hid hp
   cases hpk:p xs[k]
   all_goals
    rw [hpk] at hr
    have hpk:=Lib.hid hpk
    have hr:=Lib.hid hr
    go_wp2_with fail
    refine hbd.upon hr.out ?_
    rintro e w1 ⟨rfl,hb1⟩
    refine ⟨_,rfl,?_⟩
    have hB:=tr hB hb1 (Nat.le_refl _)
    clear hb1
    go_wp2_with fail
   ·exact ⟨⟨k+1,by omega,by go_num,fun j hj hl=>by rcases Nat.lt_or_eq_of_le (Nat.le_of_lt_succ hj) with h|h;exact hz0.out j h hl;subst h;exact hpk.out,hB⟩,by simp [intOf];omega⟩
   ·go_ret
    exact ⟨ret_int (fidx_hit hlt hz0.out hpk.out).symm,hB⟩
  ·go_wp2
   go_ret
   exact ⟨ret_int (fidx_none (fun j hj=>hz.out j (by omega) hj)).symm,hB⟩
theorem Clone_Hold (v:Value) (xs:List Hold) (F:List Nat) (w:World) (h:Sl EHold w v xs F) (hm:xs.length≤4294967296) :
  Calls Tryz.prog 186 #[v] w (RetNew EHold 194 xs w):=by
 obtain ⟨ao,c,news,Fy,rfl,hl,hfy,hFy,hsrc⟩:=h.src
 have hFl:=hfy.lt
 have he:=fun w (a:Option Addr) (n c:Nat)=>Lib.run_eql_slice_nil (P:=Tryz.prog) w 42 _ a n c 0 0 Tryz.underlying42
 go_enter Tryz.func186,Tryz.ntmps186
 rcases hsrc with ⟨rfl,rfl,rfl⟩|⟨ad,rfl,hn⟩
 ·go_wp2
  go_ret
  exact ⟨.slice none 0 0,[],rfl,.inl ⟨rfl,rfl,rfl⟩,by simp,by simp,Below.refl _ _⟩
 ·go_wp2_with (at_builtin;refine wpList_apd one_EHold (by decide) (by rfl) _ _ _ (by rfl) 194 (.agg #[.int .i64 0,.int .i64 0]) 16 Tryz.underlying42 info_Hold rfl (.slice (some ⟨w.heap.size,0,none⟩) 0 0) [] [w.heap.size] (by rfl) (Ow.empty (Row.made _ _ _)) (Hd.one _) (some ad) xs c (by rfl) news Fy (hfy.frame fun b hb=>Below.heap_alloc _ _ _ (hFl b hb)) (.inr ⟨ad,rfl,fun j u hu=>kc ((Below.refl _ _).alloc (Nat.le_refl _) _) (hn j u hu)⟩) (fun b hb e=>by have:=hFl b hb;simp [Value.ownBlock] at e;omega) (by simpa using hl) (by unfold maxLen at hl;simp;omega) ?_)
  intro v2 w2 F2 hA
  go_wp2_with fail
  go_ret
  have hB:Below w.heap.size w w2:=((Below.refl _ _).alloc (Nat.le_refl _) _).trans (hA.keep.below (by simp) (by simp))
  have hs:∀b,v2.ownBlock=some b→w.heap.size≤b:=fun b hb=>by rcases hA.same with e|e <;> rw [e] at hb <;> simp [Value.ownBlock] at hb <;> omega
  refine ⟨v2,F2,rfl,by simpa using hA.ow,hA.ow.scal scal_EHold▸?_,fun b hb=>?_,hB⟩
  ·cases v2.ownBlock <;> simp
  ·rw [hA.ow.scal scal_EHold] at hb;exact hs b (by simpa using hb)
theorem DeleteFunc_Hold (fid:FuncId) (hbd:Body Tryz.prog fid) (caps:Array Value) (v:Value) (xs:List Hold) (F:List Nat) (p:Hold→Bool) (w:World) (h:Ow EHold 194 w v xs F) (hn:F.Nodup)
  (hp:∀(k:Nat) (hk:k < xs.length) (wr:World) (u:Value) (G:List Nat),Keep F w wr→IsV EHold wr u xs[k] G→Calls Tryz.prog fid (#[u]++caps) wr fun e w'=>e=.returned (.bool (p xs[k]))∧Below wr.heap.size wr w') :
  Calls Tryz.prog 201 #[v,.func (.func fid) #[] caps] w fun e w'=>∃v' F',e=.returned v'∧Ow EHold 194 w' v' (xs.filter fun x=>!p x) F'∧F'.Nodup∧(∀b∈F',b∈F)∧Keep F w w':=by
 obtain ⟨F1,hF1,hs⟩:=h.sl (Weak.refl _)
 obtain ⟨a,cap,rfl⟩:=h.slice
 have hl:=h.len
 unfold maxLen at hl
 have hp:=Lib.hid hp
 go_enter Tryz.func201,Tryz.ntmps201
 go_wp2_with fail
 refine (IndexFunc_Hold fid hbd caps _ xs F1 p _ hs (fun k hk wr u G hb hu=>hp.out k hk wr u G (Keep.ofBelow hb) hu)).mono ?_
 rintro e w1 ⟨rfl,hb1⟩
 have hK1:=Keep.ofBelow (F:=F) hb1
 by_cases hany:xs.any p=true
 ·obtain ⟨k0,hk0,hfx,hpk,hfl⟩:=fidx_some hany
  rw [hfx]
  obtain ⟨g,rfl, -,hg0⟩:=Gap.start (h.below hb1) hn (ys:=xs.take k0) (zs:=xs[k0]::xs.drop (k0+1)) (by simp) (by omega)
  obtain ⟨F0,hg0,hF0⟩:=hg0.skip
  have hG0:=Lib.hid hg0
  clear hg0
  have hk1:((k0:Int) == -1)=false:=by simp
  go_wp2_with fail
  go_loopw [5,6,7] (fun i j _ wr=>∃(q m:Nat) (F1:List Nat),q≤xs.length∧0 < m∧((xs.take q).filter fun x=>!p x).length+m=q∧i=.int .i64 ((xs.take q).filter fun x=>!p x).length∧j=.int .i64 q∧Hid (Gap EHold 194 wr g xs.length cap ((xs.take q).filter fun x=>!p x) m (xs.drop q) F1)∧(∀b∈F1,b∈F)∧Keep F w wr) (fun _ j _ _=>xs.length - (intOf j).toNat)
  case atStart=>exact ⟨k0+1,1,F0,hk0,by omega,by rw [filter_take_no hk0 (by simp [hpk]),hfl];simp;omega,by rw [filter_take_no hk0 (by simp [hpk]),hfl];simp;omega,by go_num,by rw [filter_take_no hk0 (by simp [hpk]),hfl];exact hG0,hF0,hK1⟩
  case round =>
   obtain ⟨q,m,F1,hq,hm,hlen,rfl,rfl,hG,hF1,hK⟩:=hrel
   obtain ⟨-,hcap, -⟩:=hG.out.caps
   generalize hys:((xs.take q).filter fun x=>!p x)=ys at *
   by_cases hlt:q < xs.length
   ·rw [List.drop_eq_getElem_cons hlt] at hG
    obtain ⟨c,Fx,hx,hFx,hcell⟩:=hG.out.first
    obtain ⟨Fx2, -,hxe⟩:=(Weak.refl _).rep hx
    obtain ⟨rfl,rfl⟩:=id hx
    have a0:=hcell 0 (by decide)
    have a1:=hcell 1 (by decide)
    simp only [hlen,show EHold.sz=2 from rfl,Nat.mul_one,Nat.add_zero,List.getElem?_cons_zero,List.getElem?_cons_succ] at a0 a1
    have hr:=fun A=>hp.out q hlt (wr.alloc A) _ Fx2 (hK.alloc A) ⟨_,rfl,EHold.below hxe ((Below.refl wr.heap.size wr).alloc (Nat.le_refl _) A)⟩
    cases hpq:p xs[q]
    ·obtain ⟨st,c2,Fx3,hx3, -,hcell2,back⟩:=hG.out.move hm
     simp only [hpq] at hr
     obtain rfl:=same_cells (EHold.len hx) (EHold.len hx3) hcell hcell2
     have st:=st
     obtain ⟨⟨x0,z0⟩,g0⟩:=st 0 (by decide)
     obtain ⟨⟨x1,z1⟩,g1⟩:=st 1 (by decide)
     simp only [show EHold.sz=2 from rfl,Nat.mul_one,Nat.add_zero] at z0 g0 z1 g1
     have hr:=Lib.hid hr;have hbk:=Lib.hid back;have hpq:=Lib.hid hpq;have hys:=Lib.hid hys;have hlen:=Lib.hid hlen
     have hyl:ys.length < xs.length:=by have:=hlen.out;omega
     clear hx hxe hcell hcell2 hx3 back st hfx hpk hfl
     go_wp2_with fail
     refine hbd.upon (hr.out _) ?_
     rintro e w2 ⟨rfl,hb2⟩
     refine ⟨_,rfl,?_⟩
     have b2:=(Row.below (g:=wr.heap.size) (t:=194) (cs:=[.int .i64 xs[q].number,.int .i64 xs[q].untl]) (by simp [row_alloc]) hb2).cells
     have hbb:=tr ((Below.refl wr.heap.size wr).alloc (Nat.le_refl _) _) hb2 (Nat.le_refl _)
     clear hb2
     have g0:=(kf hbb z0).trans g0;have z0:=kc hbb z0
     have g1:=(kf hbb z1).trans g1;have z1:=kc hbb z1
     obtain ⟨F2,hg2,hF2⟩:=hbk.out w2 hbb
     simp only [putCells,show EHold.sz=2 from rfl,Nat.mul_one] at hg2
     have hg2:=Lib.hid hg2
     have hgF:g∈F:=hF1 g hG.out.caps.2.2.2.2.1
     go_wp2_with fail
     exact ⟨⟨q+1,m,F2,by omega,hm,by rw [filter_take_yes hlt (by simp [hpq.out]),hys.out];have:=hlen.out;simp;omega,by rw [filter_take_yes hlt (by simp [hpq.out]),hys.out,List.length_append];go_num,by go_num,by rw [filter_take_yes hlt (by simp [hpq.out]),hys.out];exact hg2.out,fun b hb=>hF1 b (hF2 b hb),by (repeat (refine Keep.setCell ?_ hgF _));exact hK.trans (Keep.ofBelow hbb)⟩,by simp [intOf];omega⟩
    ·obtain ⟨F2,hg2,hF2⟩:=hG.out.skip
     simp only [hpq] at hr
     have hr:=Lib.hid hr;have hg2:=Lib.hid hg2;have hpq:=Lib.hid hpq;have hys:=Lib.hid hys;have hlen:=Lib.hid hlen
     clear hx hxe hcell hfx hpk hfl
     go_wp2_with fail
     refine hbd.upon (hr.out _) ?_
     rintro e w2 ⟨rfl,hb2⟩
     refine ⟨_,rfl,?_⟩
     have hbb:=tr ((Below.refl wr.heap.size wr).alloc (Nat.le_refl _) _) hb2 (Nat.le_refl _)
     clear hb2
     go_wp2_with fail
     exact ⟨⟨q+1,m+1,F2,by omega,by omega,by rw [filter_take_no hlt (by simp [hpq.out]),hys.out];have:=hlen.out;omega,by rw [filter_take_no hlt (by simp [hpq.out]),hys.out],by go_num,by rw [filter_take_no hlt (by simp [hpq.out]),hys.out];exact hg2.out.below hbb,fun b hb=>hF1 b (hF2 b hb),hK.trans (Keep.ofBelow hbb)⟩,by simp [intOf];omega⟩
   ·have hqe:q=xs.length:=by omega
    subst hqe
    simp only [List.drop_length,List.take_length] at hG hys
    obtain ⟨hc,F2,ho2,hn2,hF2⟩:=hG.out.done (z:=#[.int .i64 0,.int .i64 0]) rfl
    have hmm:xs.length - ys.length=m:=by omega
    have hcl:=fun ty=>run_clear_rows (P:=Tryz.prog) wr 42 194 ty (.agg #[.int .i64 0,.int .i64 0]) Tryz.underlying42 (zeroValue_of info_Hold) (by simp [Value.cells,Value.oneCell']) g (ys.length * 2) m (cap - ys.length) hm (fun j hj=>(hc j hj).1) (fun j hj=>(hc j hj).2)
    have hyl:ys.length < xs.length:=by omega
    have hgF:g∈F:=hF1 g hG.out.caps.2.2.2.2.1
    have hO:=Lib.hid ho2;have hlen:=Lib.hid hlen;have hys:=Lib.hid hys
    clear ho2 hc hfx hpk hfl
    go_wp2_with fail
    go_ret
    refine ⟨_,F2,rfl,by rw [hys.out];exact hO.out,hn2,fun b hb=>hF1 b (hF2 b hb),hK.trans ?_⟩
    rw [←putCells_eq wr];exact (putCells_keep _ _ _).mono (fun b hb _=>by simp at hb;subst hb;exact hgF)
 ·obtain ⟨hfx,hfl⟩:=fidx_all hany
  rw [hfx]
  go_wp2_with fail
  go_ret
  exact ⟨_,F,rfl,by rw [hfl];exact h.below hb1,hn,fun b hb=>hb,hK1⟩
theorem Sclone_f (x:Source) (v:Value) (F:List Nat) (hl:x.window.items.length≤4294967296) (hl2:x.holds.length≤4294967296):Fn Tryz.prog 98 [v] [.isv ESource v x F] [] (fun (_:Value × List Nat)=>True)
  (fun s=>s.1) (fun s=>[.own OSource s.1 x s.2]):=by
 refine enter Tryz.func98 rfl Tryz.ntmps98 fun w0=>?_
 refine openSource ?_
 rintro a1 c1 F1 a2 c2 F2 rfl l1 l2
 refine closeSendWindow x.window ?_
 generalize F1=F3
 refine go ?_;intros
 refine cv (fun w s=>SendWindow_clone_c _ x.window _ w (s.get (p:=.isv ESendWindow (.agg #[.int .i64 x.window.trail,.int .i64 x.window.size,.slice a1 x.window.items.length c1]) x.window F3) (by simp)) hl) fun v F'=>?_
 refine openOSendWindow ?_
 rintro a5 c5 F5 rfl l5
 refine go ?_;intros
 refine cn (fun w s=>Clone_Hold _ _ _ _ (s.get (p:=.sl EHold (.slice a2 x.holds.length c2) x.holds F2) (by simp)).2 hl2) fun a6 c6 F6=>?_
 refine go ?_;intros
 refine closeOSource x ?_
 refine ret (_,_) trivial rfl
theorem keep1_f (W:SendWindow) (h:Hold) (gb g o:Nat) (u:Value) (a:Option Addr) (c:Nat) (cl q:Value) (Hs:Value) (G Fw:List Nat) (t0:0≤W.trail) (t1:W.trail≤65535) (n0:0≤h.number) (n1:h.number≤65535) :
  Fn Tryz.prog 261 [u,ptr gb 0 0] [.isv EHold u h G,.cel gb 0 [ptr g o 0],.cel g o [.int .i64 W.trail,.int .i64 W.size,.slice a W.items.length c,cl,q,Hs],.isv ESendWindow (.agg #[.int .i64 W.trail,.int .i64 W.size,.slice a W.items.length c]) W Fw] [] (fun (_:Unit)=>True) (fun _=>.bool (!heldB W h.number)) (fun _=>[]):=by
 refine enter Tryz.func261 rfl Tryz.ntmps261 fun w0=>?_
 refine openHold ?_
 rintro _ rfl
 refine go ?_;intros
 refine d_start [0,2,3] [] ?_
 refine dt4 0 1 2 3 ?_
 refine dt2 4 5 ?_
 refine dN 6 ?_
 refine oC ?_
 refine cb (fun w st=>(isHeld_f W h.number _ _ t0 t1 n0 n1).val w (hol1 (st.get (p:=.isv ESendWindow (.agg #[.int .i64 W.trail,.int .i64 W.size,.slice a W.items.length c]) W Fw) (by simp)))) ?_
 refine dk ?_
 refine dt2 7 8 ?_
 refine dd ?_
 refine go ?_;intros
 refine ret () trivial ?_
 simp only [heldB,tup,decide_not]
theorem fn_lib {P:Program} {f:FuncId} {args:List Value} {p:Pc} {R:List Pc} {σ:Type} {C:σ→Prop} {v:σ→Value} {N:σ→Pc} (hm:p.mu=true)
  (h:∀w,p.P w→Hol R w→(∀wr,Keep p.F w wr→Hol R wr)→Calls P f args.toArray w fun e w'=>∃s,C s∧e=.returned (v s)∧(N s).P w'∧(∀b∈(N s).F,b∈p.F∨w.heap.size≤b)∧Keep p.F w w'):Fn P f args [] (p::R) C v (fun s=>N s::R):=fun w hH hS=>by
 rw [List.append_nil] at hH hS
 have hR:Hol R w:=fun q hq=>hH q (by simp [hq])
 have ap:∀q∈R,∀b∈q.F,b ∉ p.F:=fun q hq b hb hp=>hS.1 q hq (by simp [hm]) b hp hb
 have hk:∀wr,Keep p.F w wr→Hol R wr:=fun wr k q hq=>q.st (hR q hq) fun b hb=>k.block b (q.lt (hR q hq) b hb) (ap q hq b hb)
 refine (h w (hH p (by simp)) hR hk).mono ?_
 rintro e w' ⟨s,hC,he,hN,hF,k⟩
 refine ⟨s,hC,he,?_,⟨fun q hq _ b hb hbq=>?_,hS.2⟩,k.mono (fun b hb _=>by simp [fp,hb]),?_⟩
 ·intro q hq
  rcases List.mem_cons.1 hq with rfl|hq
  ·exact hN
  ·exact hk w' k q hq
 ·rcases hF b hb with h|h
  ·exact ap q hq b hbq h
  ·have:=q.lt (hR q hq) b hbq;omega
 ·intro q hq b hb
  rcases List.mem_cons.1 hq with rfl|hq
  ·rcases hF b hb with h|h
   ·exact .inr (.inl ⟨p,by simp,h⟩)
   ·exact .inl h
  ·exact .inr (.inl ⟨q,by simp [hq],hb⟩)
theorem n_ret {P:Program} {fn:Func} {R:Ending→World→Prop} {G D:List Nat} {w0:World} {n:Nat} {fr:Fr} {H:List Pc} (h:T ⟨P,G,D,w0,n,bodyPost P fn R⟩ fr H (.fin .ret)):T ⟨P,G,D,w0,n,bodyPost P fn R⟩ fr H (.norm []):=.mk fun a w s g=>h.h a w s g
def keepH (W:SendWindow) (hs:List Hold):List Hold:=hs.filter fun h=>heldB W h.number
theorem keepD_f (W:SendWindow) (hs:List Hold) (gb tb g t o:Nat) (A B:List Value) (a a2:Option Addr) (c c2:Nat) (cl q:Int) (F F2:List Nat) (t0:0≤W.trail) (t1:W.trail≤65535) (hn:∀h∈hs,isSer h.number=true) :
  Fn Tryz.prog 201 [.slice a2 hs.length c2,.func (.func 261) #[] #[ptr gb 0 0]] [] [.ow EHold 194 (.slice a2 hs.length c2) hs F2,.row gb tb 0 [] [ptr g o 0] [],.row g t o A [.int .i64 W.trail,.int .i64 W.size,.slice a W.items.length c,.int .i64 cl,.int .i64 q,.slice a2 hs.length c2] B,.ow EStr 9 (.slice a W.items.length c) W.items F] (fun (_:Option Addr × Nat × List Nat)=>True)
   (fun z=>.slice z.1 (keepH W hs).length z.2.1) (fun z=>[.ow EHold 194 (.slice z.1 (keepH W hs).length z.2.1) (keepH W hs) z.2.2,.row gb tb 0 [] [ptr g o 0] [],.row g t o A [.int .i64 W.trail,.int .i64 W.size,.slice a W.items.length c,.int .i64 cl,.int .i64 q,.slice a2 hs.length c2] B,.ow EStr 9 (.slice a W.items.length c) W.items F]):=by
 refine fn_lib rfl fun w ⟨hnd,ho⟩ _ hk=>?_
 refine (DeleteFunc_Hold _ (body_of (by kernel_rfl)) #[ptr gb 0 0] _ hs F2 (fun h=>!heldB W h.number) w ho hnd fun k hk2 wr u G hK hu=>?_).mono ?_
 ·have hr:=hk wr hK
  have r1:=hr (.row gb tb 0 [] [ptr g o 0] []) (by simp)
  have r2:=hr (.row g t o A [.int .i64 W.trail,.int .i64 W.size,.slice a W.items.length c,.int .i64 cl,.int .i64 q,.slice a2 hs.length c2] B) (by simp)
  obtain ⟨Fw, -,hw⟩:=(hr (.ow EStr 9 (.slice a W.items.length c) W.items F) (by simp)).2.read
  obtain ⟨n0,n1⟩:=isSer_iff.1 (hn hs[k] (List.getElem_mem hk2))
  refine (keep1_f W hs[k] gb g o u a c (.int .i64 cl) (.int .i64 q) (.slice a2 hs.length c2) G Fw t0 t1 n0 n1).val wr ?_
  intro p hp
  simp only [List.mem_cons,List.not_mem_nil,or_false] at hp
  rcases hp with rfl|rfl|rfl|rfl
  ·exact hu
  ·exact ⟨by simp,row_range r1⟩
  ·exact ⟨by simp,row_range r2⟩
  ·exact ⟨_,rfl,_,rfl,hw⟩
 ·rintro e w' ⟨v',F',rfl,h1,h2,h3,h4⟩
  have e:(hs.filter fun x=>!(fun h:Hold=>!heldB W h.number) x)=keepH W hs:=by simp [keepH]
  rw [e] at h1
  obtain ⟨a',c',rfl⟩:=h1.slice
  exact ⟨(a',c',F'),trivial,rfl,⟨h2,h1⟩,fun b hb=>.inl (h3 b hb),h4⟩
theorem keepHolds_f (W:SendWindow) (hs:List Hold) (g t o:Nat) (A B:List Value) (a a2:Option Addr) (c c2:Nat) (cl q:Int) (F F2:List Nat) (t0:0≤W.trail) (t1:W.trail≤65535) (hn:∀h∈hs,isSer h.number=true) :
  Fn Tryz.prog 192 [ptr g o 0] [] [.row g t o A [.int .i64 W.trail,.int .i64 W.size,.slice a W.items.length c,.int .i64 cl,.int .i64 q,.slice a2 hs.length c2] B,.ow EHold 194 (.slice a2 hs.length c2) hs F2,.ow EStr 9 (.slice a W.items.length c) W.items F] (fun (_:Option Addr × Nat × List Nat)=>True)
   (fun _=>.tuple #[]) (fun z=>[.row g t o A [.int .i64 W.trail,.int .i64 W.size,.slice a W.items.length c,.int .i64 cl,.int .i64 q,.slice z.1 (keepH W hs).length z.2.1] B,.ow EHold 194 (.slice z.1 (keepH W hs).length z.2.1) (keepH W hs) z.2.2,.ow EStr 9 (.slice a W.items.length c) W.items F]):=by
 refine enter Tryz.func192 rfl Tryz.ntmps192 fun w0=>?_
 refine go ?_;intros
 refine d_start [0,1] [9] ?_
 refine dt4 0 1 2 3 ?_
 refine dt2 4 5 ?_
 refine dN 6 ?_
 refine oC ?_
 refine cf (keepD_f W hs _ _ g t o A B a a2 c c2 cl q F F2 t0 t1 hn) fun z _=>?_
 refine t_app ?_
 refine dk ?_
 refine dt2 7 8 ?_
 refine dN 9 ?_
 refine oS ?_
 refine dkx ?_
 refine dd ?_
 refine n_ret ?_
 refine ret (_,_,_) trivial rfl
theorem stepsN_gp {a t:Int}:stepsN a t≤(gp a t).toNat:=by unfold stepsN;split <;> omega
theorem moved_at {w:ReceiveWindow} {t:Int} (hg:goodRW w=true):(movedW w t).next=aft w.next ((movedE w t).length:Nat)∧(movedW w t).slots=w.slots.drop (movedE w t).length∧(movedE w t).length≤stepsN w.next t+8∧stepsN w.next t≤(movedE w t).length:=by
 obtain ⟨h0,h1⟩:0≤w.next∧w.next≤65535:=by
  unfold goodRW at hg
  simp only [Bool.and_eq_true] at hg
  exact isSer_iff.1 hg.1.1.1
 have hl:w.slots.length≤8:=by
  unfold goodRW at hg
  simp only [Bool.and_eq_true,decide_eq_true_eq] at hg
  have:=hg.1.1.2;omega
 have e1:∀k (x:ReceiveWindow),(giveE k x).length=k:=by
  intro k
  induction k with
  | zero=>intro x;rfl
  | succ k ih=>intro x;simp [giveE,ih]
 have h2:=giveUp_next (stepsN w.next t) w h0 h1
 have h3:=rel_drop (giveW (stepsN w.next t) w).slots (giveW (stepsN w.next t) w).next
 have h4:=giveW_drop (stepsN w.next t) w
 have h5:=relE_le (giveW (stepsN w.next t) w)
 rw [h4,List.length_drop] at h5
 refine ⟨h2,?_,?_,?_⟩
 ·have e:(movedW w t).slots=(giveW (stepsN w.next t) w).slots.drop (relE (giveW (stepsN w.next t) w)).length:=h3.1
  rw [e,h4,List.drop_drop]
  unfold movedE
  rw [List.length_append,e1]
 ·unfold movedE
  rw [List.length_append,e1];omega
 ·unfold movedE
  rw [List.length_append,e1];omega
theorem hasB_at (w:ReceiveWindow) (n:Int):hasB w n=havAt w.slots (gp w.next n).toNat:=rfl
theorem moved_q {w:ReceiveWindow} {t n:Int} (hg:goodRW w=true) (ht:gp w.next t≤8) (hn:isSer n=true) (h8:gp w.next n < 8) (hh:hasB w n=false) :
  (bef n (movedW w t).next=true∧gp w.next n < ((movedE w t).length:Nat))∨(bef n (movedW w t).next=false∧hasB (movedW w t) n=false∧gp w.next n=((movedE w t).length:Nat)+gp (movedW w t).next n):=by
 obtain ⟨e1,e2,e3, -⟩:=moved_at (t:=t) hg
 have hs:=@stepsN_gp w.next t
 obtain ⟨n0,n1⟩:=isSer_iff.1 hn
 obtain ⟨w0,w1⟩:0≤w.next∧w.next≤65535:=by
  unfold goodRW at hg
  simp only [Bool.and_eq_true] at hg
  exact isSer_iff.1 hg.1.1.1
 have hm:(movedE w t).length≤16:=by omega
 have hb:=gp_bd w.next n
 rw [hasB_at,e1,e2,havAt_drop]
 rw [hasB_at] at hh
 generalize hM:(movedE w t).length=m at *
 clear e1 e2 e3 hs hM hg ht
 by_cases hc:gp w.next n < (m:Nat)
 ·left
  refine ⟨?_,hc⟩
  unfold bef btw gp aft at *
  simp only [Bool.and_eq_true,decide_eq_true_eq]
  omega
 ·right
  have e:gp w.next n=m+gp (aft w.next m) n:=by unfold gp aft at *;omega
  refine ⟨?_,?_,e⟩
  ·have:¬(1≤gp n (aft w.next m)∧gp n (aft w.next m)≤32767):=by unfold gp aft at *;omega
   unfold bef btw
   simpa using this
  ·have hb2:=gp_bd (aft w.next m) n
   rw [show m+(gp (aft w.next m) n).toNat=(gp w.next n).toNat by omega]
   exact hh
theorem needed_moved {w:ReceiveWindow} {t:Int} (hg:goodRW w=true) (ht:gp w.next t≤8) {l:List Request} (hl:∀q∈l,isSer q.number=true∧gp w.next q.number < 8∧hasB w q.number=false):needed l (movedW w t)=noBef l (movedW w t).next:=by
 unfold needed noBef
 refine List.filter_congr fun q hq=>?_
 obtain ⟨a,b,c⟩:=hl q hq
 rcases moved_q hg ht a b c with ⟨h, -⟩|⟨h,h2,h3⟩
 ·simp [h]
 ·have:=gp_bd (movedW w t).next q.number
  simp [h,h2,show gp (movedW w t).next q.number < 8 by omega]
theorem tkO_num {c d:Int} {r q:Request} (h:tkO c d r=some q):q.number=r.number:=by
 unfold tkO at h
 split at h
 ·cases h;rfl
 ·split at h
  ·cases h
  ·split at h <;> cases h <;> rfl
theorem tkL_num {c:Int} {r:Request} {n:Int} (h:tkL c r=some n):n=r.number:=by
 unfold tkL at h
 split at h
 ·cases h
 ·split at h <;> cases h <;> rfl
theorem req_at {r:Receiver} (hg:GoodR r) {q:Request} (hq:q∈r.requests):isSer q.number=true∧gp r.window.next q.number < 8∧hasB r.window q.number=false:=by
 obtain ⟨-, -,h3, -⟩:=areQ_iff.1 hg.q
 have:=okReq_iff.1 (h3 q hq)
 exact ⟨this.n,this.g,hg.f q hq⟩
theorem tkReq_at {r:Receiver} {d:Int} (hg:GoodR r) {q:Request} (hq:q∈tkReq r d):isSer q.number=true∧gp r.window.next q.number < 8∧hasB r.window q.number=false:=by
 obtain ⟨q',hq',h⟩:=List.mem_filterMap.1 hq
 rw [tkO_num h]
 exact req_at hg hq'
theorem tkLost_at {r:Receiver} (hg:GoodR r) {n:Int} (hn:n∈tkLost r):isSer n=true∧gp r.window.next n < 8:=by
 obtain ⟨q',hq',h⟩:=List.mem_filterMap.1 hn
 rw [tkL_num h]
 exact ⟨(req_at hg hq').1,(req_at hg hq').2.1⟩
theorem next_ser {w:ReceiveWindow} (hg:goodRW w=true):0≤w.next∧w.next≤65535:=by
 unfold goodRW at hg
 simp only [Bool.and_eq_true] at hg
 exact isSer_iff.1 hg.1.1.1
theorem lost_gp {r:Receiver} (hg:GoodR r) (h:tkLost r≠[]):gp r.window.next (lostTrail (tkLost r))≤8∧isSer (lostTrail (tkLost r))=true:=by
 unfold lostTrail
 have hm:(tkLost r).getLastD 0∈tkLost r:=by
  rw [List.getLastD_eq_getLast?,List.getLast?_eq_some_getLast h]
  exact List.getLast_mem h
 obtain ⟨a,b⟩:=tkLost_at hg hm
 refine ⟨?_,aft_ser _ _⟩
 obtain ⟨n0,n1⟩:=isSer_iff.1 a
 obtain ⟨w0,w1⟩:=next_ser hg.w
 unfold gp aft at *
 omega
theorem tick_needed {r:Receiver} {d:Int} (hg:GoodR r) (h:tkLost r≠[]):needed (tkReq r d) (movedW r.window (lostTrail (tkLost r)))=noBef (tkReq r d) (movedW r.window (lostTrail (tkLost r))).next :=
 needed_moved hg.w (lost_gp hg h).1 fun _ hq=>tkReq_at hg hq
theorem t_fnsl {P:Program} {f:FuncId} {α:Type} {E:Elem α} {v:Value} {xs:List α} {F:List Nat} {rest:List Value} {A M:List Pc} {σ:Type} {C:σ→Prop} {w:σ→Value} {N:σ→List Pc} (h:∀a c,Fn P f (.slice a xs.length c::rest) (.sl E (.slice a xs.length c) xs F::A) M C w N):Fn P f (v::rest) (.sl E v xs F::A) M C w N:=fun w0 hH hS=>by
 obtain ⟨-,hs⟩:=hH (.sl E v xs F) (by simp)
 obtain ⟨a,c,rfl⟩:=hs.slice
 exact h a c w0 hH hS
theorem isDelay_f (d:Int):Fn Tryz.prog 355 [.int .i64 d] [] [] (fun (_:Unit)=>True) (fun _=>.bool (isDel d)) (fun _=>[]):=by
 refine enter Tryz.func355 rfl Tryz.ntmps355 fun w0=>?_
 refine go ?_;intros
 refine ce (fun w s=>within_c _ _ _ _) ?_
 refine go ?_;intros
 refine ret () trivial rfl
theorem isRequest_f (r:Request) (base:Int) (b0:0≤base) (b1:base≤65535):Fn Tryz.prog 294 [.agg #[.int .i64 r.number,.int .i64 r.state,.int .i64 r.untl,.int .i64 r.tries],.int .i64 base] [] [] (fun (_:Unit)=>True) (fun _=>.bool (okReq base r)) (fun _=>[]):=by
 refine enter Tryz.func294 rfl Tryz.ntmps294 fun w0=>?_
 refine go ?_;intros
 refine ce (fun w s=>IsSerial_c _ _) ?_
 cases g1:isSer r.number
 ·refine go ?_;intros
  refine ret () trivial ?_
  simp [okReq,g1,tup]
 obtain ⟨n0,n1⟩:=isSer_iff.1 g1
 refine go ?_;intros
 refine ce (fun w s=>gap_c _ _ _ (by omega) (by omega) (by omega) (by omega)) ?_
 refine go ?_;intros
 refine wg_if rfl rfl (fun g2=>?_) (fun g2=>?_)
 rotate_left
 ·refine go ?_;intros
  refine ret () trivial ?_
  simp [okReq,g2,tup]
 refine go ?_;intros
 refine ce (fun w s=>within_c _ _ _ _) ?_
 cases g3:btw 1 r.state 3
 ·refine go ?_;intros
  refine ret () trivial ?_
  simp [okReq,g3,tup]
 refine go ?_;intros
 refine ce (fun w s=>within_c _ _ _ _) ?_
 cases g4:btw 0 r.untl 10007
 ·refine go ?_;intros
  refine ret () trivial ?_
  simp [okReq,g4,tup]
 refine go ?_;intros
 refine ce (fun w s=>within_c _ _ _ _) ?_
 refine go ?_;intros
 refine ret () trivial ?_
 simp [okReq,g1,g2,g3,g4,tup]
theorem AreRequests_f (l:List Request) (base:Int) (v:Value) (F:List Nat):Fn Tryz.prog 243 [v,.int .i64 base] [.sl ERequest v l F] [] (fun (_:Unit)=>True) (fun _=>.bool (areQ l base)) (fun _=>[]):=by
 refine t_fnsl (fun a c=>?_)
 refine enter Tryz.func243 rfl Tryz.ntmps243 fun w0=>?_
 refine go ?_;intros
 refine ce (fun w s=>IsSerial_c _ _) ?_
 cases g1:isSer base
 ·refine go ?_;intros
  refine ret () trivial ?_
  simp [areQ,g1,tup]
 obtain ⟨b0,b1⟩:=isSer_iff.1 g1
 refine go ?_;intros
 refine c_if rfl (fun g2=>?_) (fun g2=>?_)
 ·refine go ?_;intros
  refine ret () trivial ?_
  rw [show areQ l base=false by unfold areQ;rw [decide_eq_false (by omega)];simp];rfl
 refine go ?_;intros
 refine c_loopR [0,1,4,15,16] (fun k:Nat=>[(17,.int .i64 (k:Nat))]) (fun k=>k≤l.length∧∀j,j < k→chkQ l base j=true) (fun k=>l.length - k) 0 ⟨Nat.zero_le _,fun j h=>by omega⟩ fun k hk=>?_
 obtain ⟨hk1,hk2⟩:=hk
 refine go ?_;intros
 refine c_if rfl (fun h3=>?_) (fun h3=>?_)
 ·have hk3:k < l.length:=by omega
  have bad:chkQ l base k=false→areQ l base=false:=fun h=>areQ_no hk3 h
  have hck:=chkQ_at (base:=base) hk3
  refine atRequest (xs:=l) k ?_
  rintro hi b o e
  rw [e]
  have p4:0 < k→∃h:k - 1 < l.length,OkReq base l[k - 1]:=fun h0=>by
   have hk4:k - 1 < l.length:=by omega
   have hp:=hk2 (k - 1) (by omega)
   rw [chkQ_at hk4] at hp
   simp only [Bool.and_eq_true] at hp
   exact ⟨hk4,okReq_iff.1 hp.1⟩
  refine go ?_;intros
  cases g4:okReq base l[k]
  ·skip
   refine d_start [0] [] ?_
   refine dt2 0 1 ?_
   refine dN 2 ?_
   refine oC ?_
   refine cf (isRequest_f l[k] base b0 b1) fun _ _=>?_
   refine t_app ?_
   rw [g4]
   refine dk ?_
   refine dt2 3 4 ?_
   refine ds 5 ?_
   refine ds 6 ?_
   refine ds 7 ?_
   refine dsu 8 ?_
   refine dsu 9 ?_
   refine dsu 10 ?_
   refine dsu 11 ?_
   refine dsu 12 ?_
   refine dsu 13 ?_
   refine dsu 14 ?_
   refine dsu 15 ?_
   refine dsu 16 ?_
   refine dsu 17 ?_
   refine dsu 18 ?_
   refine dsu 19 ?_
   refine dsu 20 ?_
   refine ds 21 ?_
   refine dt 22 ?_
   refine dd ?_
   refine go ?_;intros
   refine ret () trivial ?_
   rw [bad (by rw [hck,g4];rfl)];rfl
  obtain ⟨q0,q1⟩:=isSer_iff.1 (okReq_iff.1 g4).n
  by_cases hk0:0 < k
  ·obtain ⟨hk4,p5⟩:=p4 hk0
   obtain ⟨p0,p1⟩:=isSer_iff.1 p5.n
   rw [←e]
   refine atRequest (xs:=l) (k - 1) ?_
   rintro hi5 b5 o5 e5
   rw [e5]
   refine d_start [0,1] [] ?_
   refine dt2 0 1 ?_
   refine dN 2 ?_
   refine oC ?_
   refine cf (isRequest_f l[k] base b0 b1) fun _ _=>?_
   refine t_app ?_
   rw [g4]
   refine dk ?_
   refine dt2 3 4 ?_
   refine dtg 5 ?_
   refine dtg 6 ?_
   rw [decide_eq_true (show (0:Int) < k by omega)]
   refine dtg 7 ?_
   refine dtg 8 ?_
   refine dtg 9 ?_
   refine dtg 10 ?_
   refine dtg 11 ?_
   rw [show (k:Int) - 1=((k - 1:Nat):Int) by omega]
   refine dtg 12 ?_
   refine dtg 13 ?_
   refine dtg 14 ?_
   refine dtg 16 ?_
   refine dtg 17 ?_
   refine dtg 18 ?_
   refine d1g 15 ?_
   apply On.h
   refine oC ?_
   refine ce (fun w s=>gap_c _ _ _ (by omega) (by omega) (by omega) (by omega)) ?_
   refine dk ?_
   refine d1g 19 ?_
   apply On.h
   refine oC ?_
   refine ce (fun w s=>gap_c _ _ _ (by omega) (by omega) (by omega) (by omega)) ?_
   refine dk ?_
   refine dtg 20 ?_
   refine dtg 21 ?_
   refine dt 22 ?_
   refine dd ?_
   refine go ?_;intros
   refine c_if rfl (fun h6=>?_) (fun h6=>?_)
   ·refine go ?_;intros
    refine ret () trivial ?_
    rw [bad (by rw [hck,decide_eq_true h6,decide_eq_false (show ¬k=0 by omega)];simp)];rfl
   ·refine go ?_;intros
    refine n_lp (k+1) ⟨by omega,fun j hj=>?_⟩ (by omega)
    rcases Nat.lt_or_eq_of_le (Nat.lt_succ_iff.1 hj) with h|rfl
    ·exact hk2 j h
    ·rw [hck,g4,decide_eq_false h6];simp
  ·have hz:k=0:=by omega
   refine d_start [0] [] ?_
   refine dt2 0 1 ?_
   refine dN 2 ?_
   refine oC ?_
   refine cf (isRequest_f l[k] base b0 b1) fun _ _=>?_
   refine t_app ?_
   rw [g4]
   refine dk ?_
   refine dt2 3 4 ?_
   refine dtg 5 ?_
   refine dtg 6 ?_
   rw [decide_eq_false (show ¬(0:Int) < k by omega)]
   refine dtg 7 ?_
   refine ds 8 ?_
   refine ds 9 ?_
   refine ds 10 ?_
   refine ds 11 ?_
   refine ds 12 ?_
   refine ds 13 ?_
   refine ds 14 ?_
   refine ds 15 ?_
   refine ds 16 ?_
   refine ds 17 ?_
   refine ds 18 ?_
   refine ds 19 ?_
   refine ds 20 ?_
   refine dtg 21 ?_
   refine dt 22 ?_
   refine dd ?_
   refine go ?_;intros
   refine n_lp (k+1) ⟨by omega,fun j hj=>?_⟩ (by omega)
   rcases Nat.lt_or_eq_of_le (Nat.lt_succ_iff.1 hj) with h|rfl
   ·exact hk2 j h
   ·rw [hck,g4,decide_eq_true hz];simp
 have hkl:k=l.length:=by omega
 refine go ?_;intros
 refine ret () trivial ?_
 rw [areQ_yes g1 (by omega) (hkl▸hk2)];rfl
theorem l12Good_f (l:List Request) (base:Int) (v:Value) (F:List Nat):Fn Tryz.prog 219 [v,.int .i64 base] [.sl ERequest v l F] [] (fun (_:Unit)=>True) (fun _=>.bool (areQ l base)) (fun _=>[]):=by
 refine t_fnsl (fun a c=>?_)
 refine enter Tryz.func219 rfl Tryz.ntmps219 fun w0=>?_
 refine go ?_;intros
 refine ce (fun w s=>l2Good_c _ _) ?_
 cases g1:isSer base
 ·refine go ?_;intros
  refine ret () trivial ?_
  simp [areQ,g1,tup]
 obtain ⟨b0,b1⟩:=isSer_iff.1 g1
 refine go ?_;intros
 refine c_if rfl (fun g2=>?_) (fun g2=>?_)
 ·refine go ?_;intros
  refine ret () trivial ?_
  rw [show areQ l base=false by unfold areQ;rw [decide_eq_false (by omega)];simp];rfl
 refine go ?_;intros
 refine c_loopR [0,1,4] (fun k:Nat=>[(5,.int .i64 (k:Nat))]) (fun k=>k≤l.length∧∀j,j < k→chkQ l base j=true) (fun k=>l.length - k) 0 ⟨Nat.zero_le _,fun j h=>by omega⟩ fun k hk=>?_
 obtain ⟨hk1,hk2⟩:=hk
 refine go ?_;intros
 refine c_if rfl (fun h3=>?_) (fun h3=>?_)
 ·have hk3:k < l.length:=by omega
  have bad:chkQ l base k=false→areQ l base=false:=fun h=>areQ_no hk3 h
  have hck:=chkQ_at (base:=base) hk3
  refine atRequest (xs:=l) k ?_
  rintro hi b o e
  rw [e]
  have p4:0 < k→∃h:k - 1 < l.length,OkReq base l[k - 1]:=fun h0=>by
   have hk4:k - 1 < l.length:=by omega
   have hp:=hk2 (k - 1) (by omega)
   rw [chkQ_at hk4] at hp
   simp only [Bool.and_eq_true] at hp
   exact ⟨hk4,okReq_iff.1 hp.1⟩
  refine go ?_;intros
  refine ce (fun w s=>l2Good_c _ _) ?_
  cases g5:isSer l[k].number
  ·refine go ?_;intros
   refine ret () trivial ?_
   rw [bad (by rw [hck,show okReq base l[k]=false by unfold okReq;simp [g5]];rfl)];rfl
  obtain ⟨q0,q1⟩:=isSer_iff.1 g5
  refine go ?_;intros
  refine ce (fun w s=>l2Gap_c _ _ _ (by omega) (by omega)) ?_
  refine go ?_;intros
  refine wg_if rfl rfl (fun g6=>?_) (fun g6=>?_)
  ·refine go ?_;intros
   refine ret () trivial ?_
   rw [bad (by rw [hck,show okReq base l[k]=false by unfold okReq;rw [decide_eq_false (by omega)];simp];rfl)];rfl
  refine go ?_;intros
  refine ce (fun w s=>l1In_c _ _ _ _) ?_
  cases g7:btw 1 l[k].state 3
  ·refine go ?_;intros
   refine ret () trivial ?_
   rw [bad (by rw [hck,show okReq base l[k]=false by unfold okReq;simp [g7]];rfl)];rfl
  refine go ?_;intros
  refine ce (fun w s=>l1In_c _ _ _ _) ?_
  cases g8:btw 0 l[k].untl 10007
  ·refine go ?_;intros
   refine ret () trivial ?_
   rw [bad (by rw [hck,show okReq base l[k]=false by unfold okReq;simp [g8]];rfl)];rfl
  refine go ?_;intros
  refine ce (fun w s=>l1In_c _ _ _ _) ?_
  cases g9:btw 0 l[k].tries 3
  ·refine go ?_;intros
   refine ret () trivial ?_
   rw [bad (by rw [hck,show okReq base l[k]=false by unfold okReq;simp [g9]];rfl)];rfl
  refine go ?_;intros
  have g4:okReq base l[k]=true:=by unfold okReq;rw [g5,g7,g8,g9,decide_eq_true (by omega)];rfl
  by_cases hk0:0 < k
  ·obtain ⟨hk4,p5⟩:=p4 hk0
   obtain ⟨p0,p1⟩:=isSer_iff.1 p5.n
   rw [←e]
   refine atRequest (xs:=l) (k - 1) ?_
   rintro hi5 b5 o5 e5
   rw [e5]
   refine d_start [1,0] [] ?_
   refine dt2 0 1 ?_
   rw [decide_eq_true (show (0:Int) < k by omega)]
   refine dt 2 ?_
   refine dtg 3 ?_
   refine dtg 4 ?_
   refine dtg 5 ?_
   refine dtg 6 ?_
   rw [show (k:Int) - 1=((k - 1:Nat):Int) by omega]
   refine dtg 7 ?_
   refine dtg 8 ?_
   refine dtg 9 ?_
   refine dtg 11 ?_
   refine dtg 12 ?_
   refine dtg 13 ?_
   refine d1g 10 ?_
   apply On.h
   refine oC ?_
   refine ce (fun w s=>l2Gap_c _ _ _ (by omega) (by omega)) ?_
   refine dk ?_
   refine d1g 14 ?_
   apply On.h
   refine oC ?_
   refine ce (fun w s=>l2Gap_c _ _ _ (by omega) (by omega)) ?_
   refine dk ?_
   refine dtg 15 ?_
   refine dt 16 ?_
   refine dd ?_
   refine go ?_;intros
   refine c_if rfl (fun h6=>?_) (fun h6=>?_)
   ·refine go ?_;intros
    refine ret () trivial ?_
    rw [bad (by rw [hck,decide_eq_true h6,decide_eq_false (show ¬k=0 by omega)];simp)];rfl
   ·refine go ?_;intros
    refine n_lp (k+1) ⟨by omega,fun j hj=>?_⟩ (by omega)
    rcases Nat.lt_or_eq_of_le (Nat.lt_succ_iff.1 hj) with h|rfl
    ·exact hk2 j h
    ·rw [hck,g4,decide_eq_false h6];simp
  ·have hz:k=0:=by omega
   refine d_start [0] [] ?_
   refine dt2 0 1 ?_
   rw [decide_eq_false (show ¬(0:Int) < k by omega)]
   refine dt 2 ?_
   refine ds 3 ?_
   refine ds 4 ?_
   refine ds 5 ?_
   refine ds 6 ?_
   refine ds 7 ?_
   refine ds 8 ?_
   refine ds 9 ?_
   refine ds 10 ?_
   refine ds 11 ?_
   refine ds 12 ?_
   refine ds 13 ?_
   refine ds 14 ?_
   refine ds 15 ?_
   refine dt 16 ?_
   refine dd ?_
   refine go ?_;intros
   refine n_lp (k+1) ⟨by omega,fun j hj=>?_⟩ (by omega)
   rcases Nat.lt_or_eq_of_le (Nat.lt_succ_iff.1 hj) with h|rfl
   ·exact hk2 j h
   ·rw [hck,g4,decide_eq_true hz];simp
 have hkl:k=l.length:=by omega
 refine go ?_;intros
 refine ret () trivial ?_
 rw [areQ_yes g1 (by omega) (hkl▸hk2)];rfl
section
variable {c:Cx} {fr:Fr} {H:List Pc} {Φ:Gl}
theorem openReceiver {v:Value} {x:Receiver} {F:List Nat} (h:∀(a1:Option Addr) (c1:Nat) (F1:List Nat) (a2:Option Addr) (c2:Nat) (F2:List Nat),v=.agg #[.bool x.started,.int .i64 x.clock,.int .i64 x.window.next,.slice a1 x.window.slots.length c1,.slice a2 x.requests.length c2]→x.window.slots.length≤maxLen→x.requests.length≤maxLen→T c fr (.sl ESlot (.slice a1 x.window.slots.length c1) x.window.slots F1::.sl ERequest (.slice a2 x.requests.length c2) x.requests F2::H) Φ) (hm:.isv EReceiver v x F∈H:=by (repeat (first|exact .head _|apply List.Mem.tail));first|done|fail):T c fr H Φ:=.mk fun a w s g=>by
 obtain ⟨cs,rfl,v1,v2,G1,G2,rfl,h1,h2,rfl⟩:=s.get hm
 obtain ⟨a1,c1,rfl⟩:=h1.slice;have l1:=h1.len
 obtain ⟨a2,c2,rfl⟩:=h2.slice;have l2:=h2.len
 have t2:=s.ro (p:=.sl ERequest (.slice a2 x.requests.length c2) x.requests G2) hm rfl rfl ⟨by decide,h2⟩ (by intro b hb;simp only [Pc.F] at hb ⊢;simp [hb])
 have t1:=t2.ro (p:=.sl ESlot (.slice a1 x.window.slots.length c1) x.window.slots G1) (List.mem_cons_of_mem _ hm) rfl rfl ⟨by decide,h1⟩ (by intro b hb;simp only [Pc.F] at hb ⊢;simp [hb])
 exact (h a1 c1 G1 a2 c2 G2 rfl  l1 l2).h a w t1 g
theorem closeReceiver (x:Receiver) {a1:Option Addr} {c1:Nat} {F1:List Nat} {a2:Option Addr} {c2:Nat} {F2:List Nat}  (h:T c fr (.isv EReceiver (.agg #[.bool x.started,.int .i64 x.clock,.int .i64 x.window.next,.slice a1 x.window.slots.length c1,.slice a2 x.requests.length c2]) x (F1++F2)::H) Φ) (m1:.sl ESlot (.slice a1 x.window.slots.length c1) x.window.slots F1∈H:=by (repeat (first|exact .head _|apply List.Mem.tail));first|done|fail) (m2:.sl ERequest (.slice a2 x.requests.length c2) x.requests F2∈H:=by (repeat (first|exact .head _|apply List.Mem.tail));first|done|fail):T c fr H Φ:=.mk fun a w s g=>by
 have hP:IsV EReceiver w (.agg #[.bool x.started,.int .i64 x.clock,.int .i64 x.window.next,.slice a1 x.window.slots.length c1,.slice a2 x.requests.length c2]) x (F1++F2):=⟨_,rfl,_,_,_,_,rfl,(s.get m1).2,(s.get m2).2,rfl⟩
 refine h.h a w (s.add (N:=[.isv EReceiver (.agg #[.bool x.started,.int .i64 x.clock,.int .i64 x.window.next,.slice a1 x.window.slots.length c1,.slice a2 x.requests.length c2]) x (F1++F2)]) (Below.refl _ _) (by intro q hq;simp at hq;subst hq;exact hP) ⟨by simp,trivial⟩ fun q hq b hb=>?_) g
 simp at hq;subst hq
 simp only [Pc.F,List.mem_append] at hb
 rcases hb with hb|hb
 ·exact .inr ⟨rfl,_,m1,rfl,hb⟩
 ·exact .inr ⟨rfl,_,m2,rfl,hb⟩
theorem openOReceiver {v:Value} {x:Receiver} {F:List Nat} {S:List Pc} (h:∀(a1:Option Addr) (c1:Nat) (F1:List Nat) (a2:Option Addr) (c2:Nat) (F2:List Nat),v=.agg #[.bool x.started,.int .i64 x.clock,.int .i64 x.window.next,.slice a1 x.window.slots.length c1,.slice a2 x.requests.length c2]→x.window.slots.length≤maxLen→x.requests.length≤maxLen→T c fr (.ow ESlot 247 (.slice a1 x.window.slots.length c1) x.window.slots F1::.ow ERequest 235 (.slice a2 x.requests.length c2) x.requests F2::S) Φ) (hp:Pick H (.own OReceiver v x F) S:=by (repeat (first|exact .here|apply Pick.there));first|done|fail):T c fr H Φ:=.mk fun a w s g=>by
 have z1:=s.pick hp
 obtain ⟨hn,cs,rfl,v1,v2,G1,G2,rfl,h1,h2,rfl⟩:=z1.on (.own OReceiver v x F) (by simp)
 obtain ⟨a1,c1,rfl⟩:=h1.slice;have l1:=h1.len
 obtain ⟨a2,c2,rfl⟩:=h2.slice;have l2:=h2.len
 have hn2:=hn;simp only [List.nodup_append,List.mem_append] at hn2
 refine (h a1 c1 G1 a2 c2 G2 rfl  l1 l2).h a w (St.turn (M:=[.own OReceiver (.agg #[.bool x.started,.int .i64 x.clock,.int .i64 x.window.next,.slice a1 x.window.slots.length c1,.slice a2 x.requests.length c2]) x _]) (N:=[.ow ESlot 247 (.slice a1 x.window.slots.length c1) x.window.slots G1,.ow ERequest 235 (.slice a2 x.requests.length c2) x.requests G2]) z1 (Keep.refl _ w) ?_ ?_ ?_) g
 ·intro q hq;simp only [List.mem_cons,List.not_mem_nil,or_false] at hq
  rcases hq with rfl|rfl
  ·exact ⟨(List.nodup_append.1 hn).1,h1⟩
  ·exact ⟨(List.nodup_append.1 hn).2.1,h2⟩
 ·refine ⟨?_,⟨?_,trivial⟩⟩
  ·intro q hq _ b hb hb2;simp only [List.mem_cons,List.not_mem_nil,or_false] at hq;rcases hq with rfl <;> simp only [Pc.F] at hb hb2 <;> exact nodup_apt hn hb hb2
  ·intro q hq _ b hb hb2;simp at hq
 ·intro q hq b hb;refine .inr (.inl ⟨_,List.mem_singleton.2 rfl,rfl,?_⟩);simp only [List.mem_cons,List.not_mem_nil,or_false] at hq;rcases hq with rfl|rfl <;> simp only [Pc.F] at hb ⊢ <;> simp [hb]
theorem closeOReceiver (x:Receiver) {a1:Option Addr} {c1:Nat} {F1:List Nat} {a2:Option Addr} {c2:Nat} {F2:List Nat} {S1 S2:List Pc}  (h:T c fr (.own OReceiver (.agg #[.bool x.started,.int .i64 x.clock,.int .i64 x.window.next,.slice a1 x.window.slots.length c1,.slice a2 x.requests.length c2]) x (F1++F2)::S2) Φ) (m1:Pick H (.ow ESlot 247 (.slice a1 x.window.slots.length c1) x.window.slots F1) S1:=by (repeat (first|exact .here|apply Pick.there));first|done|fail) (m2:Pick S1 (.ow ERequest 235 (.slice a2 x.requests.length c2) x.requests F2) S2:=by (repeat (first|exact .here|apply Pick.there));first|done|fail)  : T c fr H Φ:=.mk fun a w s g=>by
 have z1:St c.G c.D c.w0 ([.ow ESlot 247 (.slice a1 x.window.slots.length c1) x.window.slots F1,.ow ERequest 235 (.slice a2 x.requests.length c2) x.requests F2]++S2) w:=by simpa using (show Picks H [.ow ESlot 247 (.slice a1 x.window.slots.length c1) x.window.slots F1,.ow ERequest 235 (.slice a2 x.requests.length c2) x.requests F2] S2 from Picks.cons m1 (Picks.cons m2 (Picks.nil))).st (X:=[]) (by simpa using s)
 obtain ⟨n1,k1⟩:=z1.on (.ow ESlot 247 (.slice a1 x.window.slots.length c1) x.window.slots F1) (by simp)
 obtain ⟨n2,k2⟩:=z1.on (.ow ERequest 235 (.slice a2 x.requests.length c2) x.requests F2) (by simp)
 have hsp:=z1.sep
 have p1_2:∀b∈F1,b ∉ F2:=hsp.1 (.ow ERequest 235 (.slice a2 x.requests.length c2) x.requests F2) (by simp) rfl
 have hN:(F1++F2).Nodup:=by
  simp only [List.nodup_append,List.mem_append]
  grind
 refine h.h a w (St.turn (M:=[.ow ESlot 247 (.slice a1 x.window.slots.length c1) x.window.slots F1,.ow ERequest 235 (.slice a2 x.requests.length c2) x.requests F2]) (N:=[.own OReceiver (.agg #[.bool x.started,.int .i64 x.clock,.int .i64 x.window.next,.slice a1 x.window.slots.length c1,.slice a2 x.requests.length c2]) x (F1++F2)]) z1 (Keep.refl _ w) (by intro q hq;simp at hq;subst hq;exact ⟨hN,_,rfl,_,_,_,_,rfl,k1,k2,rfl⟩) ⟨by simp,trivial⟩ fun q hq b hb=>?_) g
 simp at hq;subst hq
 simp only [Pc.F,List.mem_append] at hb
 rcases hb with hb|hb
 ·exact .inr (.inl ⟨.ow ESlot 247 (.slice a1 x.window.slots.length c1) x.window.slots F1,by simp,rfl,hb⟩)
 ·exact .inr (.inl ⟨.ow ERequest 235 (.slice a2 x.requests.length c2) x.requests F2,by simp,rfl,hb⟩)
theorem atReceiver {a:Option Addr} {n cp:Nat} {xs:List Receiver} {F:List Nat} (i:Nat) (h:∀(hi:i < xs.length) (b o:Nat) (a1:Option Addr) (c1:Nat) (F1:List Nat) (a2:Option Addr) (c2:Nat) (F2:List Nat),a=some ⟨b,o,none⟩→xs[i].window.slots.length≤maxLen→xs[i].requests.length≤maxLen→T c fr (.cel b (o+i * 5) [.bool xs[i].started,.int .i64 xs[i].clock,.int .i64 xs[i].window.next,.slice a1 xs[i].window.slots.length c1,.slice a2 xs[i].requests.length c2]::.sl ESlot (.slice a1 xs[i].window.slots.length c1) xs[i].window.slots F1::.sl ERequest (.slice a2 xs[i].requests.length c2) xs[i].requests F2::H) Φ) (hm:.sl EReceiver (.slice a n cp) xs F∈H:=by (repeat (first|exact .head _|apply List.Mem.tail));first|done|fail) (hi:i < xs.length:=by omega):T c fr H Φ:=.mk fun ac w s g=>by
 obtain ⟨b,o,cs,G,ha,hrep,hG,hb,hne,hr⟩:=sl_at (s.get hm) i hi
 obtain ⟨v1,v2,G1,G2,rfl,h1,h2,rfl⟩:=hrep
 obtain ⟨a1,c1,rfl⟩:=h1.slice;have l1:=h1.len
 obtain ⟨a2,c2,rfl⟩:=h2.slice;have l2:=h2.len
 have t2:=s.ro (p:=.sl ERequest (.slice a2 xs[i].requests.length c2) xs[i].requests G2) hm rfl rfl ⟨by decide,h2⟩ (by intro b hb;simp only [Pc.F] at hb ⊢;exact hG b (by simp [hb]))
 have t1:=t2.ro (p:=.sl ESlot (.slice a1 xs[i].window.slots.length c1) xs[i].window.slots G1) (List.mem_cons_of_mem _ hm) rfl rfl ⟨by decide,h1⟩ (by intro b hb;simp only [Pc.F] at hb ⊢;exact hG b (by simp [hb]))
 exact (h hi b o a1 c1 G1 a2 c2 G2 ha  l1 l2).h ac w (t1.ro (List.mem_cons_of_mem _ (List.mem_cons_of_mem _ hm)) rfl rfl ⟨hne,hr⟩ (by intro x hx;simp [Pc.F] at hx;subst hx;exact hb)) g
end
theorem t_rocel {c:Cx} {fr:Fr} {H S:List Pc} {Φ:Gl} {g t:Nat} {cs:List Value} (h:T c fr (.cel g 0 cs::S) Φ) (h0:cs≠[]) (hp:Pick H (.row g t 0 [] cs []) S:=by (repeat (first|exact .here|apply Pick.there));first|done|fail):T c fr H Φ:=.mk fun ac w s ag=>by
 have s1:=s.pick hp
 exact h.h ac w (s1.conv rfl ⟨h0,row_range (s1.on (.row g t 0 [] cs []) (by simp))⟩ (fun b hb=>hb)) ag
theorem t_rin {c:Cx} {fr:Fr} {H S:List Pc} {Φ:Gl} {g t o k:Nat} {A B L:List Value} (X cs Y:List Value) (h:T c fr (.row g t (o+k) (A++X) cs (Y++B)::S) Φ) (hL:L=X++cs++Y:=by rfl) (hk:X.length=k:=by rfl) (hp:Pick H (.row g t o A L B) S:=by (repeat (first|exact .here|apply Pick.there));first|done|fail):T c fr H Φ:=.mk fun ac w s ag=>by
 subst hL hk
 have s1:=s.pick hp
 obtain ⟨hA,hr⟩:=s1.on (.row g t o A (X++cs++Y) B) (by simp)
 exact h.h ac w (s1.conv rfl ⟨by simp [hA],by simpa [List.append_assoc] using hr⟩ (fun b hb=>hb)) ag
theorem t_rout {c:Cx} {fr:Fr} {H S:List Pc} {Φ:Gl} {g t o k:Nat} {A B L:List Value} (X cs Y:List Value) (h:T c fr (.row g t o A L B::S) Φ) (hL:L=X++cs++Y:=by rfl) (hk:X.length=k:=by rfl) (hp:Pick H (.row g t (o+k) (A++X) cs (Y++B)) S:=by (repeat (first|exact .here|apply Pick.there));first|done|fail):T c fr H Φ:=.mk fun ac w s ag=>by
 subst hL hk
 have s1:=s.pick hp
 obtain ⟨hA,hr⟩:=s1.on (.row g t (o+X.length) (A++X) cs (Y++B)) (by simp)
 exact h.h ac w (s1.conv rfl ⟨by simpa using hA,by simpa [List.append_assoc] using hr⟩ (fun b hb=>hb)) ag
theorem hsub_skip {p:Pc}:∀(A:List Pc),HSub (p::A) A
 | []=>.nil
 | _::r=>.cons (.there .here) (hsub_skip r)
theorem IdxReq_f (fid:FuncId) (bd caps:List Value) (A:List Pc) (hA:A.all (fun p=>!p.mu)=true) (xs:List Request) (a:Option Addr) (c:Nat) (F:List Nat) (p:Request→Bool) (hb:bodyB Tryz.prog fid=true) (hl:xs.length≤1000000000)
  (hp:∀x∈xs,∀w,Hol A w→Calls Tryz.prog fid (bd++[(.agg #[.int .i64 (x).number,.int .i64 (x).state,.int .i64 (x).untl,.int .i64 (x).tries]:Value)]++caps).toArray w fun e w'=>e=.returned (.bool (p x))∧Below w.heap.size w w') :
  Fn Tryz.prog 295 [.slice a xs.length c,.func (.func fid) bd.toArray caps.toArray] (.sl ERequest (.slice a xs.length c) xs F::A) [] (fun (_:Unit)=>True) (fun _=>.int .i64 (fidx p xs)) (fun _=>[]):=by
 refine enter Tryz.func295 rfl Tryz.ntmps295 (fun w0=>?_) rfl (by simpa [Pc.mu] using hA) .nil
 refine go ?_;intros
 refine c_loopR [0,1,4,7] (fun k:Nat=>[(8,.int .i64 (k:Nat))]) (fun k=>k≤xs.length∧∀j (_:j < k) (hj:j < xs.length),p xs[j]=false) (fun k=>xs.length - k) 0 ⟨Nat.zero_le _,fun j h=>by omega⟩ fun k hk=>?_
 obtain ⟨hk1,hk2⟩:=hk
 refine go ?_;intros
 refine c_if rfl (fun h5=>?_) (fun h5=>?_)
 ·have hh:k < xs.length:=by omega
  refine go ?_;intros
  refine atRequest (xs:=xs) k ?_
  rintro hi b o e
  rw [e]
  refine go ?_;intros
  apply wO
  refine o_callb rfl rfl hb evsE ?_
  refine cb (fun w st=>hp xs[k] (List.getElem_mem hh) w (fun q hq=>st.on q (by simp [hq]))) ?_
  cases hpk:p xs[k]
  ·refine go ?_;intros
   refine t_drop ?_
   refine n_lp (hH:=hsub_refl _) (k+1) ⟨hh,fun j hj h=>?_⟩ (by omega)
   rcases Nat.lt_or_eq_of_le (Nat.lt_succ_iff.1 hj) with h2|rfl
   ·exact hk2 j h2 h
   ·exact hpk
  ·refine go ?_;intros
   refine ret () trivial ?_
   rw [fidx_hit hh hk2 hpk];rfl
 ·obtain rfl:k=xs.length:=by omega
  refine go ?_;intros
  refine ret () trivial ?_
  rw [fidx_none (fun j hj=>hk2 j hj hj)];rfl
structure DfReq where
 i:Nat
 j:Nat
 zs:List Request
theorem DelReq_f (fid:FuncId) (bd caps:List Value) (A:List Pc) (hA:A.all (fun p=>!p.mu)=true) (xs:List Request) (a:Option Addr) (c:Nat) (F:List Nat) (p:Request→Bool) (hb:bodyB Tryz.prog fid=true) (hl:xs.length≤1000000000)
  (hp:∀x∈xs,∀w,Hol A w→Calls Tryz.prog fid (bd++[(.agg #[.int .i64 (x).number,.int .i64 (x).state,.int .i64 (x).untl,.int .i64 (x).tries]:Value)]++caps).toArray w fun e w'=>e=.returned (.bool (p x))∧Below w.heap.size w w') :
  Fn Tryz.prog 276 [.slice a xs.length c,.func (.func fid) bd.toArray caps.toArray] A [.ow ERequest 235 (.slice a xs.length c) xs F] (fun (_:Option Addr × Nat × List Nat)=>True)
   (fun z=>.slice z.1 (xs.filter fun x=>!p x).length z.2.1) (fun z=>[.ow ERequest 235 (.slice z.1 (xs.filter fun x=>!p x).length z.2.1) (xs.filter fun x=>!p x) z.2.2]):=by
 refine enter Tryz.func276 rfl Tryz.ntmps276 (fun w0=>?_) rfl (by simpa [Pc.mu] using hA) (.cons .nil)
 refine go ?_;intros
 refine cb (fun w st=>by
  obtain ⟨Fw, -,hw⟩:=(st.get (p:=.ow ERequest 235 (.slice a xs.length c) xs F) (by simp)).2.read
  refine (IdxReq_f fid bd caps A hA xs a c Fw p hb hl hp).val w ?_ (by simpa [Pc.mu] using hA)
  intro q hq
  rcases List.mem_cons.1 hq with rfl|hq
  ·exact ⟨by decide,hw⟩
  ·exact st.on q (by simp [hq])) ?_
 by_cases hany:xs.any p=true
 ·obtain ⟨i0,hi0,hfx,hpi,hfl⟩:=fidx_some hany
  rw [hfx]
  refine t_head (xs:=xs) scal_ERequest (by rintro rfl;simp at hi0) ?_
  rintro g rfl rfl - hc1 hc2
  refine go ?_;intros
  refine c_loopS [0,1,4] (fun s:DfReq=>[(5,.int .i64 (s.i:Nat)),(6,.int .i64 (s.j:Nat))]) (fun s=>[.ow ERequest 235 (.slice (some ⟨g,0,none⟩) xs.length c) s.zs [g]]) (fun s=>s.zs.length=xs.length∧s.j≤xs.length∧s.i < s.j∧s.zs.take s.i=(xs.take s.j).filter (fun x=>!p x)∧s.zs.drop s.j=xs.drop s.j) (fun s=>xs.length - s.j) ⟨i0,i0+1,xs⟩ ⟨rfl,hi0,Nat.lt_succ_self _,by rw [filter_take_no hi0 (by simp [hpi]),hfl],rfl⟩ fun s hs=>?_
  obtain ⟨i,j,zs⟩:=s
  obtain ⟨h1,h2,h3,h4,h5⟩:=hs
  dsimp only at h1 h2 h3 h4 h5 ⊢
  refine go ?_;intros
  refine c_if rfl (fun h6=>?_) (fun h6=>?_)
  ·have hj:j < xs.length:=by omega
   have hjz:j < zs.length:=by omega
   have hx:zs[j]=xs[j]:=by
    have a1:=List.drop_eq_getElem_cons hjz
    have a2:=List.drop_eq_getElem_cons hj
    rw [h5,a2] at a1
    exact (List.cons.inj a1).1.symm
   have hdz:zs.drop (j+1)=xs.drop (j+1):=by
    rw [←List.drop_drop,h5,List.drop_drop]
   refine go ?_;intros
   refine focF (m:=4) scal_ERequest j ?_ (by repeat (first|exact .here|apply Pick.there)) rfl hjz
   rintro _ g2 A2 cs2 B2 e1 e2 hc3 hh
   cases e1
   obtain ⟨rfl, -⟩:=hc3 w0
   refine go ?_;intros
   refine unfF zs[j] hh hc3 ?_
   rw [List.set_getElem_self,hx]
   apply wO
   refine o_callb rfl rfl hb evsE ?_
   refine cb (fun w st=>hp xs[j] (List.getElem_mem hj) w (fun q hq=>st.on q (by simp [hq]))) ?_
   cases hpj:p xs[j]
   ·refine go ?_;intros
    refine focF (m:=4) scal_ERequest i ?_ (by repeat (first|exact .here|apply Pick.there)) rfl (by omega)
    rintro _ g3 A3 cs3 B3 e1 e2 hc4 hh3
    cases e1
    obtain ⟨rfl, -⟩:=hc4 w0
    refine go ?_;intros
    refine unfF xs[j] hh3 (fun w=>⟨rfl,rfl⟩) ?_
    refine n_lp (hH:=.cons .here (hsub_skip _)) (⟨i+1,j+1,zs.set i xs[j]⟩:DfReq) ⟨by simp [h1],hj,Nat.succ_lt_succ h3,?_,?_⟩ (by dsimp only;omega)
    ·dsimp only
     rw [filter_take_yes hj (by simp [hpj]),←h4,List.take_add_one,List.getElem?_set_self (by omega),List.take_set_of_le (Nat.le_refl _)]
     rfl
    ·dsimp only
     rw [List.drop_set_of_lt (by omega),hdz]
   ·refine go ?_;intros
    refine n_lp (hH:=.cons .here (hsub_skip _)) (⟨i,j+1,zs⟩:DfReq) ⟨h1,hj,Nat.lt_succ_of_lt h3,?_,hdz⟩ (by dsimp only;omega)
    dsimp only
    rw [filter_take_no hj (by simp [hpj]),h4]
  ·obtain rfl:j=xs.length:=by omega
   have h4':zs.take i=xs.filter fun x=>!p x:=by rw [h4,List.take_length]
   have hil:(xs.filter fun x=>!p x).length=i:=by rw [←h4',List.length_take];omega
   refine go ?_;intros
   apply wO;apply oc;rfl;exact yd_slv (i:=i) rfl rfl rfl (by omega) (by omega) (by omega)
   refine go ?_;intros
   apply wO
   refine o_clr (z0:=⟨0,0,0,0⟩) (n:=xs.length) (cp:=c) (i:=i) (g:=g) scal_ERequest (fun w=>⟨rfl,rfl⟩) (by decide) rfl rfl h3 h1.symm (by repeat (first|exact .here|apply Pick.there)) ?_
   refine go ?_;intros
   refine t_take (xs:=zs.take i++List.replicate (xs.length - i) ⟨0,0,0,0⟩) i (fun F2=>?_) (by rw [List.length_append,List.length_take,List.length_replicate];omega)
   rw [List.take_left' (by rw [List.length_take];omega),h4']
   apply wO;apply oc;rfl;exact yd_slt (i:=i) rfl rfl rfl (by omega) (by omega)
   refine go ?_;intros
   subst hil
   refine ret (_,c,F2) trivial rfl
 ·obtain ⟨hfx,hfl⟩:=fidx_all hany
  rw [hfx,hfl]
  refine go ?_;intros
  refine ret (a,c,F) trivial rfl
theorem ConReq_f (fid:FuncId) (bd caps:List Value) (A:List Pc) (hA:A.all (fun p=>!p.mu)=true) (xs:List Request) (a:Option Addr) (c:Nat) (F:List Nat) (p:Request→Bool) (hb:bodyB Tryz.prog fid=true) (hl:xs.length≤1000000000)
  (hp:∀x∈xs,∀w,Hol A w→Calls Tryz.prog fid (bd++[(.agg #[.int .i64 (x).number,.int .i64 (x).state,.int .i64 (x).untl,.int .i64 (x).tries]:Value)]++caps).toArray w fun e w'=>e=.returned (.bool (p x))∧Below w.heap.size w w') :
  Fn Tryz.prog 244 [.slice a xs.length c,.func (.func fid) bd.toArray caps.toArray] (.sl ERequest (.slice a xs.length c) xs F::A) [] (fun (_:Unit)=>True) (fun _=>.bool (xs.any p)) (fun _=>[]):=by
 refine enter Tryz.func244 rfl Tryz.ntmps244 (fun w0=>?_) rfl (by simpa [Pc.mu] using hA) .nil
 refine go ?_;intros
 refine cb (fun w st=>(IdxReq_f fid bd caps A hA xs a c F p hb hl hp).val w (fun q hq=>st.on q (by simpa using hq)) (by simpa [Pc.mu] using hA)) ?_
 refine go ?_;intros
 refine ret () trivial ?_
 rw [fidx_any];rfl
theorem recv1_f (x:ReceiveWindow) (r:Request) (g:Nat) (b:Bool) (ck:Int) (q:Value) (a1:Option Addr) (c1:Nat) (F:List Nat) (h0:0≤x.next) (h1:x.next≤65535) (n0:0≤r.number) (n1:r.number≤65535):Fn Tryz.prog 245 [.agg #[.int .i64 r.number,.int .i64 r.state,.int .i64 r.untl,.int .i64 r.tries],ptr g 0 0] [.cel g 0 [.bool b,.int .i64 ck,.int .i64 x.next,.slice a1 x.slots.length c1,q],.isv EReceiveWindow (.agg #[.int .i64 x.next,.slice a1 x.slots.length c1]) x F] [] (fun (_:Unit)=>True) (fun _=>.bool (hasB x r.number)) (fun _=>[]):=by
 refine enter Tryz.func245 rfl Tryz.ntmps245 fun w0=>?_
 refine go ?_;intros
 refine cf (RWhas_f x r.number _ F h0 h1 n0 n1) fun _ _=>?_
 refine t_app ?_
 refine go ?_;intros
 refine ret () trivial rfl
theorem IsValidReceiver_f (x:Receiver) (v:Value) (F:List Nat):Fn Tryz.prog 182 [v] [.isv EReceiver v x F] [] (fun (_:Unit)=>True) (fun _=>.bool (goodRec x)) (fun _=>[]):=by
 refine enter Tryz.func182 rfl Tryz.ntmps182 fun w0=>?_
 refine openReceiver ?_
 rintro a1 c1 F1 a2 c2 F2 rfl l1 l2
 unfold maxLen at l1 l2
 refine closeReceiveWindow x.window ?_
 generalize F1=F3
 refine go ?_;intros
 refine ce (fun w s=>isClock_c _ _) ?_
 cases g1:isClk x.clock
 ·refine go ?_;intros
  refine ret () trivial ?_
  simp [goodRec,g1,tup]
 refine go ?_;intros
 cases hs:x.started
 ·have nog:zeroRec x=false→goodRec x=false:=fun h=>by unfold goodRec;rw [g1,hs];simpa using h
  refine go ?_;intros
  refine wg_if rfl rfl (fun h1=>?_) (fun h1=>?_)
  rotate_left
  ·refine go ?_;intros
   refine ret () trivial ?_
   rw [nog (by unfold zeroRec;rw [decide_eq_false h1];rfl)];rfl
  refine go ?_;intros
  refine wg_if rfl rfl (fun h2=>?_) (fun h2=>?_)
  rotate_left
  ·refine go ?_;intros
   refine ret () trivial ?_
   rw [nog (by unfold zeroRec;rw [decide_eq_false (show ¬x.window.slots.length=0 by omega)];simp)];rfl
  refine go ?_;intros
  refine ret () trivial ?_
  rw [show goodRec x=decide ((x.requests.length:Int)=0) by unfold goodRec;rw [g1,hs];unfold zeroRec;rw [decide_eq_true h1,decide_eq_true (show x.window.slots.length=0 by omega)];simp];rfl
 rename_i g
 refine t_rocel (cs:=[.bool true,.int .i64 x.clock,.int .i64 x.window.next,.slice a1 x.window.slots.length c1,.slice a2 x.requests.length c2]) ?_ (by simp)
 refine go ?_;intros
 refine cf (RWgood_f x.window _ F3) fun _ _=>?_
 refine t_app ?_
 cases g2:goodRW x.window
 ·refine go ?_;intros
  refine ret () trivial ?_
  simp [goodRec,g1,g2,hs,tup]
 obtain ⟨w0_,w1_⟩:=next_ser g2
 refine go ?_;intros
 refine cf (AreRequests_f x.requests x.window.next _ F2) fun _ _=>?_
 refine t_app ?_
 cases g3:areQ x.requests x.window.next
 ·refine go ?_;intros
  refine ret () trivial ?_
  simp [goodRec,g1,g2,g3,hs,tup]
 obtain ⟨-,q1,q2, -⟩:=areQ_iff.1 g3
 refine go ?_;intros
 refine cb (fun w st=>(ConReq_f 245 [] [ptr g 0 0] [.cel g 0 [.bool true,.int .i64 x.clock,.int .i64 x.window.next,.slice a1 x.window.slots.length c1,.slice a2 x.requests.length c2],.isv EReceiveWindow (.agg #[.int .i64 x.window.next,.slice a1 x.window.slots.length c1]) x.window F3] rfl x.requests a2 c2 F2 (fun z=>hasB x.window z.number) (by kernel_rfl) (by omega) (fun z hz w hA=>by
  obtain ⟨n0,n1⟩:=isSer_iff.1 (okReq_iff.1 (q2 z hz)).n
  exact (recv1_f x.window z g true x.clock _ a1 c1 F3 w0_ w1_ n0 n1).val w hA)).val w (fun q hq=>by
   simp only [List.mem_cons,List.not_mem_nil,or_false] at hq
   rcases hq with rfl|rfl|rfl <;> exact st.get (by exact memE))) ?_
 refine go ?_;intros
 refine ret () trivial ?_
 rw [show goodRec x = !(x.requests.any fun z=>hasB x.window z.number) by unfold goodRec freeQ;rw [g1,g2,g3,hs,List.not_any_eq_all_not];simp];rfl
theorem freeQ_no {x:Receiver} {k:Nat} (h:k < x.requests.length) (hh:hasB x.window x.requests[k].number=true):freeQ x=false:=List.all_eq_false.2 ⟨_,List.getElem_mem h,by simp [hh]⟩
theorem have_has {w:ReceiveWindow} {n:Int} (hw:goodRW w=true) (hn:isSer n=true) (h8:gp w.next n < 8):(bef n w.next || hasB w n)=hasB w n:=by
 obtain ⟨w0,w1⟩:=next_ser hw
 obtain ⟨n0,n1⟩:=isSer_iff.1 hn
 have:bef n w.next=false:=by
  have:¬(1≤gp n w.next∧gp n w.next≤32767):=by unfold gp at *;omega
  unfold bef btw
  simpa using this
 rw [this];rfl
theorem l13Good_f (x:Receiver) (v:Value) (F:List Nat):Fn Tryz.prog 152 [v] [.isv EReceiver v x F] [] (fun (_:Unit)=>True) (fun _=>.bool (goodRec x)) (fun _=>[]):=by
 refine enter Tryz.func152 rfl Tryz.ntmps152 fun w0=>?_
 refine openReceiver ?_
 rintro a1 c1 F1 a2 c2 F2 rfl l1 l2
 unfold maxLen at l1 l2
 refine closeReceiveWindow x.window ?_
 generalize F1=F3
 refine go ?_;intros
 refine ce (fun w s=>l11Clock_c _ _) ?_
 cases g1:isClk x.clock
 ·refine go ?_;intros
  refine ret () trivial ?_
  simp [goodRec,g1,tup]
 refine go ?_;intros
 refine cf (l10Good_f x.window _ F3) fun _ _=>?_
 refine t_app ?_
 cases g2:goodRW x.window
 ·refine go ?_;intros
  refine ret () trivial ?_
  cases hg:goodRec x
  ·rfl
  ·rw [(goodR_iff.1 hg).w] at g2;cases g2
 obtain ⟨w0_,w1_⟩:=next_ser g2
 refine go ?_;intros
 refine cf (l12Good_f x.requests x.window.next _ F2) fun _ _=>?_
 refine t_app ?_
 cases g3:areQ x.requests x.window.next
 ·refine go ?_;intros
  refine ret () trivial ?_
  cases hg:goodRec x
  ·rfl
  ·rw [(goodR_iff.1 hg).q] at g3;cases g3
 obtain ⟨-,q1,q2, -⟩:=areQ_iff.1 g3
 refine go ?_;intros
 cases hs:x.started
 ·have nog:zeroRec x=false→goodRec x=false:=fun h=>by unfold goodRec;rw [g1,hs];simpa using h
  refine go ?_;intros
  refine wg_if rfl rfl (fun h1=>?_) (fun h1=>?_)
  rotate_left
  ·refine go ?_;intros
   refine ret () trivial ?_
   rw [nog (by unfold zeroRec;rw [decide_eq_false h1];rfl)];rfl
  refine go ?_;intros
  refine wg_if rfl rfl (fun h2=>?_) (fun h2=>?_)
  rotate_left
  ·refine go ?_;intros
   refine ret () trivial ?_
   rw [nog (by unfold zeroRec;rw [decide_eq_false (show ¬x.window.slots.length=0 by omega)];simp)];rfl
  refine go ?_;intros
  refine ret () trivial ?_
  rw [show goodRec x=decide ((x.requests.length:Int)=0) by unfold goodRec;rw [g1,hs];unfold zeroRec;rw [decide_eq_true h1,decide_eq_true (show x.window.slots.length=0 by omega)];simp];rfl
 refine go ?_;intros
 refine c_loopR [1,2] (fun k:Nat=>[(3,.int .i64 (k:Nat))]) (fun k=>k≤x.requests.length∧∀j (_:j < k) (h:j < x.requests.length),hasB x.window x.requests[j].number=false) (fun k=>x.requests.length - k) 0 ⟨Nat.zero_le _,fun j h=>by omega⟩ fun k hk=>?_
 obtain ⟨hk1,hk2⟩:=hk
 refine go ?_;intros
 refine c_if rfl (fun h3=>?_) (fun h3=>?_)
 ·have hk3:k < x.requests.length:=by omega
  have hq:=okReq_iff.1 (q2 _ (List.getElem_mem hk3))
  obtain ⟨n0,n1⟩:=isSer_iff.1 hq.n
  refine atRequest (xs:=x.requests) k ?_
  rintro hi b o e
  rw [e]
  refine go ?_;intros
  refine d_start [0,1] [] ?_
  refine dt4 0 1 2 3 ?_
  refine dt4 4 5 6 7 ?_
  refine dN 8 ?_
  refine oC ?_
  refine cf (l10Have_f x.window x.requests[k].number _ F3 w0_ w1_ n0 n1) fun _ _=>?_
  refine t_app ?_
  refine dk ?_
  refine dd ?_
  rw [show takeNo x.window x.requests[k].number=hasB x.window x.requests[k].number from have_has g2 hq.n hq.g]
  cases g5:hasB x.window x.requests[k].number
  ·refine go ?_;intros
   refine n_lp (k+1) ⟨by omega,fun j hj h=>?_⟩ (by omega)
   rcases Nat.lt_or_eq_of_le (Nat.lt_succ_iff.1 hj) with h'|rfl
   ·exact hk2 j h' h
   ·exact g5
  ·refine go ?_;intros
   refine ret () trivial ?_
   rw [show goodRec x=false by unfold goodRec;rw [g1,g2,g3,hs,freeQ_no hk3 g5];rfl];rfl
 have hkl:k=x.requests.length:=by omega
 refine go ?_;intros
 refine ret () trivial ?_
 rw [show goodRec x=true by
  unfold goodRec freeQ;rw [g1,g2,g3,hs,List.all_eq_true.2 fun z hz=>?_];rfl
  obtain ⟨i,hi,rfl⟩:=List.getElem_of_mem hz
  rw [hk2 i (by omega) hi];rfl];rfl
end Go.Proofs.YtgmbfohkpfineaaGreatDoor
