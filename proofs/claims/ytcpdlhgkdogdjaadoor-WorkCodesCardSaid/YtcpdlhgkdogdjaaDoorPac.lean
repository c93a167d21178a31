/-
   And what follows.
-/
import Derived.Laws.IdiomStrings
import Derived.Test.YtcpdlhgkdogdjaaDoorPab
set_option linter.unusedSimpArgs false
set_option linter.unusedVariables false
namespace Go.Sx
open Go.RowKit
section
variable {cx:Cx} {G:Gh} {h:Hp} {w:World} {st:St} {a:Act} {o:Oper} {P:Program}
theorem vN (off:Nat):∀ (l:List Value)(k:Nat)(cs:Array Value),off+k+l.length≤cs.size→
 ((l.zipIdx k).foldl (fun cs (x:Value×Nat) =>cs.setIfInBounds (off+x.2) x.1) cs).toList=cs.toList.take (off+k)++l++cs.toList.drop (off+k+l.length)
 | [],k,cs,_=>by simp
 |v::l,k,cs,hl=>by
  simp only[List.zipIdx_cons,List.foldl_cons];rw[vN off l (k+1) (cs.setIfInBounds (off+k) v) (by simp at hl ⊢;omega)];have e:=list_seg_step cs.toList (off+k) v l (by simp at hl ⊢;omega);simpa[Array.toList_setIfInBounds,Nat.add_assoc,Nat.add_comm 1] using e
theorem RepL.splice {xs ys:List C}{vs us:List Value}(hx:RepL G xs vs)(hy:RepL G ys us)(off:Nat):RepL G (splice xs off ys) (vs.take off++us++vs.drop (off+us.length)):=by
 unfold Sx.splice;rw[hy.length];exact ((hx.take off).append hy).append (hx.drop _)
theorem sd {pl:Nat→Option (Nat×Nat)}:∀ (parts:List (Nat×C))(vals:List (Nat×Value))(cells out:List C)(cs:Array Value),
 parts.map (·.1) =vals.map (·.1)→(∀ (i:Nat)(c:C)(v:Value),(parts.map (·.2))[i]? =some c→(vals.map (·.2))[i]? =some v→Rep G c v)→
 RepL G cells cs.toList→(∀u∈cs.toList,u.oneCell'=true)→f8 pl cells parts=some out→
 ∃cs',Instr.fill pl cs vals=some cs'∧RepL G out cs'.toList∧∀u∈cs'.toList,u.oneCell'=true
 | [],vals,cells,out,cs,hm,_,hr,h1,h=>by
   cases vals with
   |nil=>simp only[f8,Option.some.injEq] at h;subst h;exact ⟨cs,rfl,hr,h1⟩
   |cons=>simp at hm
 | (i,c)::parts,vals,cells,out,cs,hm,hv,hr,h1,h=>by
   cases vals with
   |nil=>simp at hm
   |cons x vals=>
    obtain ⟨j,v⟩:=x;simp only[List.map_cons,List.cons.injEq] at hm;obtain ⟨rfl,hm⟩:=hm;simp only[f8] at h;split at h
    . rename_i off size ccs hpl hcs
      split at h
      . rename_i hb
        obtain ⟨q1,q2⟩:=pc hcs (hv 0 c v (by simp) (by simp));have hsz:v.cells.size=size:=by rw[←hb.1,q1.length];simp
        have hcl:cells.length=cs.size:=by rw[hr.length];simp
        have hfit:off+v.cells.size≤cs.size:=by rw[hsz];omega
        have hfold:=vN off v.cells.toList 0 cs (by simpa using hfit);simp only[Nat.add_zero] at hfold;simp only[Instr.fill,hpl];rw[if_neg (by simp[hsz];omega)];have hfe: (v.cells.zipIdx.foldl (fun cs (x:Value×Nat) =>cs.setIfInBounds (off+x.2) x.1) cs) = (v.cells.toList.zipIdx.foldl (fun cs (x:Value×Nat) =>cs.setIfInBounds (off+x.2) x.1) cs):=by
         rw[←Array.foldl_toList];simp
        refine sd parts vals _ out _ hm (fun k c' v' hc' hv'=>hv (k+1) c' v' (by simpa using hc') (by simpa using hv')) ?_ ?_ h
        . rw[hfe,hfold]
          exact hr.splice q1 off
        . intro u hu
          rw[hfe,hfold] at hu;rcases List.mem_append.1 hu with hu|hu
          . rcases List.mem_append.1 hu with hu|hu
            . exact h1 u (List.mem_of_mem_take hu)
            . exact q2 u hu
          . exact h1 u (List.mem_of_mem_drop hu)
      . cases h
    . cases h
theorem xW {z:Value}{zs:List Value}(hz:z.cells.toList=zs):RepL G (zs.map .val) z.cells.toList:=by
 rw[hz];refine RepL.of_get (by simp) fun i x v hx hv=>?_;rw[List.getElem?_map,hv] at hx;cases hx;exact aj.2 rfl
theorem rA:∀ (fs:List Field)(pl:List (Nat×Nat)),fs.mapM (fun f=>(td P f.type).map fun d=>(f.offset,d.size)) =some pl→
 fs.mapM (fun f=>(P.info? f.type).map fun i=>(f.offset,i.size)) =some pl
 | [],pl,h=>by simpa using h
 |f::fs,pl,h=>by
  simp only[List.mapM_cons,Option.bind_eq_bind,Option.pure_def] at h ⊢
  cases ht:td P f.type with
  |none=>simp[ht] at h
  |some d=>
   obtain ⟨_,i,_,hi,hs,_⟩:=aQ ht
   cases hr:fs.mapM (fun f=>(td P f.type).map fun d=>(f.offset,d.size)) with
   |none=>simp[ht,hr] at h
   |some rest=>
    have:=rA fs rest hr;simp[ht,hr] at h
    simp[hi,hs,this,h]
theorem Jq (H:Pre cx G w st a){t:TypeId}{d:TD}{parts:Array (Nat×Operand)}{cs:List C}(hd:td cx.P t=some d)(hz1:d.zero.all (·.oneCell') =true)
 (h: ((kT cx.P d.u).bind fun pl=>f8 pl (d.zero.map .val) (parts.toList.map fun x=>(x.1,cx.evn st.env x.2))) =some cs):
 ∃v,(Instr.build t (parts.map fun (i,x) =>(i,a.eval x))).run cx.P w= .ok v w∧Rep G (.agg cs) v:=by
 obtain ⟨hu,it,z,hi,_,_,hz,hzz⟩:=aQ hd
 cases hp:kT cx.P d.u with
 |none=>rw[hp] at h;cases h
 |some pl=>
  rw[hp] at h;simp only[Option.bind_some] at h;obtain ⟨cs',f1,f2,f3⟩:=sd (G:=G) (parts.toList.map fun x=>(x.1,cx.evn st.env x.2)) (parts.toList.map fun x=>(x.1,a.eval x.2)) _ cs z.cells
   (by simp) (by
     intro i c v hc hv;simp only[List.map_map,List.getElem?_map] at hc hv
     cases hx:parts.toList[i]? with
     |none=>rw[hx] at hc;cases hc
     |some x=>
      rw[hx] at hc hv;cases hc;cases hv
      exact H.evn x.2)
   (xW hzz) (fun u hu=>by rw[hzz] at hu;exact (List.all_eq_true.1 hz1) u hu) h
  refine ⟨.agg cs',run_build w t _ cs' ?_,by simp only[Rep];exact ⟨cs',rfl,f2,f3⟩⟩;have hpt: (parts.map fun (i,x) =>(i,a.eval x)).toList=parts.toList.map fun x=>(x.1,a.eval x.2):=by simp
  rw[hpt];unfold Program.built;unfold kT at hp;split at hp
  . rename_i fields hs
    cases hm:fields.toList.mapM (fun f=>(td cx.P f.type).map fun d=>(f.offset,d.size)) with
    |none=>rw[hm] at hp;cases hp
    |some l=>
     rw[hm] at hp;cases hp;rw[hi,hu,hs];simp only[hz,rA _ _ hm];have: (fun x:Nat=>l.toArray[x]?) =fun i=>l[i]? :=by funext x;simp
     rw[this];exact f1
  . rename_i n e hs
    cases he:td cx.P e with
    |none=>rw[he] at hp;cases hp
    |some de=>
     rw[he] at hp;cases hp;obtain ⟨_,ie,_,hie,hsz,_⟩:=aQ he;rw[hi,hu,hs];simp only[hz,hie,hsz];exact f1
  . cases hp
theorem n9 (z:Array Value)(n:Nat): (madeCells z ((n+1)*z.size)).toList=z.toList++(madeCells z (n*z.size)).toList:=by
 apply List.ext_getElem?;intro i;simp only[madeCells,Array.toList_map,Array.toList_range,List.getElem?_map];by_cases hi:i< z.size
 . rw[List.getElem?_append_left (by simpa using hi)]
   have h2:i< (n+1)*z.size:=by rw[Nat.succ_mul];omega
   simp[List.getElem?_range h2,Nat.mod_eq_of_lt hi,hi]
 . rw[List.getElem?_append_right (by simpa using hi)]
   simp only[Array.length_toList,List.getElem?_map];have hmul: (n+1)*z.size=n*z.size+z.size:=Nat.succ_mul n z.size;by_cases h2:i< (n+1)*z.size
   . have h3:i - z.size< n*z.size:=by omega
     rw[List.getElem?_range h2,List.getElem?_range h3];simp only[Option.map_some,Option.some.injEq];rw[Nat.mod_eq_sub_mod (by omega)]
   . rw[List.getElem?_eq_none (by simpa using h2),List.getElem?_eq_none (by simp;omega)]
theorem jk (z:Array Value)(zs:List Value)(hz:z.toList=zs):∀n,RepL G (bG zs n) (madeCells z (n*z.size)).toList
 |0=>by simp[bG,madeCells,RepL]
 |n+1=>by
  rw[n9];simp only[bG];refine RepL.append ?_ (jk z zs hz n);subst hz;refine RepL.of_get (by simp) fun i x v hx hv=>?_;rw[List.getElem?_map,hv] at hx;cases hx;exact aj.2 rfl
theorem pj (z:Array Value)(h1:∀u∈z.toList,u.oneCell'=true):∀n,∀u∈ (madeCells z (n*z.size)).toList,u.oneCell'=true
 |0=>by simp[madeCells]
 |n+1=>by
  rw[n9];intro u hu;rcases List.mem_append.1 hu with hu|hu
  . exact h1 u hu
  . exact pj z h1 n u hu
theorem oa (H:Pre cx G w st a){t e:TypeId}{d de:TD}{n:Nat}{parts:Array (Nat×Operand)}{cs:List C}(hd:td cx.P t=some d)(hu:d.u= .slice e)(he:td cx.P e=some de)
 (hz1:de.zero.all (·.oneCell') =true) (hn:n*de.size≤65536∧n≤65536∧de.zero.length=de.size)
 (h:f8 (fun i=>some (i*de.size,de.size)) (bG de.zero n) (parts.toList.map fun x=>(x.1,cx.evn st.env x.2)) =some cs):
 ∃cs':Array Value,RepL G cs cs'.toList∧(∀u∈cs'.toList,u.oneCell'=true)∧(Instr.buildSlice t n (parts.map fun (i,x) =>(i,a.eval x))).run cx.P w= .ok (.slice (some ⟨w.heap.size,0,none⟩) n n) (w.alloc (.cells cs' e)):=by
 obtain ⟨_,it,z,hi,hsz,_,hz,hzz⟩:=aQ he;have hzs:z.cells.size=de.size:=by rw[←hn.2.2,←hzz];simp
 have hz1':∀u∈z.cells.toList,u.oneCell'=true:=fun u hu=>by rw[hzz] at hu;exact (List.all_eq_true.1 hz1) u hu
 obtain ⟨cs',f1,f2,f3⟩:=sd (G:=G) (parts.toList.map fun x=>(x.1,cx.evn st.env x.2)) (parts.toList.map fun x=>(x.1,a.eval x.2)) _ cs (madeCells z.cells (n*de.size))
  (by simp) (by
    intro i c v hc hv;simp only[List.map_map,List.getElem?_map] at hc hv
    cases hx:parts.toList[i]? with
    |none=>rw[hx] at hc;cases hc
    |some x=>
     rw[hx] at hc hv;cases hc;cases hv
     exact H.evn x.2)
  (by rw[←hzs];exact jk z.cells de.zero hzz n) (by rw[←hzs];exact pj z.cells hz1' n) h
 have hpt: (parts.map fun (i,x) =>(i,a.eval x)).toList=parts.toList.map fun x=>(x.1,a.eval x.2):=by simp
 have hrun: (Instr.buildSlice t n (parts.map fun (i,x) =>(i,a.eval x))).run cx.P w= .ok (.slice (some ⟨w.heap.size,0,none⟩) n n) (w.alloc (.cells cs' e)):=by
  unfold Instr.buildSlice;have h24:¬ (16777216< n*de.size):=by omega
  by_cases h0:n*de.size=0
  . have hm0: (madeCells z.cells (n*de.size)) = #[]:=by rw[h0];simp[madeCells]
    rw[hm0] at f1;simp[aZ hd,hu,bS he,h0,newRow]
    have h00: (Array.map (fun _=>(default:Value)) (Array.range 0)) = #[]:=by simp
    rw[h00,f1];simp[newObj,Sem.run]
  . have hf:Instr.fill (fun i=>some (i*de.size,de.size)) ((Array.range (n*de.size)).map fun x=>z.cells[x % z.cells.size]!) (parts.toList.map fun x=>(x.1,a.eval x.2)) =some cs':=f1
    simp[aZ hd,hu,bS he,h0,h24,zeroValue,typeInfo,hi,hz,newRow]
    rw[hf];simp
 exact ⟨cs',f2,f3,hrun⟩
theorem vZ (H:Pre cx G w st a)(dp:bB){t e:TypeId}{d de:TD}{n:Nat}{parts:Array (Nat×Operand)}{cs:List C}(hd:td cx.P t=some d)(hu:d.u= .slice e)(he:td cx.P e=some de)
 (hz1:de.zero.all (·.oneCell') =true) (hn:n*de.size≤65536∧n≤65536∧de.zero.length=de.size)
 (h:f8 (fun i=>some (i*de.size,de.size)) (bG de.zero n) (parts.toList.map fun x=>(x.1,cx.evn st.env x.2)) =some cs):
 ∃v w' G',(Instr.buildSlice t n (parts.map fun (i,x) =>(i,a.eval x))).run cx.P w= .ok v w'∧Out G w st (av a) dp (.sl .full n cs) v G' w':=by
 obtain ⟨cs',f2,f3,hrun⟩:=oa H hd hu he hz1 hn h;obtain ⟨W,E⟩:=WorldOK.commit (w':=w.alloc (.cells cs' e)) H.ok cs'.toList none cs' e (0,0) rfl rfl rfl rfl (by intro j u hu;simpa using hu);have le:=E.le H.ok;refine ⟨_,_,_,hrun,⟨?_,by simp,W,E.env H.ok H.env,E.frm H.ok⟩⟩;simp only[Rep];have hml:maxLen=9223372036854775807:=by decide
 refine ⟨_,_,rfl,Nat.le_refl _,by omega,by simp,.inr ⟨w.heap.size,0,rfl,n7 (f2.mono le) f3 fun j u hu=>?_⟩⟩;simp only[co,Sx.commit,if_true,Nat.zero_add];exact hu
theorem OpOK.new (H:Pre cx G w st a){id:Nat}(hid:st.h[id]? =some none){cells:List C}{vs:Array Value}{e:TypeId}{d:bB}{c:C}{v:Value}
 (hrun: (execOp a.eval o).run cx.P w= .ok (.value v) (w.alloc (.cells vs e))) (hr:RepL G cells vs.toList) (h1:∀u∈vs.toList,u.oneCell'=true)
 (hno:∀x∈cells,x.noOwn) (hc:∀G',G'.μ id=some w.heap.size→G'.σ id=some (vs.size,e)→Rep G' c v) (hcn:c.noOwn):
 OpOK cx.P o a G w ⟨st.env,st.h.set id (some cells)⟩ d c:=by
 obtain ⟨W,E⟩:=uz (w':=w.alloc (.cells vs e)) H.ok id hid cells vs e rfl hr h1 (by
  intro off s n xs hx;have:=hno _ (List.mem_of_getElem? hx);exact this)
 exact bO hrun ⟨_,hc _ (by simp[eB]) (by simp[eB]),fun s n xs e=>by rw[e] at hcn;exact hcn.elim,W,E.env H.ok H.env,E.frm H.ok⟩
end
section
variable {cx:Cx} {G:Gh} {h:Hp} {w:World} {st:St} {a:Act} {o:Oper} {P:Program}
theorem oK {t:TypeId}{d:TD}(hd:td P t=some d){xs:List C}{vs:List Value}{blk o0 off:Nat}{c:C}(hr:RepL G xs vs)(h1:∀u∈vs,u.oneCell'=true)
 (hc:∀ (j:Nat)(u:Value),vs[j]? =some u→w.cell? ⟨blk,o0+j,none⟩ =some u) (hg:cA d xs off=some c):
 ∃v,(Instr.loadAt t (.pointer (some ⟨blk,o0+off,none⟩))).run P w= .ok v w∧Rep G c v∧c.noOwn:=by
 unfold cA at hg;simp only[Instr.loadAt,Instr.sureAddr,Sem.run_bind,Sem.run_pure,Result.andThen_ok,loadVar,qf hd];split at hg
 . rename_i ha
   rw[if_pos ha];split at hg
   . rename_i hle
     cases hg;have hl: ((vs.drop off).take d.size).length=d.size:=by
      have:=hr.length;simp only[List.length_take,List.length_drop];omega
     have hrun:=run_loadCells_list (P:=P) w ⟨blk,o0+off,none⟩ ((vs.drop off).take d.size) (fun j v hv=>by
      rw[dc];rw[List.getElem?_take] at hv;split at hv
      . rw[List.getElem?_drop] at hv
        rw[Nat.add_assoc];exact hc _ v hv
      . cases hv)
     rw[hl] at hrun;simp only[Sem.run_bind,bS hd,Result.andThen_ok,hrun,Sem.run_pure];refine ⟨_,rfl,?_,trivial⟩;simp only[Rep];exact ⟨_,rfl,by simpa using ((hr.drop off).take d.size).map_noR,fun u hu=>h1 u (List.mem_of_mem_drop (List.mem_of_mem_take (by simpa using hu)))⟩
   . cases hg
 . rename_i ha
   rw[if_neg ha]
   cases hx:xs[off]? with
   |none=>rw[hx] at hg;cases hg
   |some x=>
    rw[hx] at hg;cases hg;obtain ⟨v,hv,hrv⟩:=hr.get off x hx;have:=hc off v hv;exact ⟨v,by simp[load,Sem.run,this],hrv.noR,cQ x⟩
theorem jA (H:WorldOK G h w){b:Nat}{cells:List C}(hb:h.at b=some cells){blk:Nat}(hμ:G.μ b=some blk):
 ∃cs e,RowIs w.heap[blk]? cs e∧RepL G cells (cs.toList.take cells.length)∧(∀u∈cs.toList,u.oneCell'=true)∧(∀ (j:Nat)(u:Value),(cs.toList.take cells.length)[j]? =some u→w.cell? ⟨blk,j,none⟩ =some u)∧cells.length≤cs.size∧(∀ (j:Nat)(u:Value),cs.toList[j]? =some u→w.cell? ⟨blk,j,none⟩ =some u):=by
 obtain ⟨cs,e,⟨fr,h2,hfr⟩,h0,h3,h4⟩:=H.bx hb hμ;exact ⟨cs,e,⟨fr,h2,hfr⟩,h3,h4,(fun j u hu=>by
  rw[List.getElem?_take] at hu;split at hu
  . simp only[World.cell?,h2];simpa using hu
  . cases hu),h0,fun j u hu=>by simp only[World.cell?,h2];simpa using hu⟩
theorem fX {G':Gh}{w':World}(H:WorldOK G h w){b blk:Nat}(hb:G.μ b=some blk){cells0:List C}(hc0:h.at b=some cells0){old:Array Value}{e:TypeId}(q1:RowIs w.heap[blk]? old e)
 (cells:List C) (hcl:cells.length=cells0.length) (vs:Array Value) (hsz:vs.size=old.size) (hlc:cells0.length≤old.size) (hg:G'= { G with T:=G'.T })
 (hw:w'=w.setRow blk vs) (hr:RepL G cells (vs.toList.take cells0.length)) (h1:∀v∈vs.toList,v.oneCell'=true)
 (hT:∀g,G'.T g=none↔G.T g=none) (hTo:∀g b' o,b'≠b→(G.T g=some (1,b',o)→G'.T g=some (1,b',o)))
 (hown:∀ (off s n:Nat)(xs:List C)(v:Value),cells[off]? =some (C.sl (.own s) n xs)→vs[off]? =some v→OwnRow G' w (1,b,off) v s n):
 WorldOK G' (h.set b (some cells)) w':=
 WorldOK.setBox H b blk hb hc0 cells vs hg hw (fun cs e' fr x=>by obtain ⟨fr',q1,_⟩:=q1;rw[q1] at x;cases x;exact hsz) (by omega) (by rw[hcl];exact hr) h1 hT hTo hown
theorem L9 (H:Pre cx G w st a){own:Bool}{t:TypeId}{x:Operand}{p:Plan}(ho:o.op= .load t x)(hp:loadPlan cx.P own t (cx.evn st.env x) =some p)
 {id:Nat} {c:C} {st':St} (hact:b8 cx id p st=some (c,st')) (d:bB):OpOK cx.P o a G w st' d c:=by
 have hx:=H.evn x;have hex: (execOp a.eval o).run cx.P w= ((Instr.loadAt t (a.eval x)).run cx.P w).andThen fun v w'=> .ok (.value v) w':=by
  simp only[execOp,ho,Sem.run_bind,Sem.run_pure]
 unfold loadPlan at hp;split at hp
 . cases hp
 rename_i dt hd;split at hp
 . rename_i b off hc
   rw[hc] at hx;simp only[Rep] at hx;obtain ⟨blk,hμ,hv⟩:=hx;split at hp
   ·
    rename_i hown;cases hp;simp only[b8,aA] at hact
    cases hb:st.h.at b with
    |none=>rw[hb] at hact;cases hact
    |some cells=>
     rw[hb] at hact;simp only[Option.bind_some] at hact
     cases hcell:cells[off]? with
     |none=>rw[hcell] at hact;cases hact
     |some y=>
      rw[hcell] at hact;simp only[Option.map_some,Option.some.injEq,Prod.mk.injEq] at hact;obtain ⟨rfl,rfl⟩:=hact;obtain ⟨cs,e,q1,q2,q3,q4,q5,q6⟩:=jA H.ok hb hμ;obtain ⟨v,hv1,hv2⟩:=q2.get off y hcell;have hrun: (execOp a.eval o).run cx.P w= .ok (.value v) w:=by
       rw[hex,hv];have:=q4 off v hv1;simp[Instr.loadAt,Instr.sureAddr,loadVar,qf hd,hown.2,load,Sem.run,this]
      have hset:∀G':Gh,G.Le G'→RepL G' (cells.set off y.noR) (cs.toList.take cells.length):=fun G' le=>by
       refine RepL.of_get (by simpa using q2.length) fun i x u hx hu=>?_;rw[List.getElem?_set] at hx;split at hx
       . rename_i hio
         subst hio;split at hx
         . cases hx
           rw[hv1] at hu;cases hu;exact hv2.noR.mono le
         . cases hx
       . obtain ⟨u',hu',hr'⟩:=q2.get i x hx
         rw[hu] at hu';cases hu';exact hr'.mono le
      have hself:w.setRow blk cs=w:=by obtain ⟨fr,q1,_⟩:=q1;exact setRow_self w blk cs e fr q1
      have oldown:∀ (off' s n:Nat)(xs:List C)(u:Value),(cells.set off y.noR)[off']? =some (C.sl (.own s) n xs)→cs[off']? =some u→off'≠off∧OwnRow G w (1,b,off') u s n:=by
       intro off' s n xs u hx hu;rw[List.getElem?_set] at hx;split at hx
       . split at hx
         . simp only[Option.some.injEq] at hx
           exact (gR hx).elim
         . cases hx
       . rename_i hne
         exact ⟨fun e=>hne e.symm,H.ok.own b cells off' s n xs blk u hb hx hμ (q6 off' u (by simpa using hu))⟩
      by_cases hno:y.noOwn
      . refine bO hrun ⟨G,hv2,fun s n xs e=>by rw[e] at hno;exact hno.elim,?_,H.env,Frm.refl G w⟩
        have:=fX (G':=G) (w':=w) H.ok hμ hb q1 (cells.set off y.noR) (by simp) cs rfl q5 rfl hself.symm (hset G (.refl G)) q3 (fun _=>Iff.rfl) (fun _ _ _ _ x=>x)
         (fun off' s n xs u hx hu=>(oldown off' s n xs u hx hu).2)
        exact this
      . obtain ⟨s,n,xs,hs⟩:∃s n xs,y= .sl (.own s) n xs:=by
         cases y with
         |sl r n xs=>cases r with
          |own s=>exact ⟨_,_,_,rfl⟩
          |no=>exact absurd trivial hno
          |full=>exact absurd trivial hno
         |_=>exact absurd trivial hno
        have hO:=H.ok.own b cells off s n xs blk v hb (hs▸hcell) hμ (q4 off v hv1);rcases hO with hO| ⟨g,cap,cur,e',a1,a2,a3,a4,a5,a6⟩
        . refine bO hrun ⟨G,hv2,fun s' n' xs' e=>by rw[hs] at e;cases e;exact .inl hO,?_,H.env,Frm.refl G w⟩
          exact fX (G':=G) (w':=w) H.ok hμ hb q1 (cells.set off y.noR) (by simp) cs rfl q5 rfl hself.symm (hset G (.refl G)) q3 (fun _=>Iff.rfl) (fun _ _ _ _ x=>x)
           (fun off' s n xs u hx hu=>(oldown off' s n xs u hx hu).2)
        . have le:G.Le (co G g (some d)):=⟨fun _ _ _ x=>x,fun _ _ x=>x,fun _ _ x=>x⟩
          have tne:∀ {r:bB}{v':Value}{s' n':Nat},r≠(1,b,off)→OwnRow G w r v' s' n'→OwnRow (co G g (some d)) w r v' s' n':=by
           intro r v' s' n' hne O;rcases O with O| ⟨g',cap',cur',e'',b1,b2,b3,b4,b5,b6⟩
           . exact .inl O
           . have hg:g'≠g:=fun q=>hne (by rw[q,a2] at b2;exact (Option.some.inj b2).symm)
             exact .inr ⟨g',cap',cur',e'',b1,by simp only[co];rw[if_neg hg];exact b2,b3,b4,b5,b6⟩
          refine bO hrun ⟨co G g (some d),hv2.mono le,?_,?_,⟨fun t=>(H.env.1 t).mono le,fun t s' n' xs' e''=>tne (by simp) (H.env.2 t s' n' xs' e'')⟩,qb a2⟩
          . intro s' n' xs' e''
            rw[hs] at e'';cases e'';exact .inr ⟨g,cap,cur,e',a1,by simp[co],a3,a4,a5,a6⟩
          . refine fX (G':=co G g (some d)) (w':=w) H.ok hμ hb q1 (cells.set off y.noR) (by simp) cs rfl q5 rfl hself.symm (hset _ (.refl G)) q3 (fun k=>?_) (fun k b' o' hb' hk=>?_) (fun off' s' n' xs' u hx hu=>?_)
            . simp only[co]
              split
              . subst_vars;simp[a2]
              . rfl
            . simp only[co]
              rw[if_neg]
              . exact hk
              . intro q
                rw[q,a2] at hk;simp only[Option.some.injEq,Prod.mk.injEq,true_and] at hk;exact hb' hk.1.symm
            . obtain ⟨h1,h2⟩:=oldown off' s' n' xs' u hx hu
              exact tne (by simp;exact h1) h2
   . cases hp
     simp only[b8,aA] at hact
     cases hb:st.h.at b with
     |none=>rw[hb] at hact;cases hact
     |some cells=>
      rw[hb] at hact;simp only[Option.bind_some] at hact
      cases hg:cA dt cells off with
      |none=>rw[hg] at hact;cases hact
      |some y=>
       rw[hg] at hact;cases hact;obtain ⟨cs,e,q1,q2,q3,q4,q5,q6⟩:=jA H.ok hb hμ;obtain ⟨v,hv1,hv2,hv3⟩:=oK (P:=cx.P) (w:=w) (blk:=blk) (o0:=0) hd q2 (fun u hu=>q3 u (List.mem_of_mem_take hu)) (fun j u hu=>by rw[Nat.zero_add];exact q4 j u hu) hg;rw[Nat.zero_add] at hv1;exact OpOK.pure H (by rw[hex,hv,hv1];rfl) hv2 hv3
 . rename_i xs hc
   rw[hc] at hx;simp only[Rep] at hx;obtain ⟨blk,off,hv,hk⟩:=hx
   cases hg:cA dt xs (loadPlan.off0) with
   |none=>rw[hg] at hp;cases hp
   |some y=>
    rw[hg] at hp;cases hp;simp only[b8,aA,Plan.pure] at hact;cases hact;obtain ⟨vs,v1,v2,v3,v4⟩:=hk.values;obtain ⟨v,hv1,hv2,hv3⟩:=oK (P:=cx.P) (w:=w) (blk:=blk) (o0:=off) hd v2 v4 (fun j u hu=>H.ok.known _ _ _ (v3 j u hu)) hg;rw[show off+loadPlan.off0=off from rfl] at hv1;exact OpOK.pure H (by rw[hex,hv,hv1];rfl) hv2 hv3
 . cases hp
end
section
variable {cx:Cx} {G:Gh} {h:Hp} {w:World} {st:St} {a:Act} {o:Oper} {P:Program}
theorem oL {b blk:Nat}(hμ:G.μ b=some blk)(cs:Array Value){env:Nat→C}{f:Nat→Value}(E:gD G w env f):gD G (w.setRow blk cs) env f:=by
 refine ⟨E.1,fun t s n xs he=>?_⟩;rcases E.2 t s n xs he with O| ⟨g,cap,cur,e',a1,a2,a3,a4,a5,a6⟩
 . exact .inl O
 . have hne:g≠blk:=fun q=>a6 b (q▸hμ)
   exact .inr ⟨g,cap,cur,e',a1,a2,by rw[setRow_other w blk g cs hne];exact a3,a4,a5,a6⟩
theorem oM {G':Gh}{b blk:Nat}(hμ:G.μ b=some blk)(cs:Array Value)(hK:G'.K=G.K)(hm:G'.μ=G.μ)(hT:∀g,G'.T g=none↔G.T g=none)(hσ:G'.σ=G.σ:=by rfl):Frm G w G' (w.setRow blk cs):=
 ⟨rfl,rfl,rfl,by simp,⟨fun _ _ _ x=>by rw[hK];exact x,fun _ _ x=>by rw[hm];exact x,fun _ _ x=>by rw[hσ];exact x⟩,fun g _ ht hmu=>
   ⟨setRow_other w blk g cs (fun q=>hmu b (q▸hμ)),(hT g).2 ht,fun b'=>by rw[hm];exact hmu b',fun o=>by rw[hK]⟩⟩
theorem pQ {t:TypeId}{d:TD}(hd:td P t=some d){blk off:Nat}{cs:Array Value}{e:TypeId}(hg:RowIs w.heap[blk]? cs e){v:Value}
 (hs:v.cells.size=d.size) (hfit:off+v.cells.size≤cs.size) (h1:∀u∈v.cells.toList,u.oneCell'=true):
 (Instr.storeAt t (.pointer (some ⟨blk,off,none⟩)) v).run P w= .ok () (w.setRow blk (cs.toList.take off++v.cells.toList++cs.toList.drop (off+v.cells.toList.length)).toArray):=by
 obtain ⟨fr,hg,hfr⟩:=hg;have:=eL P blk off e fr v.cells.toList 0 cs w hg hfr (by simpa using hfit) h1;simp only[Nat.add_zero] at this;simp[Instr.storeAt,Instr.sureAddr,storeVar,bS hd,hs,this]
theorem np (H:Pre cx G w st a){b blk off:Nat}(hμ:G.μ b=some blk){cells cs:List C}(hb:st.h.at b=some cells)(hno:∀x∈cs,x.noOwn){vs:List Value}(hr:RepL G cs vs)
 (h1:∀u∈vs,u.oneCell'=true) (hfit:off+cs.length≤cells.length):
 ∃old e,RowIs w.heap[blk]? old e∧off+vs.length≤old.size∧∃W:World,W=w.setRow blk (old.toList.take off++vs++old.toList.drop (off+vs.length)).toArray∧
  WorldOK G (st.h.set b (some (splice cells off cs))) W∧gD G W st.env (av a)∧Frm G w G W:=by
 obtain ⟨old,e,q1,q2,q3,q4,q5,q6⟩:=jA H.ok hb hμ;have hlen:=hr.length;have hol:cells.length≤old.toList.length:=by simpa using q5
 have hos:off+vs.length≤old.size:=by rw[←hlen];omega
 refine ⟨old,e,q1,hos,_,rfl,?_,oL hμ _ H.env,oM hμ _ rfl rfl fun _=>Iff.rfl⟩;refine fX (G':=G) H.ok hμ hb q1 _ (by unfold splice;simp;omega) _ (by simp;omega) q5 rfl rfl ?_ ?_ (fun _=>Iff.rfl) (fun _ _ _ _ x=>x) ?_
 . have:=q2.splice hr off
   rw[List.take_take,Nat.min_eq_left (by omega:off≤cells.length),List.drop_take] at this;simp only[List.toList_toArray];rw[List.take_append,List.take_append,List.take_take,Nat.min_eq_right (by omega:off≤cells.length),List.take_of_length_le (l:=vs) (by simp;omega)];rw[show (List.take off old.toList++vs).length=off+vs.length by simp;omega];exact this
 . intro u hu
   simp only[List.mem_append] at hu;rcases hu with (hu|hu) |hu
   . exact q3 u (List.mem_of_mem_take hu)
   . exact h1 u hu
   . exact q3 u (List.mem_of_mem_drop hu)
 . intro off' s n xs u hx hu
   unfold splice at hx;simp only[List.getElem?_toArray] at hu;have htk: (cells.take off).length=off:=by rw[List.length_take];omega
   have htk': (old.toList.take off).length=off:=by rw[List.length_take];omega
   rw[List.append_assoc] at hx hu;by_cases h1':off'< off
   . rw[List.getElem?_append_left (by rw[htk];exact h1'),List.getElem?_take,if_pos h1'] at hx
     rw[List.getElem?_append_left (by rw[htk'];exact h1'),List.getElem?_take,if_pos h1'] at hu;exact H.ok.own b cells off' s n xs blk u hb hx hμ (q6 off' u hu)
   . rw[List.getElem?_append_right (by rw[htk];omega),htk] at hx
     rw[List.getElem?_append_right (by rw[htk'];omega),htk'] at hu;by_cases h2':off' - off< cs.length
     . rw[List.getElem?_append_left h2'] at hx
       exact (hno _ (List.mem_of_getElem? hx)).elim
     . rw[List.getElem?_append_right (by omega),List.getElem?_drop] at hx
       rw[List.getElem?_append_right (by rw[←hlen];omega),List.getElem?_drop,←hlen] at hu;have he:off+cs.length+(off' - off - cs.length) =off':=by omega
       rw[he] at hx hu;exact H.ok.own b cells off' s n xs blk u hb hx hμ (q6 off' u hu)
theorem GM (H:Pre cx G w st a){t:TypeId}{x y:Operand}{p:Plan}(ho:o.op= .store t x y)(hp:cq cx.P t (cx.evn st.env x) (cx.ev st.env y) (dO y) =some p)
 {id:Nat} {c:C} {st':St} (hact:b8 cx id p st=some (c,st')) (d:bB):OpOK cx.P o a G w st' d c:=by
 have hx:=H.evn x;have hy:=H.ev y;have hex: (execOp a.eval o).run cx.P w= ((Instr.storeAt t (a.eval x) (a.eval y)).run cx.P w).andThen fun _ w'=> .ok .skip w':=by
  simp only[execOp,ho,Sem.run_bind,Sem.run_pure]
 unfold cq at hp;split at hp
 . cases hp
 rename_i dt hd;split at hp
 . rename_i b off hc
   rw[hc] at hx;simp only[Rep] at hx;obtain ⟨blk,hμ,hv⟩:=hx;split at hp
   ·
    rename_i r n xs hyc;split at hp
    . rename_i hds
      cases hp;simp only[b8,aA] at hact
      cases hb:st.h.at b with
      |none=>rw[hb] at hact;cases hact
      |some cells=>
       rw[hb] at hact;simp only[Option.bind_some] at hact;split at hact
       . rename_i hoff
         simp only[Option.map_some,Option.some.injEq,Prod.mk.injEq] at hact;obtain ⟨rfl,rfl⟩:=hact;rw[hyc] at hy;have hy0:=hy;simp only[Rep] at hy;obtain ⟨ad,cap,hyv,_⟩:=hy;obtain ⟨old,e,q1,q2,q3,q4,q5,q6⟩:=jA H.ok hb hμ;have hol:cells.length≤old.toList.length:=by simpa using q5
         have hos:off< old.size:=by omega
         have hcells: (a.eval y).cells= #[a.eval y]:=by rw[hyv];rfl
         have hrun:=pQ (P:=cx.P) (w:=w) hd q1 (off:=off) (v:=a.eval y) (by rw[hcells,hds];rfl) (by rw[hcells];simp;omega) (by rw[hcells];simp[hyv];rfl);rw[hcells] at hrun;have hset: (old.toList.take off++ #[a.eval y].toList++old.toList.drop (off+ #[a.eval y].toList.length)).toArray=old.setIfInBounds off (a.eval y):=by
          apply Array.ext';simp only[Array.toList_setIfInBounds,List.length_singleton];rw[List.set_eq_take_append_cons_drop,if_pos (by simpa using hos)];simp
         rw[hset] at hrun;have hrun': (execOp a.eval o).run cx.P w= .ok .skip (w.setRow blk (old.setIfInBounds off (a.eval y))):=by
          rw[hex,hv,hrun];rfl
         have rep':∀G',G.Le G'→RepL G' (cells.set off (.sl r n xs)) ((old.setIfInBounds off (a.eval y)).toList.take cells.length):=fun G' le=>by
          refine RepL.of_get (by simp;omega) fun i z u hz hu=>?_;have hil:i< cells.length:=by have:=(List.getElem?_eq_some_iff.1 hz).1;simpa using this
          rw[List.getElem?_set] at hz;simp only[List.getElem?_take,if_pos hil,Array.toList_setIfInBounds,List.getElem?_set] at hu;split at hz
          . rename_i hio
            rw[if_pos hio] at hu;subst hio
            try rw[if_pos hoff] at hz
            try rw[if_pos (by simpa using hos)] at hu
            cases hz;cases hu
            exact hy0.mono le
          . rename_i hio
            rw[if_neg hio] at hu;obtain ⟨u',hu',hr'⟩:=q2.get i z hz;rw[List.getElem?_take,if_pos hil,hu] at hu';cases hu';exact hr'.mono le
         have one':∀u∈ (old.setIfInBounds off (a.eval y)).toList,u.oneCell'=true:=by
          intro u hu;simp only[Array.toList_setIfInBounds] at hu;rcases List.mem_or_eq_of_mem_set hu with hu|rfl
          . exact q3 u hu
          . rw[hyv];rfl
         have oldown:∀ (off' s n':Nat)(xs':List C)(u:Value),off'≠off→(cells.set off (.sl r n xs))[off']? =some (C.sl (.own s) n' xs')→(old.setIfInBounds off (a.eval y))[off']? =some u→OwnRow G w (1,b,off') u s n':=by
          intro off' s n' xs' u hne hz hu;rw[List.getElem?_set,if_neg (Ne.symm hne)] at hz;have hu2:old.toList[off']? =some u:=by
           rw[Array.getElem?_setIfInBounds,if_neg (Ne.symm hne)] at hu;simpa using hu
          exact H.ok.own b cells off' s n' xs' blk u hb hz hμ (q6 off' u hu2)
         have envk:gD G w (br (dO y) st.env) (av a):=⟨fun t=>kY H.env _ t,fun t s n xs e=>H.env.2 t s n xs (jD e).1⟩;have plain: (∀s,r= .own s→OwnRow G w (1,b,off) (a.eval y) s n)→OpOK cx.P o a G w ⟨br (dO y) st.env,st.h.set b (some (cells.set off (.sl r n xs)))⟩ d (.val undef):=fun hO=>by
          refine iq hrun' ⟨G,aj.2 rfl,by simp,?_,oL hμ _ envk,oM hμ _ rfl rfl fun _=>Iff.rfl⟩;refine fX (G':=G) H.ok hμ hb q1 _ (by simp) _ (by simp) q5 rfl rfl (rep' G (.refl G)) one' (fun _=>Iff.rfl) (fun _ _ _ _ x=>x) fun off' s n' xs' u hz hu=>?_;by_cases hoo:off'=off
          . subst hoo
            rw[List.getElem?_set,if_pos rfl,if_pos hoff] at hz;cases hz;rw[Array.getElem?_setIfInBounds,if_pos rfl,if_pos hos] at hu;cases hu;exact hO s rfl
          . exact oldown off' s n' xs' u hoo hz hu
         cases r with
         |no=>exact plain (by simp)
         |full=>exact plain (by simp)
         |own s=>
          obtain ⟨q,hq⟩:∃q,y= .tmp q:=by
           cases y with
           |tmp q=>exact ⟨q,rfl⟩
           |const v=>cases hyc
           |global g=>exact (gR hyc).elim
           |func f=>cases hyc
          subst hq;have hyc':st.env q= .sl (.own s) n xs:=hyc;rcases H.env.2 q s n xs hyc' with O| ⟨g,cap',cur,e',a1,a2,a3,a4,a5,a6⟩
          . exact plain fun s' e'=>by cases e';exact .inl O
          . have le:G.Le (co G g (some (1,b,off))):=⟨fun _ _ _ x=>x,fun _ _ x=>x,fun _ _ x=>x⟩
            have hTi:∀k,(co G g (some (1,b,off))).T k=none↔G.T k=none:=fun k=>by
             simp only[co];split
             . subst_vars;simp[a2]
             . rfl
            have tne:∀ {r:bB}{v':Value}{s' n':Nat},r≠(0,q,0)→OwnRow G w r v' s' n'→OwnRow (co G g (some (1,b,off))) w r v' s' n':=by
             intro r v' s' n' hne O;rcases O with O| ⟨g',cap'',cur',e'',b1,b2,b3,b4,b5,b6⟩
             . exact .inl O
             . have hg:g'≠g:=fun z=>hne (by rw[z,a2] at b2;exact (Option.some.inj b2).symm)
               exact .inr ⟨g',cap'',cur',e'',b1,by simp only[co];rw[if_neg hg];exact b2,b3,b4,b5,b6⟩
            have env2:gD (co G g (some (1,b,off))) w (br (some q) st.env) (av a):=⟨fun t=>(kY H.env (some q) t).mono le,fun t s' n' xs' e''=>by
             obtain ⟨e1,e2⟩:=jD e'';exact tne (by simp;exact fun z=>e2 (by rw[z])) (H.env.2 t s' n' xs' e1)⟩
            have W:=fX (G':=co G g (some (1,b,off))) (w':=w.setRow blk (old.setIfInBounds off (a.eval (.tmp q)))) H.ok hμ hb q1 _ (by simp) _ (by simp) q5 rfl rfl (rep' G (.refl G)) one' hTi (fun k b' o' hb' hk=>by
             simp only[co];rw[if_neg]
             . exact hk
             . intro z;rw[z,a2] at hk;cases hk) (fun off' s' n' xs' u hz hu=>by
             by_cases hoo:off'=off
             . subst hoo
               rw[List.getElem?_set,if_pos rfl,if_pos hoff] at hz;cases hz;rw[Array.getElem?_setIfInBounds,if_pos rfl,if_pos hos] at hu;cases hu;exact .inr ⟨g,cap',cur,e',a1,by simp[co],a3,a4,a5,a6⟩
             . exact tne (by simp) (oldown off' s' n' xs' u hoo hz hu))
            refine iq hrun' ⟨co G g (some (1,b,off)),aj.2 rfl,by simp,W,?_,oM hμ _ rfl rfl hTi⟩;have hkey:=env2;refine ⟨hkey.1,fun t s' n' xs' he=>?_⟩;rcases hkey.2 t s' n' xs' he with O| ⟨g2,cap2,cur2,e2,c1,c2,c3,c4,c5,c6⟩
            . exact .inl O
            . have hne:g2≠blk:=fun z=>c6 b (z▸hμ)
              exact .inr ⟨g2,cap2,cur2,e2,c1,c2,by rw[setRow_other w blk g2 _ hne];exact c3,c4,c5,c6⟩
       . cases hact
    . cases hp
   ·
    rename_i hnsl;split at hp
    . rename_i cs hcs
      split at hp
      . rename_i hlen
        cases hp;simp only[b8,aA] at hact
        cases hb:st.h.at b with
        |none=>rw[hb] at hact;cases hact
        |some cells=>
         rw[hb] at hact;simp only[Option.bind_some] at hact;split at hact
         . rename_i hoff
           simp only[Option.map_some,Option.some.injEq,Prod.mk.injEq] at hact;obtain ⟨rfl,rfl⟩:=hact;obtain ⟨r1,r2⟩:=pc hcs hy;obtain ⟨old,e,q1,q2,W,rfl,w1,w2,w3⟩:=np H hμ hb (qe hcs) r1 r2 hoff;have hrun:=pQ (P:=cx.P) (w:=w) hd q1 (off:=off) (v:=a.eval y) (by rw[←hlen,r1.length];simp) (by simpa using q2) r2;exact iq (by rw[hex,hv,hrun];rfl) ⟨G,aj.2 rfl,by simp,w1,w2,w3⟩
         . cases hact
      . cases hp
    . cases hp
 . cases hp
end
section
variable {cx:Cx} {G:Gh} {h:Hp} {w:World} {st:St} {a:Act} {o:Oper} {P:Program}
def C.it (c:C):C:=c
theorem Ma (H:Pre cx G w st a){t t2:TypeId}{x y:Operand}{p:Plan}(ho:o.op= .call { callee:= .builtin .copy,args:= #[x,y],argTypes:= #[t,t2] })
 {xc yc:C} (hx:Rep G xc.it (a.eval x)) (hy:Rep G yc.it (a.eval y)) (hp:ii cx.P t xc.it yc.it=some p) {id:Nat} {c:C} {st':St} (hact:b8 cx id p st=some (c,st')) (d:bB):OpOK cx.P o a G w st' d c:=by
 have hex:=eS (P:=cx.P) (w:=w) (a:=a) .copy #[x,y] #[t,t2] (Builtin.copy_ #[t,t2] o.type #[a.eval x,a.eval y]) ho (fun cs=>by simp[builtin]);unfold ii at hp;split at hp
 . cases hp
 rename_i dt hd;split at hp
 . rename_i e hu
   split at hp
   . cases hp
   rename_i de he;split at hp
   . rename_i b off n m ys hc hs
     split at hp
     . rename_i hlen
       cases hp;simp only[b8,aA] at hact
       cases hb:st.h.at b with
       |none=>rw[hb] at hact;cases hact
       |some cells=>
        rw[hb] at hact;simp only[Option.bind_some] at hact;split at hact
        . rename_i hoff
          simp only[Option.map_some,Option.some.injEq,Prod.mk.injEq] at hact;obtain ⟨rfl,rfl⟩:=hact;rw[hc] at hx;simp only[Rep] at hx;obtain ⟨ad,cap,hxv,hnc,hcm,had⟩:=hx;obtain ⟨blk,hμ,hadd⟩:=had (by omega);subst hadd;obtain ⟨news,n1,n2,n3⟩:=xP (P:=cx.P) H.ok hs hlen.1 hy;have hmn:min m n*de.size≤n*de.size:=Nat.mul_le_mul_right _ (Nat.min_le_right _ _);have hmm:min m n*de.size≤m*de.size:=Nat.mul_le_mul_right _ (Nat.min_le_left _ _);have htl: (news.take (min m n*de.size)).length=min m n*de.size:=by rw[List.length_take,n1,hlen.1];omega
          have hyl: (ys.take (min m n*de.size)).length=min m n*de.size:=by rw[List.length_take,hlen.1];omega
          obtain ⟨old,e',q1,q2,W,rfl,w1,w2,w3⟩:=np H hμ hb (cs:=(ys.take (min m n*de.size)).map C.noR) (vs:=news.take (min m n*de.size)) (off:=off)
           (by intro z hz;obtain ⟨z',_,rfl⟩:=List.mem_map.1 hz;exact cQ z') ((n2.take _).map_noR) (fun u hu=>n3.2.2 u (List.mem_of_mem_take hu)) (by rw[List.length_map,hyl];omega)
          have hfc: (Builtin.firstCells de.size (min m n) (a.eval y)).run cx.P w= .ok (news.take (min m n*de.size)).toArray w:=by
           have hf:=n3.2.1 w rfl;have hl:=n3.1;unfold je at hs;split at hs
           . rename_i s hys
             rw[hys,aj] at hy;rw[hy] at hf ⊢;cases hs;simp only[Builtin.firstCells,Sem.run_pure,Result.ok.injEq,and_true] at hf ⊢;have h1:s.size=s.size*de.size:=by simpa using hlen.1
             have hnews:news=s.data.toList.map fun b=>Value.int .u8 b.toNat:=by
              have:=congrArg Array.toList hf;have h0:s.extract 0 s.size=s:=by apply ByteArray.ext;simp
              rw[h0] at this;simpa using this.symm
             rw[hnews];apply Array.ext';have hsz:s.size=0∨de.size=1:=by
              rcases Nat.eq_zero_or_pos s.size with h0|h0
              . exact .inl h0
              . exact .inr (Nat.eq_of_mul_eq_mul_left h0 (by omega))
             rcases hsz with h0|h0
             . have:s.data.toList= []:=List.eq_nil_of_length_eq_zero (by simpa using h0)
               simp[this,h0,ByteArray.data_extract]
             . rw[h0,Nat.mul_one]
               simp[ByteArray.data_extract,List.map_take]
           . rename_i c0 hne
             obtain ⟨bb,cap',hyv,_,_,hk⟩:=lL hs hy;rw[hyv] at hf ⊢;rcases hk with rfl| ⟨blk',off',rfl,hk⟩
             . have hz:m*de.size=0:=by rw[←hlen.1];rfl
               have hn0:news= []:=List.eq_nil_of_length_eq_zero n1;subst hn0;have hz2:min m n*de.size=0:=by omega
               cases bb with
               |none=>simp[Builtin.firstCells]
               |some ad=>simp[Builtin.firstCells,hz2,loadCells,loadCellsFrom]
             . obtain ⟨vs,v1,v2,v3,v4⟩:=hk.values
               have hfv:=fb (P:=cx.P) (w':=w) de.size m blk' off' m cap' vs (by rw[v1,hlen.1]) (fun j u hu=>H.ok.known _ _ _ (v3 j u hu));rw[hf] at hfv;have hvn:news=vs:=by
                have:=congrArg (fun r=>match r with|Result.ok v _=>Array.toList v|_=>[]) hfv;simpa using this
               subst hvn;refine fb de.size (min m n) blk' off' m cap' _ htl fun j u hu=>?_;rw[List.getElem?_take] at hu;split at hu
               . exact H.ok.known _ _ _ (v3 j u hu)
               . cases hu
          have hst:=eL cx.P blk off e' _ (news.take (min m n*de.size)) 0 old w q1.choose_spec.1 q1.choose_spec.2 (by simpa using q2) (fun u hu=>n3.2.2 u (List.mem_of_mem_take hu));simp only[Nat.add_zero] at hst;have hmin:Nat.min m n=min m n:=rfl;have hrun: (Builtin.copy_ #[t,t2] o.type #[a.eval x,a.eval y]).run cx.P w= .ok (.int .i64 ((min m n:Nat):Int)) (w.setRow blk (old.toList.take off++news.take (min m n*de.size)++old.toList.drop (off+(news.take (min m n*de.size)).length)).toArray):=by
           rw[hxv];simp only[Builtin.copy_,List.getElem?_toArray,List.getElem?_cons_zero,List.getElem?_cons_succ,Sem.run_bind,aZ hd,hu,Result.andThen_ok,n3.1,bS he,hmin,hfc,hst,Sem.run_pure,goInt]
          refine bO (by rw[hex,hrun];rfl) ⟨G,aj.2 rfl,by simp,w1,w2,w3⟩
        . cases hact
     . cases hp
   . cases hp
 . cases hp
theorem vf:∀ {xs:List C}{ns:List Int},fa xs=some ns→xs=ns.map fun n=> .val (.int .u8 n)
 | [],ns,h=>by simp only[fa,Option.some.injEq] at h;subst h;rfl
 |c::xs,ns,h=>by
  unfold fa at h;split at h
  . cases h;rename_i hh;cases hh
  . rename_i n r hh
    cases hh
    cases hr:fa xs with
    |none=>rw[hr] at h;cases h
    |some l=>rw[hr] at h;cases h;rw[vf hr];rfl
  . cases h
theorem pR {xs:List C}{vs:List Value}{ns:List Int}(h:fa xs=some ns)(hr:RepL G xs vs):vs=ns.map (.int .u8):=by
 rw[vf h] at hr;apply List.ext_getElem?;intro i
 cases hi:ns[i]? with
 |none=>
  have hl:=hr.length;simp only[List.length_map] at hl;rw[List.getElem?_map,hi];rw[List.getElem?_eq_none_iff] at hi;simp;omega
 |some n=>
  obtain ⟨v,hv,hrv⟩:=hr.get i (.val (.int .u8 n)) (by rw[List.getElem?_map,hi];rfl);rw[aj] at hrv;rw[hv,List.getElem?_map,hi,hrv];rfl
theorem Mb (H:Pre cx G w st a){s d:TypeId}{x:Operand}{p:Plan}(ho:o.op= .convert s d x){xc:C}(hx:Rep G xc.it (a.eval x))(hp:fO cx.P s d xc.it=some p)
 {id:Nat} {c:C} {st':St} (hact:b8 cx id p st=some (c,st')) (dp:bB):OpOK cx.P o a G w st' dp c:=by
 have hex: (execOp a.eval o).run cx.P w= ((convert s d (a.eval x)).run cx.P w).andThen fun v w'=> .ok (.value v) w':=by
  simp only[execOp,ho,Sem.run_bind,Sem.run_pure]
 unfold fO at hp;split at hp
 . rename_i ds dd hs hd
   split at hp
   . rename_i k k' n hdu hc
     cases hp;simp only[b8,aA,Plan.pure] at hact;cases hact;rw[hc,aj] at hx;refine OpOK.pure H ?_ (aj.2 rfl) trivial;rw[hex,hx];simp[convert,aZ hs,aZ hd,hdu,Conv.intToInt]
   . rename_i str hdu hc
     cases hp;simp only[b8,aA,Plan.pure] at hact;cases hact;rw[hc,aj] at hx;refine OpOK.pure H ?_ (aj.2 rfl) trivial;rw[hex,hx];simp[convert,aZ hs,aZ hd,hdu]
   . rename_i e str hsu hdu hc
     split at hp
     . rename_i de he
       split at hp
       . rename_i heu
         split at hp
         . rename_i hle
           cases hp;simp only[b8,aA,Plan.pure] at hact;cases hact;rw[hc,aj] at hx;have hrun:=run_bytes_of_string (P:=cx.P) w s d e str (hsu▸(aQ hs).1) (hdu▸(aQ hd).1) (heu▸(aQ he).1);obtain ⟨W,E⟩:=WorldOK.commit (w':=w.drew.alloc (.cells (bytesRow str (grownCap w str.size 0 e)) e ((bytesRow str (grownCap w str.size 0 e)).size,(bytesRow str (grownCap w str.size 0 e)).size+1)))
            H.ok (str.data.toList.map fun b=> .int .u8 b.toNat) none _ e _ rfl rfl rfl rfl (by
             intro j u hu;unfold bytesRow;rw[Array.getElem?_append_left]
             . simpa using hu
             . have:=(List.getElem?_eq_some_iff.1 hu).1
               simpa using this)
           have le:=E.le H.ok;have hml:maxLen=9223372036854775807:=by decide
           refine BK H (by rw[hex,hx,hrun];rfl) E W ?_ (by simp);simp only[Rep];refine ⟨_,_,rfl,grownCap_ge w str.size 0 e,grownCap_le_maxLen w str.size 0 e (by omega),by simp,.inr ⟨w.heap.size,0,rfl,?_⟩⟩;refine n7 (vs:=str.data.toList.map fun b=> .int .u8 b.toNat) ?_ ?_ ?_
           . refine RepL.of_get (by simp) fun i z v hz hv=>?_
             rw[List.getElem?_map] at hz hv
             cases hb:str.data.toList[i]? with
             |none=>rw[hb] at hz;cases hz
             |some b=>rw[hb] at hz hv;cases hz;cases hv;exact aj.2 rfl
           . intro u hu
             obtain ⟨b,_,rfl⟩:=List.mem_map.1 hu;rfl
           . intro j u hu
             simp only[co,Sx.commit,if_true,Nat.zero_add];exact hu
         . cases hp
       . cases hp
     . cases hp
   . rename_i e hsu hdu hc
     split at hp
     . rename_i de he
       split at hp
       . rename_i heu
         split at hp
         . rename_i b off n hcc
           cases hp;simp only[b8,aA] at hact
           cases hb:st.h.at b with
           |none=>rw[hb] at hact;cases hact
           |some cells=>
            rw[hb] at hact;simp only[Option.bind_some] at hact;split at hact
            . rename_i hoff
              cases hu8:fa ((cells.drop off).take n) with
              |none=>rw[hu8] at hact;cases hact
              |some ns=>
               rw[hu8] at hact;cases hact;rw[hcc] at hx;simp only[Rep] at hx;obtain ⟨ad,cap,hxv,hnc,hcm,had⟩:=hx;refine OpOK.pure H ?_ (aj.2 rfl) trivial;rw[hex,hxv];by_cases hn0:n=0
               . subst hn0
                 have:ns= []:=by simpa[fa] using hu8.symm
                 subst this
                 cases ad with
                 |none=>
                  rw[run_convert_bytes_nil (P:=cx.P) w s e (hsu▸(aQ hs).1) (heu▸(aQ he).1) 0 cap d (hdu▸(aQ hd).1)];rfl
                 |some ad=>
                  rw[run_convert_bytes_string (P:=cx.P) w s d e _ _ _ (hsu▸(aQ hs).1) (heu▸(aQ he).1) (hdu▸(aQ hd).1),
                   run_bytesToString (P:=cx.P) w ad 0 cap [] (by simp[loadCells,loadCellsFrom])];rfl
               . obtain ⟨blk,hμ,hadd⟩:=had hn0
                 rw[hadd];obtain ⟨cs,e',q1,q2,q3,q4,q5,q6⟩:=jA H.ok hb hμ;have hvs:=pR hu8 ((q2.drop off).take n);have hnl:ns.length=n:=by
                  have h1:=congrArg List.length hvs;have h2:=q2.length;simp only[List.length_take] at h2;simp only[List.length_take,List.length_drop,List.length_map] at h1;omega
                 rw[run_convert_bytes_arg (P:=cx.P) w s e (hsu▸(aQ hs).1) (heu▸(aQ he).1) blk off n cap ns hnl (fun i hi=>?_) d (hdu▸(aQ hd).1)]
                 . rfl
                 . have hget: (((cs.toList.take cells.length).drop off).take n)[i]? =some (.int .u8 (ns.getD i 0)):=by
                    rw[hvs,List.getElem?_map];have:i< ns.length:=by omega
                    simp[List.getElem?_eq_getElem this,List.getD]
                   rw[List.getElem?_take,if_pos hi,List.getElem?_drop] at hget;exact q4 _ _ hget
            . cases hact
         . rename_i hnsv
           split at hp
           . rename_i n xs hsl
             split at hp
             . rename_i hlen
               cases hu8:fa xs with
               |none=>rw[hu8] at hp;cases hp
               |some ns=>
                rw[hu8] at hp;cases hp;simp only[b8,aA,Plan.pure] at hact;cases hact;obtain ⟨ad,cap,hxv,hnc,hcm,hk⟩:=lL hsl hx;refine OpOK.pure H ?_ (aj.2 rfl) trivial;rw[hex,hxv];rcases hk with rfl| ⟨blk,off,rfl,hk⟩
                . have:ns= []:=by simp only[fa,Option.some.injEq] at hu8;exact hu8.symm
                  subst this;have hn0:n=0:=by rw[←hlen];rfl
                  subst hn0
                  cases ad with
                  |none=>
                   rw[run_convert_bytes_nil (P:=cx.P) w s e (hsu▸(aQ hs).1) (heu▸(aQ he).1) 0 cap d (hdu▸(aQ hd).1)];rfl
                  |some ad=>
                   rw[run_convert_bytes_string (P:=cx.P) w s d e _ _ _ (hsu▸(aQ hs).1) (heu▸(aQ he).1) (hdu▸(aQ hd).1),
                    run_bytesToString (P:=cx.P) w ad 0 cap [] (by simp[loadCells,loadCellsFrom])];rfl
                . obtain ⟨vs,v1,v2,v3,v4⟩:=hk.values
                  have hvs:=pR hu8 v2;have hnl:ns.length=n:=by
                   have h1:=congrArg List.length hvs;simp only[List.length_map] at h1;omega
                  rw[run_convert_bytes_arg (P:=cx.P) w s e (hsu▸(aQ hs).1) (heu▸(aQ he).1) blk off n cap ns hnl (fun i hi=>?_) d (hdu▸(aQ hd).1)]
                  . rfl
                  . have hget:vs[i]? =some (.int .u8 (ns.getD i 0)):=by
                     rw[hvs,List.getElem?_map];have:i< ns.length:=by omega
                     simp[List.getElem?_eq_getElem this,List.getD]
                    exact H.ok.known _ _ _ (v3 i _ hget)
             . cases hp
           . cases hp
       . cases hp
     . cases hp
   . cases hp
 . cases hp
end
def bI (G:Gh)(k:Nat):Gh:= { G with μ:=fun b=>if b< k then G.μ b else none,σ:=fun b=>if b< k then G.σ b else none }
mutual
theorem dJ {G:Gh}{k:Nat}:∀ (c:C)(v:Value),ae k c=true→Rep G c v→Rep (bI G k) c v
 | .top,_,_,_=>by simp[Rep]
 | .val u,v,_,r=>by simpa[Rep] using r
 | .sl r n xs,v,hn,x=>by
   simp only[ae] at hn;simp only[Rep] at x ⊢;obtain ⟨a,cap,h1,h2,h3,h4,h5⟩:=x;refine ⟨a,cap,h1,h2,h3,h4,?_⟩;rcases h5 with h5| ⟨blk,off,ha,hk⟩
   . exact .inl h5
   . exact .inr ⟨blk,off,ha,noRef_repK xs blk off hn hk⟩
 | .sv b off n,v,hn,x=>by
   simp only[ae,decide_eq_true_eq] at hn;simp only[Rep] at x ⊢;obtain ⟨a,cap,h1,h2,h3,h4⟩:=x;exact ⟨a,cap,h1,h2,h3,fun hz=>by obtain ⟨blk,q1,q2⟩:=h4 hz;exact ⟨blk,by simp only[bI];rw[if_pos hn];exact q1,q2⟩⟩
 | .gv b m s,v,hn,x=>by
   simp only[ae,decide_eq_true_eq] at hn;simp only[Rep] at x ⊢;obtain ⟨a,cap,h1,h2,h3,h4⟩:=x;refine ⟨a,cap,h1,h2,h3,?_⟩;rcases h4 with h4| ⟨blk,q1,q2,q3⟩
   . exact .inl h4
   . exact .inr ⟨blk,by simp only[bI];rw[if_pos hn];exact q1,q2,by simp only[bI];rw[if_pos hn];exact q3⟩
 | .bp b off,v,hn,x=>by
   simp only[ae,decide_eq_true_eq] at hn;simp only[Rep] at x ⊢;obtain ⟨blk,h1,h2⟩:=x;exact ⟨blk,by simp only[bI];rw[if_pos hn];exact h1,h2⟩
 | .mp b,v,hn,x=>by
   simp only[ae,decide_eq_true_eq] at hn;simp only[Rep] at x ⊢;obtain ⟨blk,h1,h2⟩:=x;exact ⟨blk,by simp only[bI];rw[if_pos hn];exact h1,h2⟩
 | .bt b t n,v,hn,x=>by
   simp only[ae,decide_eq_true_eq] at hn;simp only[Rep] at x ⊢;obtain ⟨blk,h1,h2,h3⟩:=x;exact ⟨blk,by simp only[bI];rw[if_pos hn];exact h1,h2,by simp only[bI];rw[if_pos hn];exact h3⟩
 | .kp xs,v,hn,x=>by
   simp only[ae] at hn;simp only[Rep] at x ⊢;obtain ⟨blk,off,h1,h2⟩:=x;exact ⟨blk,off,h1,noRef_repK xs blk off hn h2⟩
 | .agg xs,v,hn,x=>by
   simp only[ae] at hn;simp only[Rep] at x ⊢;obtain ⟨vs,h1,h2,h3⟩:=x;exact ⟨vs,h1,noRef_repL xs _ hn h2,h3⟩
 | .tup xs,v,hn,x=>by
   simp only[ae] at hn;simp only[Rep] at x ⊢;obtain ⟨vs,h1,h2⟩:=x;exact ⟨vs,h1,noRef_repL xs _ hn h2⟩
 | .fn f xs,v,hn,x=>by
   simp only[ae] at hn;simp only[Rep] at x ⊢;obtain ⟨vs,h1,h2⟩:=x;exact ⟨vs,h1,noRef_repL xs _ hn h2⟩
theorem noRef_repL {G:Gh}{k:Nat}:∀ (xs:List C)(vs:List Value),noRefs k xs=true→RepL G xs vs→RepL (bI G k) xs vs
 | [],vs,_,r=>by simpa[RepL] using r
 |x::xs,vs,hn,r=>by
  simp only[noRefs,Bool.and_eq_true] at hn;simp only[RepL] at r ⊢;obtain ⟨v,vs',h1,h2,h3⟩:=r;exact ⟨v,vs',h1,dJ x v hn.1 h2,noRef_repL xs vs' hn.2 h3⟩
theorem noRef_repK {G:Gh}{k:Nat}:∀ (xs:List C)(blk off:Nat),noRefs k xs=true→RepK G blk off xs→RepK (bI G k) blk off xs
 | [],_,_,_,_=>by simp[RepK]
 |x::xs,blk,off,hn,r=>by
  simp only[noRefs,Bool.and_eq_true] at hn;simp only[RepK] at r ⊢;obtain ⟨⟨u,h1,h2,h3⟩,h4⟩:=r;exact ⟨⟨u,h1,h2,dJ x u hn.1 h3⟩,noRef_repK xs blk (off+1) hn.2 h4⟩
end
def jB (P:Program) (f:Nat) :Prop:= ∃fn,P.funcs[f]? =some fn∧(fn.name== "runtime.NumGoroutine") =false∧fn.body.isNone=false
def FC (P:Program)(gl:Nat→C)(f:Nat)(args:List C)(h:Hp)(c:C)(h':Hp):Prop:=
 jB P f∧∀ (G:Gh)(w:World)(vs:Array Value),WorldOK G h w→(∀g p,G.T g=some p→p.1=1)→(∀g,Rep G (gl g) (.pointer (some ⟨g,0,none⟩)))→RepL G args vs.toList→
  Calls P f vs w fun e w'=> ∃v G',e= .returned v∧Rep G' c v∧(∀s n xs,c= .sl (.own s) n xs→OwnRow G' w' (2,0,0) v s n)∧WorldOK G' h' w'∧Frm G w G' w'
def nL (h:Hp):C→C
 | .sv b off n=>match h.at b with
   |some cells=>if off+n≤cells.length then .sl .no n (((cells.drop off).take n).map C.noR) else .sv b off n
   |none=> .sv b off n
 | .bp b off=>match h.at b with
   |some cells=> .kp ((cells.drop off).map C.noR)
   |none=> .bp b off
 | .gv b n s=>match h.at b with
   |some cells=>if n*s.1≤cells.length then .sl .no n ((cells.take (n*s.1)).map C.noR) else .gv b n s
   |none=> .gv b n s
 |c=>c
def pS (h:Hp):List C→List C
 | [] =>[]
 |c::l=>nL h c::pS h l
mutual
theorem rJ {G G':Gh}:∀ (c:C)(v:Value),flat c=true→Rep G c v→Rep G' c v
 | .val u,v,_,r=>by simpa[Rep] using r
 | .agg xs,v,hn,x=>by
   simp only[flat] at hn;simp only[Rep] at x ⊢;obtain ⟨vs,h1,h2,h3⟩:=x;exact ⟨vs,h1,flats_rep xs _ hn h2,h3⟩
 | .tup xs,v,hn,x=>by
   simp only[flat] at hn;simp only[Rep] at x ⊢;obtain ⟨vs,h1,h2⟩:=x;exact ⟨vs,h1,flats_rep xs _ hn h2⟩
 | .top,_,hn,_=>by simp[flat] at hn
 | .sl _ _ _,_,hn,_=>by simp[flat] at hn
 | .sv _ _ _,_,hn,_=>by simp[flat] at hn
 | .bp _ _,_,hn,_=>by simp[flat] at hn
 | .kp _,_,hn,_=>by simp[flat] at hn
 | .fn _ _,_,hn,_=>by simp[flat] at hn
 | .gv _ _ _,_,hn,_=>by simp[flat] at hn
 | .mp _,_,hn,_=>by simp[flat] at hn
 | .bt _ _ _,_,hn,_=>by simp[flat] at hn
theorem flats_rep {G G':Gh}:∀ (xs:List C)(vs:List Value),flats xs=true→RepL G xs vs→RepL G' xs vs
 | [],vs,_,r=>by simpa[RepL] using r
 |x::xs,vs,hn,r=>by
  simp only[flats,Bool.and_eq_true] at hn;simp only[RepL] at r ⊢;obtain ⟨v,vs',h1,h2,h3⟩:=r;exact ⟨v,vs',h1,rJ x v hn.1 h2,flats_rep xs vs' hn.2 h3⟩
end
open Classical in
noncomputable def ej (G:Gh)(w:World):Gh where
 K:=fun blk o=>match G.K blk o with
  |some u=>some u
  |none=>if ∃b,G.μ b=some blk then w.cell? ⟨blk,o,none⟩ else none
 μ:=G.μ
 T:=fun _=>none
 σ:=G.σ
theorem dK (G:Gh)(w:World):G.Le (ej G w):=⟨fun b o u h=>by simp only[ej,h],fun _ _ h=>h,fun _ _ h=>h⟩
theorem ul {w:World}{blk:Nat}{cs:Array Value}{e:TypeId}{fr:Nat×Nat}(h:w.heap[blk]? =some (.cells cs e fr))(o:Nat)(v:Value)(hv:cs.toList[o]? =some v):w.cell? ⟨blk,o,none⟩ =some v:=by
 unfold World.cell?;rw[h];simpa using hv
theorem zi {G:Gh}{h:Hp}{w:World}(W:WorldOK G h w)(c:C)(v:Value)(r:Rep G c v):Rep (ej G w) (nL h c) v:=by
 have cellsK:∀b cells blk,h.at b=some cells→G.μ b=some blk→∀off m,off+m≤cells.length→RepK (ej G w) blk off (((cells.drop off).take m).map C.noR):=by
  intro b cells blk hb hμ off m hle;obtain ⟨cs,e,⟨fr,q2,hfr⟩,q0,q3,q4⟩:=W.bx hb hμ;refine RepK.of_get fun i x hx=>?_;rw[List.getElem?_map,List.getElem?_take] at hx;split at hx
  . rw[List.getElem?_drop] at hx
    cases hc:cells[off+i]? with
    |none=>rw[hc] at hx;cases hx
    |some y=>
     rw[hc] at hx;simp only[Option.map_some,Option.some.injEq] at hx;subst hx;obtain ⟨u,hu,hr⟩:=q3.get (off+i) y hc;have hu':=hu;rw[List.getElem?_take] at hu';split at hu'
     rotate_left
     . cases hu'
     refine ⟨u,?_,q4 u (List.mem_of_getElem? hu'),(hr.mono (dK G w)).noR⟩;have hK:G.K blk (off+i) =none:=(W.sep b blk hμ).1 _;simp only[ej,hK];rw[if_pos ⟨b,hμ⟩];exact ul q2 _ _ hu'
  . cases hx
 cases c with
 |sv b off n=>
  simp only[Rep] at r;obtain ⟨a,cap,h1,h2,h3,h4⟩:=r
  cases hb:h.at b with
  |none=>simp only[nL,hb,Rep];exact ⟨a,cap,h1,h2,h3,h4⟩
  |some cells=>
   simp only[nL,hb];split
   . rename_i hle
     simp only[Rep];refine ⟨a,cap,h1,h2,h3,by simp,?_⟩;by_cases hn:n=0
     . left;subst hn;simp
     . right
       obtain ⟨blk,q1,q2⟩:=h4 hn;exact ⟨blk,off,q2,cellsK b cells blk hb q1 off n hle⟩
   . simp only[Rep];exact ⟨a,cap,h1,h2,h3,h4⟩
 |gv b n s=>
  simp only[Rep] at r;obtain ⟨a,cap,h1,h2,h3,h4⟩:=r
  cases hb:h.at b with
  |none=>simp only[nL,hb,Rep];exact ⟨a,cap,h1,h2,h3,h4⟩
  |some cells=>
   simp only[nL,hb];split
   . rename_i hle
     simp only[Rep];refine ⟨a,cap,h1,h2,h3,by simp,?_⟩;rcases h4 with ⟨rfl,_⟩ | ⟨blk,q1,q2,_⟩
     . left;simp
     . right
       refine ⟨blk,0,q2,?_⟩;have:=cellsK b cells blk hb q1 0 (n*s.1) (by omega);simpa using this
   . simp only[Rep];exact ⟨a,cap,h1,h2,h3,h4⟩
 |bp b off=>
  simp only[Rep] at r;obtain ⟨blk,h1,h2⟩:=r
  cases hb:h.at b with
  |none=>simp only[nL,hb,Rep];exact ⟨blk,h1,h2⟩
  |some cells=>
   simp only[nL,hb,Rep];refine ⟨blk,off,h2,?_⟩;by_cases hle:off≤cells.length
   . have:=cellsK b cells blk hb h1 off (cells.length - off) (by omega)
     rwa [List.take_of_length_le (by simp)] at this
   . rw[List.drop_of_length_le (by omega)];simp[RepK]
 |_=>exact r.mono (dK G w)
theorem wO {G:Gh}{h:Hp}{w:World}(W:WorldOK G h w):∀ (az:List C)(vs:List Value),RepL G az vs→RepL (ej G w) (pS h az) vs
 | [],vs,r=>by simpa[pS,RepL] using r
 |c::l,vs,r=>by
  simp only[RepL,pS] at r ⊢;obtain ⟨v,vs',h1,h2,h3⟩:=r;exact ⟨v,vs',h1,zi W c v h2,wO W l vs' h3⟩
theorem CM {P:Program}{gl:Nat→C}{f:Nat}{args:List C}{c:C}{h:Hp}(hf:FC P gl f (pS h args) [] c [])(ha:noRefs 0 (pS h args) =true)(hg:∀g,ae 0 (gl g) =true)(hfl:flat c=true):FC P gl f args h c h:=by
 obtain ⟨he,hf⟩:=hf;refine ⟨he,fun G w vs W hTg hgl hr=>?_⟩;have hn:∀b,Hp.at [] b=none:=fun b=>by simp[Hp.at]
 let G1:Gh:= { K:=(ej G w).K,μ:=fun _=>none,T:=fun _=>none }
 have le1: (bI (ej G w) 0).Le G1:=⟨fun _ _ _ x=>x,fun b k x=>by simp[bI] at x,fun b k x=>by simp[bI] at x⟩;have known1:∀blk off u,G1.K blk off=some u→w.cell? ⟨blk,off,none⟩ =some u:=fun blk off u x=>by
  have x': (ej G w).K blk off=some u:=x;simp only[ej] at x';split at x'
  . rename_i u' hu;cases x';exact W.known _ _ _ hu
  . split at x'
    . exact x'
    . cases x'
 refine Calls.mono (hf G1 w vs ⟨known1,(fun b cells x=>by rw[hn] at x;cases x),(fun b blk x=>by cases x),(fun b b' c c' blk _ _ x=>by cases x),(fun b blk x=>by cases x),(fun g p x=>by cases x),(fun b cells off s n xs blk v x=>by rw[hn] at x;cases x),(fun b z x=>by cases x),(fun b l x=>by simp[Hp.mp] at x),(fun b b' l l' blk x=>by simp[Hp.mp] at x)⟩
  (fun g p x=>by cases x) (fun g=>(dJ _ _ (hg g) ((hgl g).mono (dK G w))).mono le1) ((noRef_repL _ _ ha (wO W _ _ hr)).mono le1)) ?_
 rintro e w' ⟨v,G2,rfl,rv,ro,W2,F⟩;have old:=fun g (hg:g< w.heap.size) =>F.old g hg rfl (fun b x=>by cases x);have hμlt:∀b blk,G.μ b=some blk→blk< w.heap.size:=fun b blk x=>by
  exact (W.dom b blk x).2
 classical
 let G3:Gh:= { K:=fun blk o=>if ∃b,G.μ b=some blk then none else G2.K blk o,μ:=G.μ,T:=fun g=>if g< w.heap.size then G.T g else none,σ:=G.σ }
 have le13:G.Le G3:=⟨fun b o u x=>by
  have hb:¬ ∃k,G.μ k=some b:=fun ⟨k,hk⟩ =>by rw[(W.sep k b hk).1 o] at x;cases x
  show (if ∃k,G.μ k=some b then none else G2.K b o) =some u;rw[if_neg hb];exact F.le.K b o u ((dK G w).K b o u x),fun _ _ x=>x,fun _ _ x=>x⟩
 refine ⟨v,G3,rfl,rJ c v hfl rv,fun s n xs e=>?_,⟨fun blk off u x=>?_,fun b cells hc=>?_,fun b blk x=>⟨(W.dom b blk x).1,Nat.lt_of_lt_of_le (W.dom b blk x).2 F.size⟩,W.inj,fun b blk x=>?_,fun g p x=>?_,fun b cells off s n xs blk v hc hx hm hv=>?_,fun b z hz=>?_,fun b l hb=>(by obtain ⟨blk,es,clk,q1,q2,q3⟩:=W.mpo b l hb;exact ⟨blk,es,clk,q1,(old blk (hμlt b blk q1)).1.trans q2,q3.mono le13⟩),W.mpi⟩,F.os,F.tape,F.output,F.size,le13,fun g hg ht hm=>?_⟩
 . rw[e] at hfl;cases hfl
 . have x': (if ∃k,G.μ k=some blk then none else G2.K blk off) =some u:=x
   split at x'
   . cases x'
   . exact W2.known _ _ _ x'
 . rcases W.box b cells hc with hE| ⟨blk,cs,e,q1,q2,q0,q3,q4⟩
   . exact .inl hE
   . exact .inr ⟨blk,cs,e,q1,by rw[(old blk (hμlt b blk q1)).1];exact q2,q0,q3.mono le13,q4⟩
 . have hlt:=hμlt b blk x
   refine ⟨fun o=>?_,?_⟩
   . show (if ∃k,G.μ k=some blk then none else G2.K blk o) =none
     rw[if_pos ⟨b,x⟩]
   . show (if blk< w.heap.size then G.T blk else none) =none
     rw[if_pos hlt];exact (W.sep b blk x).2
 . have x': (if g< w.heap.size then G.T g else none) =some p:=x
   split at x'
   . exact Nat.lt_of_lt_of_le (W.tlt g p x') F.size
   . cases x'
 . have hlt:=hμlt b blk hm
   have hv':w.cell? ⟨blk,off,none⟩ =some v:=by
    rw[←hv];unfold World.cell?;rw[(old blk hlt).1]
   rcases W.own b cells off s n xs blk v hc hx hm hv' with O| ⟨g,cap,cur,e,a1,a2,a3,a4,a5,a6⟩
   . exact .inl O
   . have hlt:=W.tlt g _ a2
     refine .inr ⟨g,cap,cur,e,a1,?_,(old g hlt).1.trans a3,a4,fun o ho=>?_,a6⟩
     . show (if g< w.heap.size then G.T g else none) =_
       rw[if_pos hlt];exact a2
     . show (if ∃k,G.μ k=some g then none else G2.K g o) =none
       have hng:¬ ∃k,G.μ k=some g:=fun ⟨k,hk⟩ =>a6 k hk;rw[if_neg hng];have h1: (ej G w).K g o=none:=by
        simp only[ej,a5 o ho];rw[if_neg hng]
       exact ((old g hlt).2.2.2 o).trans h1
 . obtain ⟨blk,cs,e,fr,q1,q2,q3⟩:=W.siz b z hz
   exact ⟨blk,cs,e,fr,q1,(old blk (hμlt b blk q1)).1.trans q2,q3⟩
 . obtain ⟨b1,b2,b3,b4⟩:=old g hg
   refine ⟨b1,?_,hm,fun o=>?_⟩
   . show (if g< w.heap.size then G.T g else none) =none
     rw[if_pos hg];exact ht
   . have hng:¬ ∃k,G.μ k=some g:=fun ⟨k,hk⟩ =>hm k hk
     show (if ∃k,G.μ k=some g then none else G2.K g o) =_;rw[if_neg hng];refine (b4 o).trans ?_;show (ej G w).K g o=_;simp only[ej]
     cases G.K g o with
     |some u=>rfl
     |none=>simp only[];rw[if_neg hng]
theorem sE {h:Hp}{b:Nat}{cells:List C}(hb:h.at b=some cells):∀az:List C,noRefs 0 (gB b cells az) =true→pS h az=gB b cells az
 | [],_=>rfl
 |c::l,hn=>by
  simp only[gB,noRefs,Bool.and_eq_true] at hn;have ih:=sE hb l hn.2;have e:nL h c=ik b cells c:=by
   have h1:=hn.1
   cases c with
   |sv b' off n=>
    simp only[ik] at h1 ⊢;by_cases hc:b'=b∧off+n≤cells.length
    . rw[if_pos hc];obtain ⟨rfl,h2⟩:=hc;simp only[nL,hb];rw[if_pos h2]
    . rw[if_neg hc] at h1;simp[ae] at h1
   |gv b' n s=>
    simp only[ik] at h1 ⊢;by_cases hc:b'=b∧n*s.1≤cells.length
    . rw[if_pos hc];obtain ⟨rfl,h2⟩:=hc;simp only[nL,hb];rw[if_pos h2]
    . rw[if_neg hc] at h1;simp[ae] at h1
   |bp b' off=>
    simp only[ik] at h1 ⊢;by_cases hc:b'=b
    . rw[if_pos hc];subst hc;simp only[nL,hb]
    . rw[if_neg hc] at h1;simp[ae] at h1
   |_=>rfl
  simp only[pS,gB,ih,e]
theorem A0 {P:Program}{gl:Nat→C}{f:Nat}{args args':List C}{c:C}{h:Hp}(hre:∀ (G:Gh) (w:World) (vs:List Value),WorldOK G h w→RepL G args vs→RepL (ej G w) args' vs)(hf:FC P gl f args' [] c [])(ha:noRefs 0 args'=true)(hg:∀g,ae 0 (gl g) =true)(hfl:flat c=true):FC P gl f args h c h:=by
 obtain ⟨he,hf⟩:=hf;refine ⟨he,fun G w vs W hTg hgl hr=>?_⟩;have hn:∀b,Hp.at [] b=none:=fun b=>by simp[Hp.at]
 let G1:Gh:= { K:=(ej G w).K,μ:=fun _=>none,T:=fun _=>none }
 have le1: (bI (ej G w) 0).Le G1:=⟨fun _ _ _ x=>x,fun b k x=>by simp[bI] at x,fun b k x=>by simp[bI] at x⟩;have known1:∀blk off u,G1.K blk off=some u→w.cell? ⟨blk,off,none⟩ =some u:=fun blk off u x=>by
  have x': (ej G w).K blk off=some u:=x;simp only[ej] at x';split at x'
  . rename_i u' hu;cases x';exact W.known _ _ _ hu
  . split at x'
    . exact x'
    . cases x'
 refine Calls.mono (hf G1 w vs ⟨known1,(fun b cells x=>by rw[hn] at x;cases x),(fun b blk x=>by cases x),(fun b b' c c' blk _ _ x=>by cases x),(fun b blk x=>by cases x),(fun g p x=>by cases x),(fun b cells off s n xs blk v x=>by rw[hn] at x;cases x),(fun b z x=>by cases x),(fun b l x=>by simp[Hp.mp] at x),(fun b b' l l' blk x=>by simp[Hp.mp] at x)⟩
  (fun g p x=>by cases x) (fun g=>(dJ _ _ (hg g) ((hgl g).mono (dK G w))).mono le1) ((noRef_repL _ _ ha (hre G w _ W hr)).mono le1)) ?_
 rintro e w' ⟨v,G2,rfl,rv,ro,W2,F⟩;have old:=fun g (hg:g< w.heap.size) =>F.old g hg rfl (fun b x=>by cases x);have hμlt:∀b blk,G.μ b=some blk→blk< w.heap.size:=fun b blk x=>by
  exact (W.dom b blk x).2
 classical
 let G3:Gh:= { K:=fun blk o=>if ∃b,G.μ b=some blk then none else G2.K blk o,μ:=G.μ,T:=fun g=>if g< w.heap.size then G.T g else none,σ:=G.σ }
 have le13:G.Le G3:=⟨fun b o u x=>by
  have hb:¬ ∃k,G.μ k=some b:=fun ⟨k,hk⟩ =>by rw[(W.sep k b hk).1 o] at x;cases x
  show (if ∃k,G.μ k=some b then none else G2.K b o) =some u;rw[if_neg hb];exact F.le.K b o u ((dK G w).K b o u x),fun _ _ x=>x,fun _ _ x=>x⟩
 refine ⟨v,G3,rfl,rJ c v hfl rv,fun s n xs e=>?_,⟨fun blk off u x=>?_,fun b cells hc=>?_,fun b blk x=>⟨(W.dom b blk x).1,Nat.lt_of_lt_of_le (W.dom b blk x).2 F.size⟩,W.inj,fun b blk x=>?_,fun g p x=>?_,fun b cells off s n xs blk v hc hx hm hv=>?_,fun b z hz=>?_,fun b l hb=>(by obtain ⟨blk,es,clk,q1,q2,q3⟩:=W.mpo b l hb;exact ⟨blk,es,clk,q1,(old blk (hμlt b blk q1)).1.trans q2,q3.mono le13⟩),W.mpi⟩,F.os,F.tape,F.output,F.size,le13,fun g hg ht hm=>?_⟩
 . rw[e] at hfl;cases hfl
 . have x': (if ∃k,G.μ k=some blk then none else G2.K blk off) =some u:=x
   split at x'
   . cases x'
   . exact W2.known _ _ _ x'
 . rcases W.box b cells hc with hE| ⟨blk,cs,e,q1,q2,q0,q3,q4⟩
   . exact .inl hE
   . exact .inr ⟨blk,cs,e,q1,by rw[(old blk (hμlt b blk q1)).1];exact q2,q0,q3.mono le13,q4⟩
 . have hlt:=hμlt b blk x
   refine ⟨fun o=>?_,?_⟩
   . show (if ∃k,G.μ k=some blk then none else G2.K blk o) =none
     rw[if_pos ⟨b,x⟩]
   . show (if blk< w.heap.size then G.T blk else none) =none
     rw[if_pos hlt];exact (W.sep b blk x).2
 . have x': (if g< w.heap.size then G.T g else none) =some p:=x
   split at x'
   . exact Nat.lt_of_lt_of_le (W.tlt g p x') F.size
   . cases x'
 . have hlt:=hμlt b blk hm
   have hv':w.cell? ⟨blk,off,none⟩ =some v:=by
    rw[←hv];unfold World.cell?;rw[(old blk hlt).1]
   rcases W.own b cells off s n xs blk v hc hx hm hv' with O| ⟨g,cap,cur,e,a1,a2,a3,a4,a5,a6⟩
   . exact .inl O
   . have hlt:=W.tlt g _ a2
     refine .inr ⟨g,cap,cur,e,a1,?_,(old g hlt).1.trans a3,a4,fun o ho=>?_,a6⟩
     . show (if g< w.heap.size then G.T g else none) =_
       rw[if_pos hlt];exact a2
     . show (if ∃k,G.μ k=some g then none else G2.K g o) =none
       have hng:¬ ∃k,G.μ k=some g:=fun ⟨k,hk⟩ =>a6 k hk;rw[if_neg hng];have h1: (ej G w).K g o=none:=by
        simp only[ej,a5 o ho];rw[if_neg hng]
       exact ((old g hlt).2.2.2 o).trans h1
 . obtain ⟨blk,cs,e,fr,q1,q2,q3⟩:=W.siz b z hz
   exact ⟨blk,cs,e,fr,q1,(old blk (hμlt b blk q1)).1.trans q2,q3⟩
 . obtain ⟨b1,b2,b3,b4⟩:=old g hg
   refine ⟨b1,?_,hm,fun o=>?_⟩
   . show (if g< w.heap.size then G.T g else none) =none
     rw[if_pos hg];exact ht
   . have hng:¬ ∃k,G.μ k=some g:=fun ⟨k,hk⟩ =>hm k hk
     show (if ∃k,G.μ k=some g then none else G2.K g o) =_;rw[if_neg hng];refine (b4 o).trans ?_;show (ej G w).K g o=_;simp only[ej]
     cases G.K g o with
     |some u=>rfl
     |none=>simp only[];rw[if_neg hng]
mutual
theorem zj {G:Gh}{h:Hp}{w:World}(W:WorldOK G h w){b:Nat}{cells:List C}(hb:h.at b=some cells):∀ (c:C)(v:Value),Rep G c v→Rep (ej G w) (g7 b (cells.map C.noR) c) v
 | .gv b' n s,v,r=>by
   simp only[g7];split
   . rename_i hc
     obtain ⟨rfl,h2⟩:=hc;have:=zi W (.gv b' n s) v r;rw[List.length_map] at h2;simp only[nL,hb,if_pos h2,List.map_take] at this;exact this
   . exact r.mono (dK G w)
 | .sl q n xs,v,r=>by
   simp only[Rep,g7] at r ⊢;obtain ⟨a,cap,h1,h2,h3,h4,h5⟩:=r;refine ⟨a,cap,h1,h2,h3,h4,?_⟩;rcases h5 with rfl| ⟨blk,off,ha,hk⟩
   . left;rfl
   . exact .inr ⟨blk,off,ha,dpC_repK W hb xs blk off hk⟩
 | .agg xs,v,r=>by
   simp only[Rep,g7] at r ⊢;obtain ⟨vs,h1,h2,h3⟩:=r;exact ⟨vs,h1,dpC_repL W hb xs _ h2,h3⟩
 | .top,v,r=>by simp only[g7];exact r.mono (dK G w)
 | .val _,v,r=>by simp only[g7];exact r.mono (dK G w)
 | .sv _ _ _,v,r=>by simp only[g7];exact r.mono (dK G w)
 | .bp _ _,v,r=>by simp only[g7];exact r.mono (dK G w)
 | .kp _,v,r=>by simp only[g7];exact r.mono (dK G w)
 | .tup _,v,r=>by simp only[g7];exact r.mono (dK G w)
 | .fn _ _,v,r=>by simp only[g7];exact r.mono (dK G w)
 | .mp _,v,r=>by simp only[g7];exact r.mono (dK G w)
 | .bt _ _ _,v,r=>by simp only[g7];exact r.mono (dK G w)
theorem dpC_repL {G:Gh}{h:Hp}{w:World}(W:WorldOK G h w){b:Nat}{cells:List C}(hb:h.at b=some cells):∀ (xs:List C)(vs:List Value),RepL G xs vs→RepL (ej G w) (dpCs b (cells.map C.noR) xs) vs
 | [],vs,r=>by simpa[dpCs,RepL] using r
 |x::xs,vs,r=>by
  simp only[RepL,dpCs] at r ⊢;obtain ⟨v,vs',h1,h2,h3⟩:=r;exact ⟨v,vs',h1,zj W hb x v h2,dpC_repL W hb xs vs' h3⟩
theorem dpC_repK {G:Gh}{h:Hp}{w:World}(W:WorldOK G h w){b:Nat}{cells:List C}(hb:h.at b=some cells):∀ (xs:List C)(blk off:Nat),RepK G blk off xs→RepK (ej G w) blk off (dpCs b (cells.map C.noR) xs)
 | [],_,_,_=>by simp[dpCs,RepK]
 |x::xs,blk,off,r=>by
  simp only[RepK,dpCs] at r ⊢;obtain ⟨⟨u,h1,h2,h3⟩,h4⟩:=r;exact ⟨⟨u,(dK G w).K _ _ _ h1,h2,zj W hb x u h3⟩,dpC_repK W hb xs blk (off+1) h4⟩
end
theorem FC.rdE {cx:Cx}{g:Nat}{az:List C}{b:Nat}{cells:List C}{h:Hp}{c:C}(hpu:∀f args c,cx.pu f args=some c→∀h,FC cx.P cx.gl f args h c h)(hg:∀g,ae 0 (cx.gl g) =true)(hb:h.at b=some cells)(hc:rdE cx g az b cells=some c):FC cx.P cx.gl g az h c h:=by
 unfold Sx.rdE at hc;split at hc
 . rename_i hn
   split at hc
   . rename_i c2 hp2
     split at hc
     . rename_i hfl
       cases hc;exact A0 (fun G w vs W hr=>dpC_repL W hb az vs hr) (hpu _ _ _ hp2 []) hn hg hfl
     . cases hc
   . cases hc
 . cases hc
theorem FC.rdPu {cx:Cx}{g:Nat}{az:List C}{b:Nat}{cells:List C}{h:Hp}{c:C}(hpu:∀f args c,cx.pu f args=some c→∀h,FC cx.P cx.gl f args h c h)(hg:∀g,ae 0 (cx.gl g) =true)(hb:h.at b=some cells)(hc:rdPu cx g az b cells=some c):FC cx.P cx.gl g az h c h:=by
 unfold Sx.rdPu at hc;split at hc
 . rename_i hn
   split at hc
   . rename_i c2 hp2
     split at hc
     . rename_i hfl
       cases hc;have e:=sE hb az hn;rw[←e] at hp2 hn;exact CM (hpu _ _ _ hp2 []) hn hg hfl
     . cases hc
   . cases hc
 . cases hc
end Go.Sx
