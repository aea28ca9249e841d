/- Plain lemmas for loops over lists. Nothing here speaks of a program. Plain facts about the pure functions: finding a block, is a number in a list, sets of bits. Plain facts about the pure functions: where blocks go on, by the reference and by the graph. Plain facts about the pure functions: what is reached from a block without going through another one, forward and backward. Plain facts about the pure functions: the order of a graph's blocks. Plain facts about the pure functions: more of sets of bits. Plain facts about the pure functions: which virtual registers have a place. Plain facts about the pure functions: which virtual registers surely have a value at blocks' beginnings: a work list. Plain facts about the pure functions: the work list of what surely has a value. Plain facts about the pure functions: what surely has a value, found out, and the first that may have none. Plain facts about the pure functions: the first virtual register that may have no value. Plain facts about the pure functions: what is asked of operations, names, and registers. Plain facts about the pure functions: what is asked of one instruction. Plain facts about the pure functions: one instruction of a function with which nothing is wrong. Plain facts about the pure functions: a function with which nothing is wrong. The plain law of VerifyHolds. -/
import Derived.Test.YtmogcnnhbmaffaaGreatPM
import Derived.Test.YtmogcnnhbmaffaaGreatUniP
import Derived.Lib.RowBridge
set_option linter.unusedVariables false
namespace Go.Proofs.YtmogcnnhbmaffaaGreat.PL
open Go
theorem idx_ok{α:Type}{xs:List α}{i:Int}{x:α}(h0:0≤i)(h:xs[i.toNat]?=some x):idx xs i=some x:=by
 unfold idx;rw[if_pos h0,h]
theorem zb{α:Type}{xs:List α}{i:Nat}{x:α}(h:xs[i]?=some x):idx xs (i:Int)=some x:=idx_ok (by omega) (by simpa using h)
theorem yv{α:Type}{xs:List α}{i:Nat}{x:α}(h:i<xs.length):setI xs (i:Int) x=some (xs.set i x):=by
 unfold setI;rw[if_pos (by constructor<;>omega)];simp
theorem yt{α:Type}{xs ys:List α}(h:xs.length+ys.length≤4294967296):app xs ys=some (xs++ys):=by
 unfold app;rw[if_pos h]
theorem mk_nat{α:Type}{n:Nat}{z:α}(h:n≤4294967296):mk (n:Int) z=some (List.replicate n z):=by
 unfold mk;rw[if_pos (by constructor<;>omega)];simp
theorem forN_inv{σ:Type}(I:Nat→σ→Prop)(f:Int→σ→Option σ)(n:Nat)(step: ∀i s,i<n→I i s→ ∃s',f (i:Int) s=some s'∧I (i+1) s'):
  ∀(m i:Nat) (s:σ),i+m=n→I i s→ ∃s',forN m (i:Int) f s=some s'∧I n s':=by
 intro m
 induction m with
 |zero=>intro i s h hI;exact⟨s,rfl,by rw[←h];simpa using hI⟩
 |succ m ih=>
  intro i s h hI
  obtain⟨s1,h1,h2⟩:=step i s (by omega) hI
  obtain⟨s2,h3,h4⟩:=ih (i+1) s1 (by omega) h2
  refine⟨s2,?_,h4⟩
  rw[forN,h1]
  exact h3
theorem zzQ{σ:Type}(I:Nat→σ→Prop)(f:Int→σ→Option σ)(n:Nat)(hn:n≤4294967296){s:σ}(h0:I 0 s)(step: ∀i s,i<n→I i s→ ∃s',f (i:Int) s=some s'∧I (i+1) s'):
  ∃s',toN 0 (n:Int) f s=some s'∧I n s':=by
 unfold toN
 rw[if_pos (by constructor<;>omega)]
 simpa using forN_inv I f n step n 0 s (by omega) h0
theorem forE_inv{σ ρ:Type}(I:Nat→σ→Prop)(R:ρ→Prop)(f:Int→σ→Option (Ex σ ρ))(n:Nat)(step: ∀i s,i<n→I i s→(∃s',f (i:Int) s=some (.n s')∧I (i+1) s')∨ ∃v,f (i:Int) s=some (.r v)∧R v):
  ∀(m i:Nat) (s:σ),i+m=n→I i s→(∃s',forE m (i:Int) f s=some (.n s')∧I n s')∨ ∃v,forE m (i:Int) f s=some (.r v)∧R v:=by
 intro m
 induction m with
 |zero=>intro i s h hI;exact .inl ⟨s,rfl,by rw[←h];simpa using hI⟩
 |succ m ih=>
  intro i s h hI
  rcases step i s (by omega) hI with ⟨s1,h1,h2⟩|⟨v,h1,h2⟩
  ·rw[forE,h1]
   exact ih (i+1) s1 (by omega) h2
  ·rw[forE,h1]
   exact .inr ⟨v,rfl,h2⟩
theorem zzx{σ ρ:Type}(I:Nat→σ→Prop)(R:ρ→Prop)(f:Int→σ→Option (Ex σ ρ))(n:Nat)(hn:n≤4294967296){s:σ}(h0:I 0 s)(step: ∀i s,i<n→I i s→(∃s',f (i:Int) s=some (.n s')∧I (i+1) s')∨ ∃v,f (i:Int) s=some (.r v)∧R v):
  (∃s',toE 0 (n:Int) f s=some (.n s')∧I n s')∨ ∃v,toE 0 (n:Int) f s=some (.r v)∧R v:=by
 unfold toE
 rw[if_pos (by constructor<;>omega)]
 simpa using forE_inv I R f n step n 0 s (by omega) h0
theorem zr{σ ρ:Type}(I:σ→Prop)(B:σ→Prop)(R:ρ→Prop)(m:σ→Nat)(f:σ→Option (Ex σ ρ))
  (step: ∀s,I s→(∃s',f s=some (.n s')∧I s'∧m s'<m s)∨(∃s',f s=some (.b s')∧B s')∨ ∃v,f s=some (.r v)∧R v):
  ∀(fuel:Nat) (s:σ),I s→m s<fuel→(∃s',loopE fuel f s=some (.n s')∧B s')∨ ∃v,loopE fuel f s=some (.r v)∧R v:=by
 intro fuel
 induction fuel with
 |zero=>intro s _ h;omega
 |succ n ih=>
  intro s hI hm
  rcases step s hI with ⟨s1,h1,h2,h3⟩|⟨s1,h1,h2⟩|⟨v,h1,h2⟩
  ·rw[loopE,h1];exact ih s1 h2 (by omega)
  ·rw[loopE,h1];exact .inl ⟨s1,rfl,h2⟩
  ·rw[loopE,h1];exact .inr ⟨v,rfl,h2⟩
theorem wrap1{n:Nat}(h:n≤4294967296):IntKind.i64.wrap ((n:Int)+1)=((n+1:Nat):Int):=by
 rw[yJ (by omega) (by omega)];omega
theorem getAt{α:Type}{xs:List α}{i:Nat}(h:i<xs.length): ∃x,xs[i]?=some x:=⟨xs[i],by simp[h]⟩
theorem loop_fold{α σ ρ:Type}{xs:List α}{f:Int×σ→Option (Ex (Int×σ) ρ)}(g:σ→α→σ)(J:σ→Prop)(hn:xs.length≤4294967296){s0:σ}(h0:J s0)
  (hs: ∀(i:Nat) (x:α) (s:σ),xs[i]?=some x→s=(xs.take i).foldl g s0→J s→f ((i:Int),s)=some (.n (((i+1:Nat):Int),g s x))∧J (g s x)) (he: ∀s,f ((xs.length:Int),s)=some (.b ((xs.length:Int),s))) {fuel:Nat} (hf:xs.length<fuel):
  loopE fuel f (0,s0)=some (.n ((xs.length:Int),xs.foldl g s0)):=by
 have key: ∀(m k:Nat) (s:σ),k+m=xs.length→s=(xs.take k).foldl g s0→J s→ ∀fuel,m<fuel→loopE fuel f ((k:Int),s)=some (.n ((xs.length:Int),xs.foldl g s0)):=by
  intro m
  induction m with
  |zero=>
   intro k s hk h hJ fuel hf
   obtain⟨n,rfl⟩: ∃n,fuel=n+1:=⟨fuel-1,by omega⟩
   have hkn:k=xs.length:=by omega
   subst hkn
   rw[loopE,he,h,List.take_length]
   rfl
  |succ m ih=>
   intro k s hk h hJ fuel hf
   obtain⟨n,rfl⟩: ∃n,fuel=n+1:=⟨fuel-1,by omega⟩
   have hlt:k<xs.length:=by omega
   have hx:xs[k]?=some xs[k]:=by simp[hlt]
   obtain⟨h1,h2⟩:=hs k xs[k] s hx h hJ
   rw[loopE,h1]
   refine ih (k+1) _ (by omega) ?_ h2 n (by omega)
   rw[List.take_add_one,hx,Option.toList_some,List.foldl_append,←h]
   rfl
 simpa using key xs.length 0 s0 (by omega) (by simp) h0 fuel hf
end Go.Proofs.YtmogcnnhbmaffaaGreat.PL
set_option linter.unusedVariables false
set_option linter.unusedSimpArgs false
namespace Go.Proofs.YtmogcnnhbmaffaaGreat.PL
open Go
def isFnd(bs:List Bl)(l:ByteArray)(r:Int):Prop:=
 (∃k:Nat,r=k∧(∃b,bs[k]?=some b∧b.label=l)∧ ∀j<k,∀b,bs[j]?=some b→b.label≠l)∨(r= -1∧ ∀(j:Nat) b,bs[j]?=some b→b.label≠l)
theorem isFnd_same{bs:List Bl}{l:ByteArray}{r s:Int}(h:isFnd bs l r)(k:isFnd bs l s):r=s:=by
 rcases h with ⟨a,rfl,⟨b,h1,h2⟩,h3⟩|⟨rfl,h3⟩<;>rcases k with ⟨c,rfl,⟨d,k1,k2⟩,k3⟩|⟨rfl,k3⟩
 ·rcases Nat.lt_trichotomy a c with h|h|h
  ·exact absurd h2 (k3 a h b h1)
  ·rw[h]
  ·exact absurd k2 (h3 c h d k1)
 ·exact absurd h2 (k3 a b h1)
 ·exact absurd k2 (h3 c d k1)
 ·rfl
theorem isFnd_lt{bs:List Bl}{l:ByteArray}{r:Int}(h:isFnd bs l r): -1≤r∧r<(bs.length:Int):=by
 rcases h with ⟨a,rfl,⟨b,h1,h2⟩,h3⟩|⟨rfl,h3⟩
 ·have:=(List.getElem?_eq_some_iff.1 h1).1;omega
 ·omega
theorem find_ref{f:Fnc}(hn:f.blocks.length≤4294967296)(fuel:Nat)(l:ByteArray): ∃r,pz3w fuel f l=some r∧isFnd f.blocks l r:=by
 unfold pz3w
 refine Or.elim (zzx (fun i (_:Unit)=> ∀j<i,∀b,f.blocks[j]?=some b→b.label≠l) (fun r=>isFnd f.blocks l r) (fun i _=>pz3v fuel f l i) f.blocks.length hn (s:=()) (by intro j h;omega) ?_) ?_ ?_
 rotate_left
 ·rintro⟨s,h1,h2⟩;rw[h1];exact⟨-1,rfl,.inr ⟨rfl,fun j b h=>h2 j (List.getElem?_eq_some_iff.1 h).1 b h⟩⟩
 ·rintro⟨v,h1,h2⟩;rw[h1];exact⟨v,rfl,h2⟩
 ·intro i s hi hI
  obtain⟨b,hb⟩:=getAt hi
  by_cases c:b.label=l
  ·exact .inr ⟨i,by simp[pz3v,zb hb,c],.inl ⟨i,rfl,⟨b,hb,c⟩,hI⟩⟩
  ·refine .inl ⟨(),by simp[pz3v,zb hb,c],?_⟩
   intro j hj b' hb'
   by_cases e:j=i
   ·subst e;rw[hb] at hb';cases hb';exact c
   ·exact hI j (by omega) b' hb'
theorem find_ir{f:Fnc}(hn:f.blocks.length≤4294967){fuel:Nat}(hf:f.blocks.length<fuel)(l:ByteArray): ∃r,pzq fuel f l=some r∧isFnd f.blocks l r:=by
 unfold pzq pzp
 refine Or.elim (zr (fun x:Int=> ∃i:Nat,x=i∧i≤f.blocks.length∧ ∀j<i,∀b,f.blocks[j]?=some b→b.label≠l) (fun _=> ∀(j:Nat) b,f.blocks[j]?=some b→b.label≠l) (fun r=>isFnd f.blocks l r) (fun x=>f.blocks.length-x.toNat) (fun s=>pzo fuel f.blocks l s) ?_ fuel 0 ⟨0,rfl,by omega,by intro j h;omega⟩ (by simpa using hf)) ?_ ?_
 rotate_left
 ·rintro⟨s,h1,h2⟩;rw[h1];exact⟨-1,rfl,.inr ⟨rfl,h2⟩⟩
 ·rintro⟨v,h1,h2⟩;rw[h1];exact⟨v,rfl,h2⟩
 ·rintro x ⟨i,rfl,hi,hI⟩
  by_cases hlt:i<f.blocks.length
  ·obtain⟨b,hb⟩:=getAt hlt
   have hd:((i:Int)<(f.blocks.length:Int)):=by omega
   by_cases c:b.label=l
   ·exact .inr (.inr ⟨i,by simp[pzo,pzn,zb hb,c,hlt],.inl ⟨i,rfl,⟨b,hb,c⟩,hI⟩⟩)
   ·refine .inl ⟨((i+1:Nat):Int),by rw[←wrap1 (by omega)];simp[pzo,pzn,zb hb,c,hlt],⟨i+1,rfl,by omega,?_⟩,by omega⟩
    intro j hj b' hb'
    by_cases e:j=i
    ·subst e;rw[hb] at hb';cases hb';exact c
    ·exact hI j (by omega) b' hb'
  ·refine .inr (.inl ⟨(i:Int),by simp[pzo,hlt],?_⟩)
   intro j b hb
   have:=(List.getElem?_eq_some_iff.1 hb).1
   exact hI j (by omega) b hb
theorem in_ref{l:List Int}(hn:l.length≤4294967296)(fuel:Nat)(v:Int):pz41 fuel l v=some (decide (v∈l)):=by
 unfold pz41
 refine Or.elim (zzx (fun i (_:Unit)=> ∀j<i,l[j]?≠some v) (fun r=>r=decide (v∈l)) (fun i _=>pz40 fuel l v i) l.length hn (s:=()) (by intro j h;omega) ?_) ?_ ?_
 rotate_left
 ·rintro⟨s,h1,h2⟩;rw[h1]
  have:v∉l:=by
   intro h
   obtain⟨j,hj⟩:=List.getElem?_of_mem h
   exact h2 j (List.getElem?_eq_some_iff.1 hj).1 hj
  simp[bindE,this]
 ·rintro⟨w,h1,h2⟩;rw[h1,h2];rfl
 ·intro i s hi hI
  obtain⟨b,hb⟩:=getAt hi
  by_cases c:b=v
  ·refine .inr ⟨true,by simp[pz40,zb hb,c],?_⟩
   have:v∈l:=by rw[←c];exact List.mem_of_getElem? hb
   simp[this]
  ·refine .inl ⟨(),by simp[pz40,zb hb,c],?_⟩
   intro j hj hb'
   by_cases e:j=i
   ·subst e;rw[hb] at hb';cases hb';exact c rfl
   ·exact hI j (by omega) hb'
theorem in_sl{l:List Int}(hn:l.length≤4294967){fuel:Nat}(hf:l.length<fuel)(v:Int):pz14 fuel l v=some (decide (v∈l)):=by
 unfold pz14 pz13
 refine Or.elim (zr (fun x:Int=> ∃i:Nat,x=i∧i≤l.length∧ ∀j<i,l[j]?≠some v) (fun _=>v∉l) (fun r:Int=>0≤r∧v∈l) (fun x=>l.length-x.toNat) (fun s=>pz12 fuel l v s) ?_ fuel 0 ⟨0,rfl,by omega,by intro j h;omega⟩ (by simpa using hf)) ?_ ?_
 rotate_left
 ·rintro⟨s,h1,h2⟩;rw[h1];simp[bindE,h2]
 ·rintro⟨w,h1,h2⟩;rw[h1];simp[bindE,h2.1,h2.2]
 ·rintro x ⟨i,rfl,hi,hI⟩
  by_cases hlt:i<l.length
  ·obtain⟨b,hb⟩:=getAt hlt
   by_cases c:v=b
   ·exact .inr (.inr ⟨i,by simp[pz12,zb hb,c,hlt],by omega,by rw[c];exact List.mem_of_getElem? hb⟩)
   ·refine .inl ⟨((i+1:Nat):Int),by rw[←wrap1 (by omega)];simp[pz12,zb hb,c,hlt],⟨i+1,rfl,by omega,?_⟩,by omega⟩
    intro j hj hb'
    by_cases e:j=i
    ·subst e;rw[hb] at hb';cases hb';exact c rfl
    ·exact hI j (by omega) hb'
  ·refine .inr (.inl ⟨(i:Int),by simp[pz12,hlt],?_⟩)
   intro h
   obtain⟨j,hj⟩:=List.getElem?_of_mem h
   have:=(List.getElem?_eq_some_iff.1 hj).1
   exact hI j (by omega) hj
theorem wrapu{x:Nat}(h:x<18446744073709551616):IntKind.u64.wrap (x:Int)=(x:Int):=by
 simp[IntKind.wrap,IntKind.bits,IntKind.signed,IntKind.min,IntKind.max]
 omega
theorem ofIntNat{a:Nat}(ha:a<18446744073709551616):(BitVec.ofInt 64 (a:Int)).toNat=a:=by
 rw[BitVec.toNat_ofInt];omega
theorem band_nat{a b:Nat}(ha:a<18446744073709551616)(hb:b<18446744073709551616):band .u64 (a:Int) (b:Int)=((a&&&b:Nat):Int):=by
 show IntKind.u64.wrap (((BitVec.ofInt 64 (a:Int)&&&BitVec.ofInt 64 (b:Int)).toNat:Nat):Int)=_
 rw[BitVec.toNat_and,ofIntNat ha,ofIntNat hb,wrapu (Nat.and_lt_two_pow (n:=64) a hb)]
theorem bor_nat{a b:Nat}(ha:a<18446744073709551616)(hb:b<18446744073709551616):bor .u64 (a:Int) (b:Int)=((a|||b:Nat):Int):=by
 show IntKind.u64.wrap (((BitVec.ofInt 64 (a:Int)|||BitVec.ofInt 64 (b:Int)).toNat:Nat):Int)=_
 rw[BitVec.toNat_or,ofIntNat ha,ofIntNat hb,wrapu (Nat.or_lt_two_pow (n:=64) ha hb)]
theorem shr_nat{a k:Nat}(hk:k<64):shr .u64 (a:Int) (k:Int)=some ((a/2^k:Nat):Int):=by
 unfold shr
 rw[if_neg (by omega)]
 have:min ((k:Int).toNat) IntKind.u64.bits=k:=by show min ((k:Int).toNat) 64=k;omega
 rw[this,Int.fdiv_eq_ediv_of_nonneg _ (by exact Int.le_of_lt (Int.pow_pos (by decide)))]
 congr 1
theorem shl_one{k:Nat}(hk:k<64):shl .u64 1 (k:Int)=some ((2^k:Nat):Int):=by
 unfold shl
 rw[if_neg (by omega)]
 have:min ((k:Int).toNat) IntKind.u64.bits=k:=by show min ((k:Int).toNat) 64=k;omega
 have h2:2^k<18446744073709551616:=Nat.pow_lt_pow_right (n:=64) (by decide) hk
 rw[this]
 congr 1
 rw[←wrapu h2]
 simp
theorem tdiv_nat(i:Nat):Int.tdiv (i:Int) 64=((i/64:Nat):Int):=by
 rw[Int.tdiv_eq_ediv_of_nonneg (by omega)];omega
theorem tmod_nat(i:Nat):Int.tmod (i:Int) 64=((i%64:Nat):Int):=by
 rw[Int.tmod_eq_emod_of_nonneg (by omega)];omega
def bV(s:zG)(n:Nat):Prop:=s.n=(n:Int)∧s.words.length=(n+63)/64∧ ∀w∈s.words,0≤w∧w<18446744073709551616
def bH(s:zG)(j:Nat):Bool:=match s.words[j/64]? with|some w=>w.toNat.testBit (j%64)|none=>false
theorem has_ok{s:zG}{n:Nat}(hV:bV s n)(hn:n≤4294967296)(fuel:Nat)(i:Int):pz2c fuel s i=some (decide (0≤i∧i<(n:Int))&&bH s i.toNat):=by
 unfold pz2c pz2b
 rw[hV.1]
 by_cases h:0≤i∧i<(n:Int)
 ·obtain⟨k,rfl⟩:=Int.eq_ofNat_of_zero_le h.1
  have hk:k<n:=by omega
  obtain⟨w,hw⟩:=getAt (xs:=s.words) (i:=k/64) (by rw[hV.2.1];omega)
  obtain⟨hw0,hw1⟩:=hV.2.2 w (List.mem_of_getElem? hw)
  obtain⟨a,rfl⟩:=Int.eq_ofNat_of_zero_le hw0
  have ha:a<18446744073709551616:=by omega
  have hd:a/2^(k%64)<18446744073709551616:=Nat.lt_of_le_of_lt (Nat.div_le_self _ _) ha
  have hw':idx s.words (IntKind.wrap .i64 (Int.tdiv (k:Int) 64))=some (a:Int):=by
   rw[tdiv_nat,yJ (by omega) (by omega)];exact zb hw
  have hb:=band_nat hd (b:=1) (by decide)
  have hr:decide (band .u64 ((a/2^(k%64):Nat):Int) 1=1)=a.testBit (k%64):=by
   rw[show(1:Int)=((1:Nat):Int) from rfl,hb,Nat.and_one_is_mod,Nat.testBit_eq_decide_div_mod_eq]
   congr 1
   simp only[eq_iff_iff]
   omega
  have hs:=shr_nat (a:=a) (k:=k%64) (by omega)
  rw[←tmod_nat] at hs
  simp only[Option.bind_some,h.1,h.2,decide_true,Bool.and_true,if_true,Bool.true_and,and_self]
  rw[hw']
  simp only[Option.bind_some]
  rw[hs]
  simp only[Option.bind_some,hr]
  simp[bH,hw]
 ·have:(decide (0≤i)&&decide (i<(n:Int)))=false:=by
   simp;omega
  simp only[this,Option.bind_some,h,decide_false,Bool.false_and]
  simp
theorem zzv{s:zG}{n:Nat}(hV:bV s n)(hn:n≤4294967296)(fuel:Nat)(i:Int):
  (pz2e fuel s i=some (false,s)∧ ∀k:Nat,i=k→k<n→bH s k=true)∨
  ∃(k:Nat) (s':zG),i=k∧k<n∧bH s k=false∧pz2e fuel s i=some (true,s')∧bV s' n∧ ∀j,bH s' j=(bH s j||decide (j=k)):=by
 unfold pz2e
 rw[has_ok hV hn]
 have hin:pz2b fuel s i=some (decide (0≤i∧i<(n:Int))):=by unfold pz2b;rw[hV.1];simp
 rw[hin]
 by_cases h:0≤i∧i<(n:Int)
 ·obtain⟨k,rfl⟩:=Int.eq_ofNat_of_zero_le h.1
  have hk:k<n:=by omega
  obtain⟨w,hw⟩:=getAt (xs:=s.words) (i:=k/64) (by rw[hV.2.1];omega)
  obtain⟨hw0,hw1⟩:=hV.2.2 w (List.mem_of_getElem? hw)
  obtain⟨a,rfl⟩:=Int.eq_ofNat_of_zero_le hw0
  have ha:a<18446744073709551616:=by omega
  have hw':idx s.words (IntKind.wrap .i64 (Int.tdiv (k:Int) 64))=some (a:Int):=by
   rw[tdiv_nat,yJ (by omega) (by omega)];exact zb hw
  by_cases hb:bH s k=true
  ·left
   refine⟨by simp[h,hb],?_⟩
   intro k' e _;have:k=k':=by omega
   subst this;exact hb
  ·right
   have hb':bH s k=false:=by simpa using hb
   have h2:2^(k%64)<18446744073709551616:=Nat.pow_lt_pow_right (n:=64) (by decide) (by omega)
   have hs:=shl_one (k:=k%64) (by omega)
   rw[←tmod_nat] at hs
   have hset:setI s.words (IntKind.wrap .i64 (Int.tdiv (k:Int) 64)) (bor .u64 (a:Int) ((2^(k%64):Nat):Int))=some (s.words.set (k/64) ((a|||2^(k%64):Nat):Int)):=by
    rw[tdiv_nat,yJ (by omega) (by omega),bor_nat ha h2];exact yv (by rw[hV.2.1];omega)
   refine⟨k,⟨s.n,s.words.set (k/64) ((a|||2^(k%64):Nat):Int)⟩,rfl,hk,hb',?_,⟨hV.1,by simp[hV.2.1],?_⟩,?_⟩
   ·have hkn:((k:Int)<(n:Int)):=h.2
    have c0:(decide (0≤(k:Int)∧(k:Int)<(n:Int)))=true:=by simpa using h
    have c1:(true&&bH s ((k:Int)).toNat)=false:=by simpa using hb'
    simp only[Option.bind_some,c0,c1,Bool.not_true,Bool.false_eq_true,if_false]
    rw[hw']
    simp only[Option.bind_some]
    rw[hs]
    simp only[Option.bind_some]
    rw[hset]
    rfl
   ·intro w hwm
    rcases List.mem_or_eq_of_mem_set hwm with hwm|rfl
    ·exact hV.2.2 w hwm
    ·have:=Nat.or_lt_two_pow (n:=64) ha h2
     omega
   ·intro j
    unfold bH
    by_cases e:j/64=k/64
    ·have hl:k/64<s.words.length:=by rw[hV.2.1];omega
     simp only[e,List.getElem?_set_self hl,hw,Int.toNat_natCast,Nat.testBit_or,Nat.testBit_two_pow]
     congr 1
     simp only[decide_eq_decide]
     omega
    ·have:j≠k:=by intro c;subst c;exact e rfl
     rw[List.getElem?_set_ne (by omega)]
     simp[this]
 ·left
  refine⟨by simp[h],?_⟩
  intro k e hk;omega
theorem new_ok{n:Nat}(hn:n≤4294967296)(fuel:Nat): ∃s,pz2d fuel (n:Int)=some s∧bV s n∧ ∀j,bH s j=false:=by
 have h0:(if 0>(n:Int) then 0 else(n:Int))=n:=by rw[if_neg (by omega)]
 refine⟨⟨n,List.replicate ((n+63)/64) 0⟩,?_,⟨rfl,by simp,?_⟩,?_⟩
 ·unfold pz2d
  rw[h0,yJ (x:=(n:Int)+64) (by omega) (by omega),yJ (x:=(n:Int)+64-1) (by omega) (by omega),show(n:Int)+64-1=((n+63:Nat):Int) by omega,tdiv_nat,yJ (by omega) (by omega),mk_nat (by omega)]
  rfl
 ·intro w hw
  have:=(List.mem_replicate.1 hw).2
  subst this;omega
 ·intro j
  unfold bH
  simp only[List.getElem?_replicate]
  split
  ·rename_i h
   split at h
   ·cases h;simp
   ·cases h
  ·rfl
end Go.Proofs.YtmogcnnhbmaffaaGreat.PL
set_option linter.unusedVariables false
set_option linter.unusedSimpArgs false
namespace Go.Proofs.YtmogcnnhbmaffaaGreat.PL
open Go
def fOk(f:Fnc):Prop:=f.blocks.length≤1048576∧ ∀b∈f.blocks,b.code.length≤1048576∧ ∀i∈b.code,i.labels.length≤1048576
def fnd(f:Fnc)(l:ByteArray):Int:=(pz3w 0 f l).getD (-1)
theorem fnd_is{f:Fnc}(hn:fOk f)(l:ByteArray):isFnd f.blocks l (fnd f l):=by
 obtain⟨r,h1,h2⟩:=find_ref (f:=f) (by have:=hn.1;omega) 0 l
 unfold fnd;rw[h1];exact h2
theorem fnd_ref{f:Fnc}(hn:fOk f)(fuel:Nat)(l:ByteArray):pz3w fuel f l=some (fnd f l):=by
 obtain⟨r,h1,h2⟩:=find_ref (f:=f) (by have:=hn.1;omega) fuel l
 rw[h1,isFnd_same h2 (fnd_is hn l)]
theorem fnd_ir{f:Fnc}(hn:fOk f){fuel:Nat}(hf:1048576<fuel)(l:ByteArray):pzq fuel f l=some (fnd f l):=by
 obtain⟨r,h1,h2⟩:=find_ir (f:=f) (by have:=hn.1;omega) (fuel:=fuel) (by have:=hn.1;omega) l
 rw[h1,isFnd_same h2 (fnd_is hn l)]
theorem fnd_lt{f:Fnc}(hn:fOk f)(l:ByteArray): -1≤fnd f l∧fnd f l<(f.blocks.length:Int):=isFnd_lt (fnd_is hn l)
def addT(acc:List Int)(r:Int):List Int:=if 0≤r∧r∉acc then acc++[r] else acc
theorem addT_len(acc:List Int)(r:Int):(addT acc r).length≤acc.length+1:=by
 unfold addT;split<;>simp
def tgl(f:Fnc)(ls:List ByteArray):List Int:=ls.foldl (fun a l=>addT a (fnd f l)) []
theorem tgl_next(f:Fnc){ls:List ByteArray}{i:Nat}{l:ByteArray}(h:ls[i]?=some l):tgl f (ls.take (i+1))=addT (tgl f (ls.take i)) (fnd f l):=by
 unfold tgl
 rw[List.take_add_one,h]
 simp
theorem foldT_len(f:Fnc)(ls:List ByteArray): ∀acc:List Int,(ls.foldl (fun a l=>addT a (fnd f l)) acc).length≤acc.length+ls.length:=by
 induction ls with
 |nil=>intro acc;simp
 |cons l ls ih=>
  intro acc
  have h1:=ih (addT acc (fnd f l))
  have h2:=addT_len acc (fnd f l)
  simp only[List.foldl_cons,List.length_cons]
  omega
theorem tgl_len(f:Fnc)(ls:List ByteArray):(tgl f ls).length≤ls.length:=by simpa [tgl] using foldT_len f ls []
theorem foldT_in{f:Fnc}(hn:fOk f)(ls:List ByteArray): ∀acc:List Int,(∀r∈acc,0≤r∧r<(f.blocks.length:Int))→ ∀r∈ls.foldl (fun a l=>addT a (fnd f l)) acc,0≤r∧r<(f.blocks.length:Int):=by
 induction ls with
 |nil=>intro acc h;exact h
 |cons l ls ih=>
  intro acc h
  refine ih _ ?_
  intro r hr
  change r∈addT acc (fnd f l) at hr
  unfold addT at hr
  split at hr
  ·rename_i c
   rcases List.mem_append.1 hr with hr|hr
   ·exact h r hr
   ·have:=List.mem_singleton.1 hr
    subst this
    exact⟨c.1,(fnd_lt hn l).2⟩
  ·exact h r hr
theorem tgl_in{f:Fnc}(hn:fOk f)(ls:List ByteArray): ∀r∈tgl f ls,0≤r∧r<(f.blocks.length:Int):=foldT_in hn ls [] (by simp)
def lastB(b:Bl):Option Ins:=match b.code[b.code.length-1]? with|some i=>if 20≤i.op∧i.op≤23 then some i else none|none=>none
def tg(f:Fnc)(b:Bl):List Int:=match lastB b with|some i=>tgl f i.labels|none=>[]
theorem lastB_len{f:Fnc}(hn:fOk f){b:Bl}(hb:b∈f.blocks){i:Ins}(h:lastB b=some i):i.labels.length≤1048576:=by
 unfold lastB at h
 split at h
 ·rename_i j hj
  split at h
  ·cases h;exact(hn.2 b hb).2 _ (List.mem_of_getElem? hj)
  ·cases h
 ·cases h
theorem tg_in{f:Fnc}(hn:fOk f)(b:Bl): ∀r∈tg f b,0≤r∧r<(f.blocks.length:Int):=by
 unfold tg
 split
 ·exact tgl_in hn _
 ·simp
theorem tg_len{f:Fnc}(hn:fOk f){b:Bl}(hb:b∈f.blocks):(tg f b).length≤1048576:=by
 unfold tg
 split
 ·rename_i i h
  exact Nat.le_trans (tgl_len _ _) (lastB_len hn hb h)
 ·simp
theorem last_idx{b:Bl}(h:b.code.length≤1048576)(h0:b.code.length≠0): ∃i,b.code[b.code.length-1]?=some i∧idx b.code (IntKind.wrap .i64 ((b.code.length:Int)-1))=some i:=by
 obtain⟨i,hi⟩:=getAt (xs:=b.code) (i:=b.code.length-1) (by omega)
 refine⟨i,hi,?_⟩
 rw[yJ (by omega) (by omega),show(b.code.length:Int)-1=((b.code.length-1:Nat):Int) by omega]
 exact zb hi
theorem succ_b2{f:Fnc}(hn:fOk f)(fuel:Nat){x:Ins}{y:Nat}{l:ByteArray}(hl:x.labels[y]?=some l){acc:List Int}(ha:acc.length≤1048576):
  pz48 fuel f x y acc=some (addT acc (fnd f l)):=by
 unfold pz48
 simp only[zb hl,Option.bind_some,fnd_ref hn,in_ref (l:=acc) (by omega),addT]
 by_cases c:0≤fnd f l
 ·by_cases d:fnd f l∈acc
  ·simp[c,d]
  ·simp only[c,d,decide_true,if_true,decide_false,Bool.not_false,Option.bind_some,true_and,not_false_iff]
   rw[yt (by simp;omega)]
   rfl
 ·simp[c]
theorem succ_b1{f:Fnc}(hn:fOk f)(fuel:Nat){i:Nat}{b:Bl}(hb:f.blocks[i]?=some b){out:List (List Int)}(ho:out.length≤1048576):
  pz49 fuel f i out=some (out++[tg f b]):=by
 have hm:b∈f.blocks:=List.mem_of_getElem? hb
 have hc:=(hn.2 b hm).1
 unfold pz49
 simp only[zb hb,Option.bind_some]
 by_cases h0:b.code.length=0
 ·have:lastB b=none:=by
   unfold lastB
   have:b.code=[]:=List.eq_nil_of_length_eq_zero h0
   simp[this]
  have hp: ¬(0<(b.code.length:Int)):=by omega
  simp only[hp,decide_false,Bool.false_eq_true,if_false,Option.bind_some,tg,this]
  rw[yt (by simp;omega)]
  rfl
 ·obtain⟨x,hx,hx'⟩:=last_idx hc h0
  have hp:(0<(b.code.length:Int)):=by omega
  simp only[hp,decide_true,if_true,hx',Option.bind_some]
  by_cases c:20≤x.op∧x.op≤23
  ·have hl:lastB b=some x:=by unfold lastB;rw[hx];simp[c]
   have hll:=lastB_len hn hm hl
   obtain⟨s,h1,h2⟩:=zzQ (fun y (acc:List Int)=>acc=tgl f (x.labels.take y)) (fun i s=>pz48 fuel f x i s) x.labels.length (by omega) (s:=[]) rfl (by
    rintro y acc hy rfl
    obtain⟨l,hl⟩:=getAt hy
    have:=tgl_len f (x.labels.take y)
    simp at this
    exact⟨_,succ_b2 hn fuel hl (by omega),(tgl_next f hl).symm⟩)
   rw[List.take_length] at h2
   simp only[c.1,c.2,decide_true,if_true,Option.bind_some,h1,tg,hl,h2]
   rw[yt (by simp;omega)]
   rfl
  ·have hl:lastB b=none:=by unfold lastB;rw[hx];simp[c]
   simp only[tg,hl]
   by_cases c1:20≤x.op
   ·have c2: ¬x.op≤23:=fun d=>c ⟨c1,d⟩
    simp only[c1,c2,decide_true,decide_false,if_true,Option.bind_some,Bool.false_eq_true,if_false]
    rw[yt (by simp;omega)]
    rfl
   ·simp only[c1,decide_false,if_true,Option.bind_some,Bool.false_eq_true,if_false]
    rw[yt (by simp;omega)]
    rfl
theorem succ_ok{f:Fnc}(hn:fOk f)(fuel:Nat):pz4a fuel f=some (f.blocks.map (tg f)):=by
 unfold pz4a
 have hn1:=hn.1
 obtain⟨s,h1,h2⟩:=zzQ (fun y (out:List (List Int))=>out=(f.blocks.take y).map (tg f)) (fun i s=>pz49 fuel f i s) f.blocks.length (by omega) (s:=[]) rfl (by
  rintro y out hy rfl
  obtain⟨b,hb⟩:=getAt hy
  refine⟨_,succ_b1 hn fuel hb (by simp;omega),?_⟩
  rw[List.take_add_one,hb]
  simp)
 rw[h1,h2,List.take_length]
 rfl
def TT(f:Fnc)(j:Nat):List Int:=match f.blocks[j]? with|some b=>tg f b|none=>[]
def PP(f:Fnc)(x j:Nat):List Int:=((List.range x).filter (fun k=>decide ((j:Int)∈TT f k))).map (fun(k:Nat)=>(k:Int))
theorem PP_len(f:Fnc)(x j:Nat):(PP f x j).length≤x:=by
 unfold PP
 rw[List.length_map]
 exact Nat.le_trans (List.length_filter_le _ _) (by simp)
theorem PP_next(f:Fnc)(x j:Nat):PP f (x+1) j=PP f x j++if(j:Int)∈TT f x then [(x:Int)] else []:=by
 unfold PP
 rw[List.range_succ,List.filter_append,List.map_append]
 congr 1
 by_cases c:(j:Int)∈TT f x<;>simp[c]
structure NI (f:Fnc) (x:Nat) (acc:List Int) (c9 c10:List (List Int)):Prop where
 l9:c9.length=f.blocks.length
 l10:c10.length=f.blocks.length
 g9: ∀j,j<f.blocks.length→c9[j]?=some (if j=x then acc else if j<x then TT f j else [])
 g10: ∀j:Nat,j<f.blocks.length→c10[j]?=some (PP f x j++if(j:Int)∈acc then [(x:Int)] else [])
theorem new_b2{f:Fnc}(hn:fOk f){fuel:Nat}(hf:1048577<fuel){x:Nat}(hx:x<f.blocks.length){i:Ins}(hi:i.labels.length≤1048576){c9 c10:List (List Int)}(h0:NI f x [] c9 c10):
  ∃d9 d10,NI f x (tgl f i.labels) d9 d10∧ ∃z,loopE fuel (fun s=>pz27 fuel f (x:Int) i s.1 s.2.1 s.2.2) (c9,c10,0)=some (.n (d9,d10,z)):=by
 have hn1:=hn.1
 refine Or.elim (zr (fun s:List (List Int)×List (List Int)×Int=> ∃y:Nat,s.2.2=y∧y≤i.labels.length∧NI f x (tgl f (i.labels.take y)) s.1 s.2.1) (fun s=>NI f x (tgl f i.labels) s.1 s.2.1) (fun _:List (List Int)×List (List Int)=>False) (fun s=>i.labels.length-s.2.2.toNat)
  (fun s=>pz27 fuel f (x:Int) i s.1 s.2.1 s.2.2) ?_ fuel (c9,c10,0) ⟨0,rfl,by omega,h0⟩ (by simp;omega)) ?_ ?_
 rotate_left
 ·rintro⟨⟨d9,d10,z⟩,h1,h2⟩
  exact⟨d9,d10,h2,z,h1⟩
 ·rintro⟨v,_,h⟩;exact h.elim
 ·rintro⟨a9,a10,q⟩ ⟨y,hq,hy,hI⟩
  simp only at hq hI
  subst hq
  show(∃s',pz27 fuel f (x:Int) i a9 a10 (y:Int)=some (.n s')∧_)∨(∃s',pz27 fuel f (x:Int) i a9 a10 (y:Int)=some (.b s')∧_)∨_
  unfold pz27
  by_cases hlt:y<i.labels.length
  ·left
   obtain⟨l,hl⟩:=getAt hlt
   have hlen:=tgl_len f (i.labels.take y)
   simp at hlen
   have h9:=hI.g9 x hx
   simp only[if_true] at h9
   have hlt':(y:Int)<(i.labels.length:Int):=by omega
   have hc:=in_sl (l:=tgl f (i.labels.take y)) (by omega) (fuel:=fuel) (by omega) (fnd f l)
   simp only[hlt',decide_true,if_true,zb hl,Option.bind_some,fnd_ir hn (by omega:1048576<fuel),zb h9,hc]
   by_cases c:0≤fnd f l
   ·by_cases d:fnd f l∈tgl f (i.labels.take y)
    ·simp only[c,d,decide_true,if_true,Bool.not_true,Bool.false_eq_true,if_false,Option.bind_some]
     refine⟨_,rfl,⟨y+1,wrap1 (by omega),by omega,?_⟩,?_⟩
     ·rw[tgl_next f hl,addT,if_neg (fun e=>e.2 d)];exact hI
     ·show i.labels.length-(IntKind.i64.wrap ((y:Int)+1)).toNat<i.labels.length-((y:Int)).toNat
      rw[wrap1 (by omega)];omega
    ·obtain⟨k,hk⟩:=Int.eq_ofNat_of_zero_le c
     have hkn:k<f.blocks.length:=by have:=(fnd_lt hn l).2;omega
     have h10:=hI.g10 k hkn
     rw[hk] at d
     have hpl:=PP_len f x k
     simp only[d,if_false,List.append_nil] at h10
     have ha1:app (tgl f (i.labels.take y)) [(k:Int)]=some (tgl f (i.labels.take y)++[(k:Int)]):=yt (by simp;omega)
     have ha2:app (PP f x k) [(x:Int)]=some (PP f x k++[(x:Int)]):=yt (by simp;omega)
     have hs1:setI a9 (x:Int) (tgl f (i.labels.take y)++[(k:Int)])=some (a9.set x (tgl f (i.labels.take y)++[(k:Int)])):=yv (by rw[hI.l9];exact hx)
     have hs2:setI a10 (k:Int) (PP f x k++[(x:Int)])=some (a10.set k (PP f x k++[(x:Int)])):=yv (by rw[hI.l10];exact hkn)
     have hk0:(0:Int)≤(k:Int):=by omega
     simp only[hk,hk0,d,decide_true,decide_false,if_true,Bool.not_false,Option.bind_some,ha1,hs1,zb h10,ha2,hs2]
     refine⟨_,rfl,⟨y+1,wrap1 (by omega),by omega,?_⟩,?_⟩
     ·rw[tgl_next f hl,addT,if_pos ⟨c,by rw[hk];exact d⟩,hk]
      refine⟨by simp[hI.l9],by simp[hI.l10],?_,?_⟩
      ·intro j hj
       by_cases e:j=x
       ·subst e;rw[List.getElem?_set_self (by rw[hI.l9];exact hx)];simp
       ·rw[List.getElem?_set_ne (by omega),hI.g9 j hj];simp[e]
      ·intro j hj
       by_cases e:j=k
       ·subst e;rw[List.getElem?_set_self (by rw[hI.l10];exact hj)];simp
       ·rw[List.getElem?_set_ne (by omega),hI.g10 j hj]
        have: ¬((j:Int)=(k:Int)):=by omega
        simp[this]
     ·show i.labels.length-(IntKind.i64.wrap ((y:Int)+1)).toNat<i.labels.length-((y:Int)).toNat
      rw[wrap1 (by omega)];omega
   ·simp only[c,decide_false,if_true,Bool.false_eq_true,if_false,Option.bind_some]
    refine⟨_,rfl,⟨y+1,wrap1 (by omega),by omega,?_⟩,?_⟩
    ·rw[tgl_next f hl,addT,if_neg (fun e=>c e.1)];exact hI
    ·show i.labels.length-(IntKind.i64.wrap ((y:Int)+1)).toNat<i.labels.length-((y:Int)).toNat
     rw[wrap1 (by omega)];omega
  ·right;left
   have hlt': ¬((y:Int)<(i.labels.length:Int)):=by omega
   simp only[hlt',decide_false,Bool.false_eq_true,if_false]
   refine⟨_,rfl,?_⟩
   have:y=i.labels.length:=by omega
   subst this
   simpa using hI
theorem NI_next{f:Fnc}{x:Nat}{d9 d10:List (List Int)}(h:NI f x (TT f x) d9 d10):NI f (x+1) [] d9 d10:=by
 refine⟨h.l9,h.l10,?_,?_⟩
 ·intro j hj
  rw[h.g9 j hj]
  by_cases e:j=x
  ·subst e;simp
  ·by_cases c:j<x
   ·have:j≠x+1:=by omega
    simp[e,c,this,show j<x+1 by omega]
   ·have: ¬j<x+1:=by omega
    simp[e,c,this]
 ·intro j hj
  rw[h.g10 j hj,PP_next]
  simp
theorem last_ok{f:Fnc}(hn:fOk f){b:Bl}(hb:b∈f.blocks)(fuel:Nat):(∃i,lastB b=some i∧pz26 fuel b=some (i,true))∨(lastB b=none∧ ∃z,pz26 fuel b=some (z,false)):=by
 have hc:=(hn.2 b hb).1
 unfold pz26 pzw
 by_cases h0:b.code.length=0
 ·right
  have:lastB b=none:=by
   unfold lastB
   have:b.code=[]:=List.eq_nil_of_length_eq_zero h0
   simp[this]
  exact⟨this,_,by simp[h0];rfl⟩
 ·obtain⟨x,hx,hx'⟩:=last_idx hc h0
  have hp: ¬((b.code.length:Int)=0):=by omega
  simp only[hp,decide_false,Bool.false_eq_true,if_false,hx',Option.bind_some]
  unfold lastB
  rw[hx]
  by_cases c:20≤x.op∧x.op≤23
  ·left;exact⟨x,by simp[c],by simp[c]⟩
  ·right;exact⟨by simp[c],x,by simp only[Option.some.injEq,Prod.mk.injEq,true_and,Bool.and_eq_false_iff,decide_eq_false_iff_not];omega⟩
theorem new_f{f:Fnc}(hn:fOk f){fuel:Nat}(hf:1048577<fuel): ∃g,pz29 fuel f=some g∧g.succ.length=f.blocks.length∧g.pred.length=f.blocks.length∧
  (∀j,j<f.blocks.length→g.succ[j]?=some (TT f j))∧ ∀j:Nat,j<f.blocks.length→g.pred[j]?=some (PP f f.blocks.length j):=by
 have hn1:=hn.1
 unfold pz29
 rw[mk_nat (by omega)]
 simp only[Option.bind_some]
 refine Or.elim (zr (fun s:Int×List (List Int)×List (List Int)=> ∃x:Nat,s.1=x∧x≤f.blocks.length∧NI f x [] s.2.1 s.2.2) (fun s=>NI f f.blocks.length [] s.2.1 s.2.2) (fun _:zn=>False) (fun s=>f.blocks.length-s.1.toNat)
  (fun s=>pz28 fuel f s.1 s.2.1 s.2.2) ?_ fuel (0,List.replicate f.blocks.length [],List.replicate f.blocks.length []) ⟨0,rfl,by omega,?_⟩ (by simp;omega)) ?_ ?_
 rotate_left
 ·refine⟨by simp,by simp,?_,?_⟩
  ·intro j hj;simp[List.getElem?_replicate,hj]
  ·intro j hj;simp[List.getElem?_replicate,hj,PP]
 ·rintro⟨⟨z,d9,d10⟩,h1,h2⟩
  rw[h1]
  refine⟨⟨d9,d10⟩,rfl,h2.l9,h2.l10,?_,?_⟩
  ·intro j hj
   have:=h2.g9 j hj
   simpa [hj,show j≠f.blocks.length by omega] using this
  ·intro j hj
   simpa using h2.g10 j hj
 ·rintro⟨v,_,h⟩;exact h.elim
 ·rintro⟨q,a9,a10⟩ ⟨x,hq,hx,hI⟩
  simp only at hq hI
  subst hq
  show(∃s',pz28 fuel f (x:Int) a9 a10=some (.n s')∧_)∨(∃s',pz28 fuel f (x:Int) a9 a10=some (.b s')∧_)∨_
  unfold pz28
  by_cases hlt:x<f.blocks.length
  ·left
   obtain⟨b,hb⟩:=getAt hlt
   have hm:=List.mem_of_getElem? hb
   have hlt':(x:Int)<(f.blocks.length:Int):=by omega
   have hT:TT f x=tg f b:=by unfold TT;rw[hb]
   have done: ∀d9 d10,NI f x (TT f x) d9 d10→((fun s:Int×List (List Int)×List (List Int)=> ∃x:Nat,s.1=x∧x≤f.blocks.length∧NI f x [] s.2.1 s.2.2) (IntKind.i64.wrap ((x:Int)+1),d9,d10)∧f.blocks.length-(IntKind.i64.wrap ((x:Int)+1)).toNat<f.blocks.length-((x:Int)).toNat):=by
    intro d9 d10 h
    rw[wrap1 (by omega)]
    exact⟨⟨x+1,rfl,by omega,NI_next h⟩,by omega⟩
   simp only[hlt',decide_true,if_true,zb hb,Option.bind_some]
   rcases last_ok hn hm fuel with ⟨i,h1,h2⟩|⟨h1,z,h2⟩
   ·obtain⟨d9,d10,h3,z,h4⟩:=new_b2 hn hf hlt (lastB_len hn hm h1) hI
    simp only[h2,Option.bind_some,Bool.not_true,Bool.false_eq_true,if_false,h4,bindE]
    have ht:TT f x=tgl f i.labels:=by rw[hT];unfold tg;rw[h1]
    rw[←ht] at h3
    exact⟨_,rfl,(done d9 d10 h3).1,(done d9 d10 h3).2⟩
   ·simp only[h2,Option.bind_some,Bool.not_false,if_true]
    have ht:TT f x=[]:=by rw[hT];unfold tg;rw[h1]
    have h3:=hI
    rw[←ht] at h3
    exact⟨_,rfl,(done a9 a10 h3).1,(done a9 a10 h3).2⟩
  ·right;left
   have hlt': ¬((x:Int)<(f.blocks.length:Int)):=by omega
   simp only[hlt',decide_false,Bool.false_eq_true,if_false]
   refine⟨_,rfl,?_⟩
   have:x=f.blocks.length:=by omega
   subst this
   exact hI
end Go.Proofs.YtmogcnnhbmaffaaGreat.PL
set_option linter.unusedVariables false
set_option linter.unusedSimpArgs false
namespace Go.Proofs.YtmogcnnhbmaffaaGreat.PL
open Go
inductive Path (E:Nat→Nat→Prop) (ok:Nat→Prop):Nat→Nat→Prop
 |one {a:Nat}:ok a→Path E ok a a
 |step {a b c:Nat}:ok a→E a b→Path E ok b c→Path E ok a c
theorem Path.fst{E:Nat→Nat→Prop}{ok:Nat→Prop}{a b:Nat}(h:Path E ok a b):ok a:=by cases h<;>assumption
theorem Path.snoc{E:Nat→Nat→Prop}{ok:Nat→Prop}{a b c:Nat}(h:Path E ok a b)(e:E b c)(k:ok c):Path E ok a c:=by
 induction h with
 |one h=>exact .step h e (.one k)
 |step h1 h2 _ ih=>exact .step h1 h2 (ih e)
theorem Path.closed{E:Nat→Nat→Prop}{ok:Nat→Prop}{C:Nat→Prop}(hC: ∀a b,C a→E a b→ok b→C b){a b:Nat}(h:Path E ok a b):C a→C b:=by
 induction h with
 |one h=>exact id
 |step h1 h2 h3 ih=>exact fun c=>ih (hC _ _ c h2 h3.fst)
theorem count_le: ∀(l k:List Bool),l.length=k.length→(∀j:Nat,l[j]?=some true→k[j]?=some true)→l.count true≤k.count true∧(l.count true=k.count true→l=k):=by
 intro l
 induction l with
 |nil=>intro k h _;cases k with
  |nil=>simp
  |cons b k=>simp at h
 |cons a l ih=>
  intro k h hs
  cases k with
  |nil=>simp at h
  |cons b k=>
   obtain⟨h1,h2⟩:=ih k (by simpa using h) (fun j hj=>by simpa using hs (j+1) (by simpa using hj))
   have h0:=hs 0
   cases a<;>cases b
   ·simp only[List.count_cons];simp;exact⟨h1,h2⟩
   ·simp only[List.count_cons];simp;constructor
    ·omega
    ·intro e;omega
   ·simp at h0
   ·simp only[List.count_cons];simp;exact⟨h1,h2⟩
section
variable {f:Fnc} (hn:fOk f) {fuel:Nat} (hf:1048577<fuel) {wo:Int}
def EE(f:Fnc)(a b:Nat):Prop:=(b:Int)∈TT f a
def okk(wo:Int)(a:Nat):Prop:=(a:Int)≠wo
def SS(s:List Bool)(j:Nat):Prop:=s[j]?=some true
theorem TT_lt(hn:fOk f){a b:Nat}(h:EE f a b):b<f.blocks.length:=by
 unfold EE TT at h
 split at h
 ·have:=(tg_in hn _ _ h).2;omega
 ·simp at h
theorem TT_fst{a b:Nat}(h:EE f a b):a<f.blocks.length:=by
 unfold EE TT at h
 split at h
 ·rename_i c;exact(List.getElem?_eq_some_iff.1 c).1
 ·simp at h
theorem TT_in(hn:fOk f){a:Nat}{r:Int}(h:r∈TT f a):0≤r∧r<(f.blocks.length:Int):=by
 unfold TT at h
 split at h
 ·exact tg_in hn _ _ h
 ·simp at h
theorem TT_at{a:Nat}(h:a<f.blocks.length):(f.blocks.map (tg f))[a]?=some (TT f a):=by
 obtain⟨b,hb⟩:=getAt h
 unfold TT
 simp[hb]
theorem TT_len(hn:fOk f)(a:Nat):(TT f a).length≤1048576:=by
 unfold TT
 split
 ·rename_i c;exact tg_len hn (List.mem_of_getElem? c)
 ·simp
include hn hf in
theorem reach_b2{seen:List Bool}(hs:seen.length=f.blocks.length){i:Nat}(hi:i<f.blocks.length):
  ∃s',pz4c fuel (f.blocks.map (tg f)) wo i seen=some s'∧s'.length=f.blocks.length∧(∀j,SS seen j→SS s' j)∧
   (SS seen i→ ∀j,EE f i j→okk wo j→SS s' j)∧ ∀j,SS s' j→SS seen j∨(SS seen i∧EE f i j∧okk wo j):=by
 have hn1:=hn.1
 have hlen:=TT_len hn i
 have hT:=zb (TT_at hi)
 unfold pz4c
 refine Or.elim (zr (fun s:Int×List Bool=> ∃y:Nat,s.1=y∧y≤(TT f i).length∧s.2.length=f.blocks.length∧(∀j,SS seen j→SS s.2 j)∧(SS s.2 i→SS seen i)∧
   (∀z<y,∀j:Nat,(TT f i)[z]?=some (j:Int)→okk wo j→SS s.2 j)∧ ∀j,SS s.2 j→SS seen j∨(SS seen i∧EE f i j∧okk wo j))
  (fun s:Int×List Bool=>s.2.length=f.blocks.length∧(∀j,SS seen j→SS s.2 j)∧(SS seen i→ ∀j,EE f i j→okk wo j→SS s.2 j)∧ ∀j,SS s.2 j→SS seen j∨(SS seen i∧EE f i j∧okk wo j))
  (fun _:List Bool=>False) (fun s=>(TT f i).length-s.1.toNat) (fun s=>pz4b fuel (f.blocks.map (tg f)) wo i s.1 s.2) ?_ fuel (0,seen)
  ⟨0,rfl,by omega,hs,fun _ h=>h,fun h=>h,by intro z h;omega,fun _ h=> .inl h⟩ (by simp;omega)) ?_ ?_
 rotate_left
 ·rintro⟨⟨z,s'⟩,h1,h2,h3,h4,h5⟩
  rw[h1]
  exact⟨s',rfl,h2,h3,h4,h5⟩
 ·rintro⟨v,_,h⟩;exact h.elim
 ·rintro⟨q,s⟩ ⟨y,hq,hy,hl,h3,h4,h5,h6⟩
  simp only at hq hl h3 h4 h5 h6
  subst hq
  show(∃s',pz4b fuel (f.blocks.map (tg f)) wo i (y:Int) s=some (.n s')∧_)∨(∃s',pz4b fuel (f.blocks.map (tg f)) wo i (y:Int) s=some (.b s')∧_)∨_
  unfold pz4b
  obtain⟨x,hx⟩:=getAt (xs:=s) (i:=i) (by omega)
  cases x with
  |false=>
   right;left
   simp only[zb hx,Option.bind_some,Bool.false_eq_true,if_false]
   refine⟨_,rfl,hl,h3,?_,h6⟩
   intro h
   have:=h3 i h
   unfold SS at this
   rw[hx] at this
   cases this
  |true=>
   by_cases c:y<(TT f i).length
   ·left
    obtain⟨r,hr⟩:=getAt c
    obtain⟨hr0,hr1⟩:=TT_in hn (List.mem_of_getElem? hr)
    obtain⟨k,rfl⟩:=Int.eq_ofNat_of_zero_le hr0
    have hc:(y:Int)<((TT f i).length:Int):=by omega
    have hSi:SS seen i:=h4 hx
    have hE:EE f i k:=List.mem_of_getElem? hr
    have hm:(TT f i).length-(IntKind.i64.wrap ((y:Int)+1)).toNat<(TT f i).length-((y:Int)).toNat:=by rw[wrap1 (by omega)];omega
    simp only[zb hx,Option.bind_some,if_true,hT,hc,decide_true,zb hr]
    by_cases d:(k:Int)=wo
    ·simp only[d,ne_eq,not_true_eq_false,decide_false,Bool.false_eq_true,if_false,Option.bind_some]
     refine⟨_,rfl,⟨y+1,wrap1 (by omega),by omega,hl,h3,h4,?_,h6⟩,hm⟩
     intro z hz j hj hok
     by_cases e:z=y
     ·subst e;rw[hr] at hj;have:=Option.some.inj hj
      exact absurd (this.symm.trans d) hok
     ·exact h5 z (by omega) j hj hok
    ·obtain⟨v,hv⟩:=getAt (xs:=s) (i:=k) (by omega)
     have hset:setI s (k:Int) true=some (s.set k true):=yv (by omega)
     have hself:(s.set k true)[k]?=some true:=List.getElem?_set_self (by omega)
     have hsup: ∀j,SS s j→SS (s.set k true) j:=by
      intro j hj
      by_cases e:j=k
      ·subst e;exact hself
      ·show(s.set k true)[j]?=some true
       rw[List.getElem?_set_ne (by omega)];exact hj
     simp only[ne_eq,d,not_false_eq_true,decide_true,if_true,zb hv,Option.bind_some,hset]
     refine⟨_,rfl,⟨y+1,wrap1 (by omega),by omega,by simpa using hl,fun j hj=>hsup j (h3 j hj),fun _=>hSi,?_,?_⟩,hm⟩
     ·intro z hz j hj hok
      by_cases e:z=y
      ·subst e;rw[hr] at hj;have:=Option.some.inj hj
       have:j=k:=by omega
       subst this;exact hself
      ·exact hsup j (h5 z (by omega) j hj hok)
     ·intro j hj
      by_cases e:j=k
      ·subst e;exact .inr ⟨hSi,hE,d⟩
      ·refine h6 j ?_
       have hj':(s.set k true)[j]?=some true:=hj
       rw[List.getElem?_set_ne (by omega)] at hj';exact hj'
   ·right;left
    have hc: ¬((y:Int)<((TT f i).length:Int)):=by omega
    simp only[zb hx,Option.bind_some,if_true,hT,hc,decide_false,Bool.false_eq_true,if_false]
    refine⟨_,rfl,hl,h3,?_,h6⟩
    intro _ j hj hok
    obtain⟨z,hz⟩:=List.getElem?_of_mem hj
    have:=(List.getElem?_eq_some_iff.1 hz).1
    exact h5 z (by omega) j hz hok
def Clo(f:Fnc)(wo:Int)(C:Nat→Prop):Prop:= ∀a b,C a→EE f a b→okk wo b→C b
include hn hf in
theorem reach_b1{seen:List Bool}(hs:seen.length=f.blocks.length)(x:Int):
  ∃s',pz4d fuel (f.blocks.map (tg f)) wo x seen=some s'∧s'.length=f.blocks.length∧(∀j,SS seen j→SS s' j)∧
   (∀i j,SS seen i→EE f i j→okk wo j→SS s' j)∧ ∀C,Clo f wo C→(∀j,SS seen j→C j)→ ∀j,SS s' j→C j:=by
 have hn1:=hn.1
 unfold pz4d
 obtain⟨s',h1,h2,h3,h4,h5⟩:=zzQ (fun i (s:List Bool)=>s.length=f.blocks.length∧(∀j,SS seen j→SS s j)∧(∀i'<i,∀j,SS seen i'→EE f i' j→okk wo j→SS s j)∧ ∀C,Clo f wo C→(∀j,SS seen j→C j)→ ∀j,SS s j→C j)
  (fun i s=>pz4c fuel (f.blocks.map (tg f)) wo i s) f.blocks.length (by omega) (s:=seen) ⟨hs,fun _ h=>h,by intro i h;omega,fun _ _ h=>h⟩ (by
   rintro i s hi ⟨h2,h3,h4,h5⟩
   obtain⟨t,k1,k2,k3,k4,k5⟩:=reach_b2 hn hf (wo:=wo) h2 hi
   refine⟨t,k1,k2,fun j h=>k3 j (h3 j h),?_,?_⟩
   ·intro i' hi' j hS hE hok
    by_cases e:i'=i
    ·subst e;exact k4 (h3 _ hS) j hE hok
    ·exact k3 j (h4 i' (by omega) j hS hE hok)
   ·intro C hC hsub j hj
    rcases k5 j hj with h|⟨h,hE,hok⟩
    ·exact h5 C hC hsub j h
    ·exact hC i j (h5 C hC hsub i h) hE hok)
 rw[List.length_map,h1]
 exact⟨s',rfl,h2,h3,fun i j hS hE hok=>h4 i (TT_fst hE) j hS hE hok,h5⟩
include hn hf in
theorem reach_ok{k:Nat}(hk:k<f.blocks.length): ∃s,pz4e fuel (f.blocks.map (tg f)) k wo=some s∧s.length=f.blocks.length∧ ∀j,SS s j↔Path (EE f) (okk wo) k j:=by
 have hn1:=hn.1
 unfold pz4e
 rw[List.length_map,mk_nat (by omega)]
 have h0: ∀j,¬SS (List.replicate f.blocks.length false) j:=by
  intro j h
  unfold SS at h
  rw[List.getElem?_replicate] at h
  split at h<;>simp at h
 have c1:decide ((k:Int)<0)=false:=by simp
 have c2:decide ((f.blocks.length:Int)≤(k:Int))=false:=by simp;omega
 simp only[Option.bind_some,c1,c2,Bool.false_or]
 by_cases c:(k:Int)=wo
 ·simp only[c,decide_true,if_true]
  refine⟨_,rfl,by simp,?_⟩
  intro j
  constructor
  ·intro h;exact absurd h (h0 j)
  ·intro h;exact absurd c h.fst
 ·have hset:setI (List.replicate f.blocks.length false) (k:Int) true=some ((List.replicate f.blocks.length false).set k true):=yv (by simpa using hk)
  have hidx:idx (List.replicate f.blocks.length false) (k:Int)=some false:=zb (by simp[List.getElem?_replicate,hk])
  simp only[c,decide_false,Bool.false_eq_true,if_false,hidx,Option.bind_some,hset]
  obtain⟨s',h1,h2,h3,h4,h5⟩:=zzQ (fun i (s:List Bool)=>s.length=f.blocks.length∧SS s k∧(Clo f wo (SS s)∨i+1≤s.count true)∧ ∀C,Clo f wo C→C k→ ∀j,SS s j→C j)
   (fun i s=>pz4d fuel (f.blocks.map (tg f)) wo i s) f.blocks.length (by omega) (s:=(List.replicate f.blocks.length false).set k true)
   ⟨by simp,List.getElem?_set_self (by simpa using hk),.inr (by
    have:true∈(List.replicate f.blocks.length false).set k true:=List.mem_of_getElem? (List.getElem?_set_self (by simpa using hk))
    have:=List.count_pos_iff.2 this
    omega),by
    intro C hC hCk j hj
    by_cases e:j=k
    ·subst e;exact hCk
    ·unfold SS at hj
     rw[List.getElem?_set_ne (by omega)] at hj
     exact absurd hj (h0 j)⟩ (by
   rintro i s hi ⟨h2,h3,h4,h5⟩
   obtain⟨t,k1,k2,k3,k4,k5⟩:=reach_b1 hn hf (wo:=wo) h2 i
   refine⟨t,k1,k2,k3 k h3,?_,fun C hC hCk j hj=>k5 C hC (h5 C hC hCk) j hj⟩
   obtain⟨m1,m2⟩:=count_le s t (by omega) k3
   rcases h4 with h4|h4
   ·left
    have hst: ∀j,SS t j→SS s j:=k5 (SS s) h4 (fun _ h=>h)
    intro a b ha hE hok
    exact k3 b (h4 a b (hst a ha) hE hok)
   ·by_cases e:s.count true=t.count true
    ·left
     have:=m2 e
     subst this
     exact fun a b ha hE hok=>k4 a b ha hE hok
    ·right;omega)
  rw[h1]
  refine⟨s',rfl,h2,?_⟩
  have hcl:Clo f wo (SS s'):=by
   rcases h4 with h4|h4
   ·exact h4
   ·have:=List.count_le_length (a:=true) (l:=s')
    omega
  intro j
  constructor
  ·exact fun h=>h5 (fun j=>Path (EE f) (okk wo) k j) (fun a b ha hE hok=>ha.snoc hE hok) (.one c) j h
  ·exact fun h=>h.closed (C:=SS s') hcl h3
end
end Go.Proofs.YtmogcnnhbmaffaaGreat.PL
set_option linter.unusedVariables false
set_option linter.unusedSectionVars false
set_option linter.unusedSimpArgs false
namespace Go.Proofs.YtmogcnnhbmaffaaGreat.PL
open Go
theorem top_wrap{α:Type}(st:List α)(a:α)(h:st.length≤4294967):IntKind.wrap .i64 (((st++[a]).length:Int)-1)=(st.length:Int):=by
 rw[yJ (by simp) (by simp;omega)];simp
theorem top_idx{α:Type}(st:List α)(a:α):idx (st++[a]) (st.length:Int)=some a:=zb (by simp)
theorem top_set{α:Type}(st:List α)(a b:α):setI (st++[a]) (st.length:Int) b=some (st++[b]):=by
 rw[yv (by simp)]
 rw[List.set_append]
 simp
theorem top_cut{α:Type}(st:List α)(a:α):sli (st++[a]) 0 (st.length:Int)=some st:=by
 unfold sli
 rw[if_pos (by simp;omega)]
 simp
theorem reverse_ok{l:List Int}(hl:l.length≤1048576){fuel:Nat}(hf:1048577<fuel):pz2j fuel l=some l.reverse:=by
 unfold pz2j
 refine Or.elim (zr (fun q:List Int×Int×Int=> ∃i:Nat,q.2.1=i∧q.2.2=(l.length:Int)-1-i∧i≤l.length∧q.1.length=l.length∧ ∀k,k<l.length→q.1[k]?=if k<i∨l.length≤k+i then l[l.length-1-k]? else l[k]?) (fun q=>q.1=l.reverse) (fun _:List Int=>False) (fun q=>l.length-q.2.1.toNat)
  (fun s=>pz2i fuel s.1 s.2.1 s.2.2) ?_ fuel (l,0,IntKind.wrap .i64 ((l.length:Int)-1)) ⟨0,rfl,by simp only[yJ (show-9223372036854775808≤(l.length:Int)-1 by omega) (show(l.length:Int)-1≤9223372036854775807 by omega)];omega,by omega,rfl,by
   intro k hk;rw[if_neg (by omega)]⟩ (by simp;omega)) ?_ ?_
 rotate_left
 ·rintro⟨⟨a,b,c⟩,k1,k2⟩
  rw[k1]
  simp only at k2
  rw[←k2]
  rfl
 ·rintro⟨v,_,h⟩;exact h.elim
 ·rintro⟨s,p,q⟩ ⟨i,hp,hq,hi,hs,hk⟩
  simp only at hp hq hs hk
  subst hp;subst hq
  show(∃s',pz2i fuel s (i:Int) ((l.length:Int)-1-i)=some (.n s')∧_)∨(∃s',pz2i fuel s (i:Int) ((l.length:Int)-1-i)=some (.b s')∧_)∨_
  unfold pz2i
  by_cases c:2*i+1<l.length
  ·left
   have hc:(i:Int)<(l.length:Int)-1-i:=by omega
   obtain⟨J,hJ⟩: ∃J,J+i+1=l.length:=⟨l.length-1-i,by omega⟩
   have hJ':(l.length:Int)-1-i=(J:Int):=by omega
   obtain⟨xJ,h1⟩:=getAt (xs:=s) (i:=J) (by omega)
   obtain⟨xi,h2⟩:=getAt (xs:=s) (i:=i) (by omega)
   obtain⟨xK,h3⟩:=getAt (xs:=s.set i xJ) (i:=J) (by simp;omega)
   have hs1:setI s (i:Int) xJ=some (s.set i xJ):=yv (by omega)
   have hs2:setI (s.set i xJ) (J:Int) xi=some ((s.set i xJ).set J xi):=yv (by simp;omega)
   have hJi:(i:Int)<(J:Int):=by omega
   simp only[hJ',hJi,decide_true,if_true,zb h1,zb h2,Option.bind_some,hs1,zb h3,hs2]
   refine⟨_,rfl,⟨i+1,wrap1 (by omega),?_,by omega,by simp;omega,?_⟩,?_⟩
   ·show IntKind.i64.wrap ((J:Int)-1)=_
    rw[yJ (by omega) (by omega)];omega
   ·intro k hkl
    show((s.set i xJ).set J xi)[k]?=_
    by_cases e:k=J
    ·subst e
     rw[List.getElem?_set_self (by simp;omega),if_pos (by omega),show l.length-1-k=i by omega,←h2,hk i (by omega),if_neg (by omega)]
    ·rw[List.getElem?_set_ne (by omega)]
     by_cases e2:k=i
     ·subst e2
      rw[List.getElem?_set_self (by omega),if_pos (by omega),show l.length-1-k=J by omega,←h1,hk J (by omega),if_neg (by omega)]
     ·rw[List.getElem?_set_ne (by omega),hk k hkl]
      by_cases e3:k<i∨l.length≤k+i
      ·rw[if_pos e3,if_pos (by omega)]
      ·rw[if_neg e3,if_neg (by omega)]
   ·show l.length-(IntKind.i64.wrap ((i:Int)+1)).toNat<l.length-((i:Int)).toNat
    rw[wrap1 (by omega)];omega
  ·right;left
   have hc: ¬((i:Int)<(l.length:Int)-1-i):=by omega
   simp only[hc,decide_false,Bool.false_eq_true,if_false]
   refine⟨_,rfl,?_⟩
   show s=l.reverse
   apply List.ext_getElem?
   intro k
   by_cases hkl:k<l.length
   ·rw[List.getElem?_reverse hkl,hk k hkl]
    split
    ·rfl
    ·rw[show l.length-1-k=k by omega]
   ·rw[List.getElem?_eq_none (by omega),List.getElem?_eq_none (by simp;omega)]
theorem kX: ∀(n:Nat) (l:List Nat),l.Nodup→(∀x∈l,x<n)→l.length≤n
 |0,l,_,h=>by
  cases l with
  |nil=>simp
  |cons x l=>have:=h x (by simp);omega
 |n+1,l,hn,h=>by
  by_cases hm:n∈l
  ·have h1:=kX n (l.erase n) (hn.erase n) (fun x hx=>by
    have h2:=(hn.mem_erase_iff).1 hx
    have:=h x h2.2
    have:=h2.1
    omega)
   rw[List.length_erase_of_mem hm] at h1
   omega
  ·have h1:=kX n l hn (fun x hx=>by
    have:=h x hx
    have:x≠n:=fun e=>hm (e▸hx)
    omega)
   omega
def Bef(l:List Nat)(a b:Nat):Prop:= ∃i j:Nat,i<j∧l[i]?=some a∧l[j]?=some b
theorem Bef.snoc{l:List Nat}{a b x:Nat}(h:Bef l a b):Bef (l++[x]) a b:=by
 obtain⟨i,j,h1,h2,h3⟩:=h
 have hi:=(List.getElem?_eq_some_iff.1 h2).1
 have hj:=(List.getElem?_eq_some_iff.1 h3).1
 exact⟨i,j,h1,by rw[List.getElem?_append_left hi];exact h2,by rw[List.getElem?_append_left hj];exact h3⟩
theorem Bef.last{l:List Nat}{a x:Nat}(h:a∈l):Bef (l++[x]) a x:=by
 obtain⟨i,hi⟩:=List.getElem?_of_mem h
 have hl:=(List.getElem?_eq_some_iff.1 hi).1
 exact⟨i,l.length,hl,by rw[List.getElem?_append_left hl];exact hi,by simp⟩
def cS(h:Nat→Bool)(w:Nat→Nat):Nat→Nat
 |0=>0
 |n+1=>cS h w n+if h n=true then 0 else w n
theorem cS_le{h:Nat→Bool}{w:Nat→Nat}{W:Nat}(hw: ∀j,w j≤W): ∀n,cS h w n≤n*W
 |0=>by simp[cS]
 |n+1=>by
  have:=cS_le hw (h:=h) n
  have:=hw n
  rw[cS,Nat.succ_mul]
  split<;>omega
theorem cS_same{h h':Nat→Bool}{w:Nat→Nat}: ∀n,(∀j,j<n→h' j=h j)→cS h' w n=cS h w n
 |0,_=>rfl
 |n+1,hh=>by rw[cS,cS,cS_same n fun j hj=>hh j (by omega),hh n (by omega)]
theorem cS_add{h h':Nat→Bool}{w:Nat→Nat}{c:Nat}(hc:h c=false)(hh: ∀j,h' j=(h j||decide (j=c))): ∀n,c<n→cS h' w n+w c=cS h w n
 |0,hn=>by omega
 |n+1,hn=>by
  rw[cS,cS]
  by_cases e:c=n
  ·subst e
   have e:=cS_same (h:=h) (h':=h') (w:=w) c (fun j hj=>by
    rw[hh]
    have:j≠c:=by omega
    simp[this])
   rw[e,hh];simp[hc]
  ·have:=cS_add hc hh (w:=w) n (by omega)
   have hn2:h' n=h n:=by
    rw[hh]
    have:n≠c:=by omega
    simp[this]
   rw[hn2];omega
section post
variable {f:Fnc} (hn:fOk f) {fuel:Nat} {g:zn} (h2: ∀j:Nat,j<f.blocks.length→g.succ[j]?=some (TT f j))
def PT(f:Fnc)(a b:Nat):Prop:=Path (EE f) (okk (-1)) a b
theorem okk_all(a:Nat):okk (-1) a:=by unfold okk;omega
theorem PT.refl(f:Fnc)(a:Nat):PT f a a:= .one (okk_all _)
theorem PT.snoc'{a b c:Nat}(h:PT f a b)(e:EE f b c):PT f a c:=Path.snoc h e (okk_all _)
def emb(p:Nat×Nat):A2 Int:=⟨(p.1:Int),(p.2:Int)⟩
def embN(l:List Nat):List Int:=l.map fun(k:Nat)=>(k:Int)
structure PInv (f:Fnc) (w:List Nat) (st:List (Nat×Nat)) (s:zG):Prop where
 V:bV s f.blocks.length
 lt: ∀p∈st,p.1<f.blocks.length∧p.2≤(TT f p.1).length
 wlt: ∀v∈w,v<f.blocks.length
 nd:(w++st.map (·.1)).Nodup
 seen: ∀j,j<f.blocks.length→(bH s j=true↔j∈w∨j∈st.map (·.1))
 cnt: ∀p∈st,∀z,z<p.2→ ∀c:Nat,(TT f p.1)[z]?=some (c:Int)→bH s c=true
 edge: ∀(i:Nat) p q,st[i]?=some p→st[i+1]?=some q→EE f p.1 q.1
 bot:(∃p,st[0]?=some p∧p.1=0)∨(st=[]∧w.getLast?=some 0)
 par: ∀v∈w,v=0∨ ∃p,EE f p v∧(p∈st.map (·.1)∨Bef w v p)
 ed: ∀v∈w,∀c,EE f v c→Bef w c v∨PT f c v
 cl: ∀v∈w,∀c,EE f v c→bH s c=true
 rch: ∀j,j<f.blocks.length→bH s j=true→PT f 0 j
theorem PInv.path{w:List Nat}{st:List (Nat×Nat)}{s:zG}(h:PInv f w st s): ∀(d i:Nat) p q,st[i]?=some p→st[i+d]?=some q→PT f p.1 q.1
 |0,i,p,q,hp,hq=>by
  rw[Nat.add_zero,hp] at hq;cases hq;exact PT.refl _ _
 |d+1,i,p,q,hp,hq=>by
  have hl:i+d<st.length:=by have:=(List.getElem?_eq_some_iff.1 hq).1;omega
  have hr:st[i+d]?=some st[i+d]:=by simp[hl]
  exact(h.path d i p _ hp hr).snoc' (h.edge (i+d) _ q hr hq)
def pm(f:Fnc)(s:List Int×List (A2 Int)×zG):Nat:=cS (bH s.2.2) (fun j=>(TT f j).length+2) f.blocks.length+(s.2.1.map fun p=>(TT f p.a0.toNat).length-p.a1.toNat+1).sum
theorem zzH{α:Type}(l:List α)(x:α)(m:α→Nat):((l++[x]).map m).sum=(l.map m).sum+m x:=by simp
include hn h2 in
theorem post_step{w:List Nat}{st:List (Nat×Nat)}{s:zG}(hI:PInv f w st s):
  (∃w' st' s',pz2g fuel g (embN w) (st.map emb) s=some (.n (embN w',st'.map emb,s'))∧PInv f w' st' s'∧pm f (embN w',st'.map emb,s')<pm f (embN w,st.map emb,s))∨
   (st=[]∧pz2g fuel g (embN w) (st.map emb) s=some (.b (embN w,[],s))):=by
 have hn1:=hn.1
 have hsl:st.length≤f.blocks.length:=by
  have:=kX f.blocks.length (st.map (·.1)) (List.nodup_append.1 hI.nd).2.1 (fun x hx=>by obtain⟨p,hp,rfl⟩:=List.mem_map.1 hx;exact(hI.lt p hp).1)
  simpa using this
 have hwl:w.length≤f.blocks.length:=kX _ w (List.nodup_append.1 hI.nd).1 hI.wlt
 rcases List.eq_nil_or_concat st with rfl|⟨rho,⟨v,k⟩,rfl⟩
 ·right
  refine⟨rfl,?_⟩
  unfold pz2g
  simp
 ·left
  rw[List.concat_eq_append] at hI hsl ⊢
  obtain⟨hv,hk⟩:=hI.lt (v,k) (by simp)
  simp only at hv hk
  have hrl:(rho.map emb).length≤4294967:=by simp at hsl ⊢;omega
  have hmap:(rho++[(v,k)]).map emb=rho.map emb++[(⟨(v:Int),(k:Int)⟩:A2 Int)]:=by simp[emb]
  rw[hmap]
  unfold pz2g
  have hp:(0:Int)<((rho.map emb++[(⟨(v:Int),(k:Int)⟩:A2 Int)]).length:Int):=by simp
  have hT:=zb (h2 v hv)
  simp only[hp,decide_true,if_true,top_wrap _ _ hrl,top_idx,Option.bind_some,hT]
  by_cases hke:k=(TT f v).length
  ·-- it is left
   subst hke
   have ha:app (embN w) [(v:Int)]=some (embN (w++[v])):=by rw[yt (by simp[embN];omega)];simp[embN]
   simp only[decide_true,if_true,top_cut,Option.bind_some,ha]
   have hvw:v∉w:=by
    intro h
    exact(List.nodup_append.1 hI.nd).2.2 v h v (by simp) rfl
   have hnd:((w++[v])++rho.map (·.1)).Nodup:=by
    have h1:=hI.nd
    rw[List.map_append] at h1
    refine(List.Perm.nodup_iff ?_).1 h1
    rw[List.append_assoc]
    exact List.Perm.append_left w List.perm_append_comm
   have hseen: ∀j,j<f.blocks.length→(bH s j=true↔j∈w++[v]∨j∈rho.map (·.1)):=by
    intro j hj
    rw[hI.seen j hj]
    simp only[List.map_append,List.mem_append,List.map_cons,List.map_nil,List.mem_singleton]
    constructor
    ·rintro(h|h|h)
     ·exact .inl (.inl h)
     ·exact .inr h
     ·exact .inl (.inr h)
    ·rintro((h|h)|h)
     ·exact .inl h
     ·exact .inr (.inr h)
     ·exact .inr (.inl h)
   have hcv: ∀c,EE f v c→bH s c=true:=by
    intro c hc
    obtain⟨z,hz⟩:=List.getElem?_of_mem hc
    exact hI.cnt (v,_) (by simp) z (List.getElem?_eq_some_iff.1 hz).1 c hz
   refine⟨w++[v],rho,s,rfl,⟨hI.V,fun p hp=>hI.lt p (by simp[hp]),?_,hnd,hseen,fun p hp=>hI.cnt p (by simp[hp]),?_,?_,?_,?_,?_,hI.rch⟩,?_⟩
   ·intro x hx
    rcases List.mem_append.1 hx with hx|hx
    ·exact hI.wlt x hx
    ·rw[List.mem_singleton.1 hx];exact hv
   ·intro i p q hp hq
    have hp1:=(List.getElem?_eq_some_iff.1 hp).1
    have hq1:=(List.getElem?_eq_some_iff.1 hq).1
    exact hI.edge i p q (by rw[List.getElem?_append_left hp1];exact hp) (by rw[List.getElem?_append_left hq1];exact hq)
   ·rcases List.eq_nil_or_concat rho with rfl|⟨rho',p',rfl⟩
    ·right
     refine⟨rfl,?_⟩
     rcases hI.bot with ⟨p,h1,h2⟩|⟨h1,_⟩
     ·simp at h1
      subst h1
      simp at h2
      subst h2
      simp
     ·simp at h1
    ·left
     rcases hI.bot with ⟨p,h1,h2⟩|⟨h1,_⟩
     ·refine⟨p,?_,h2⟩
      rw[List.getElem?_append_left (by simp)] at h1
      exact h1
     ·simp at h1
   ·intro x hx
    rcases List.mem_append.1 hx with hx|hx
    ·rcases hI.par x hx with h|⟨p,hE,h⟩
     ·exact .inl h
     ·refine .inr ⟨p,hE,?_⟩
      rcases h with h|h
      ·simp only[List.map_append,List.mem_append,List.map_cons,List.map_nil,List.mem_singleton] at h
       rcases h with h|h
       ·exact .inl h
       ·rw[h];exact .inr (Bef.last hx)
      ·exact .inr h.snoc
    ·rw[List.mem_singleton.1 hx]
     rcases List.eq_nil_or_concat rho with rfl|⟨rho',p',e9⟩
     ·left
      rcases hI.bot with ⟨p,h1,h2⟩|⟨h1,_⟩
      ·simp at h1
       subst h1
       exact h2
      ·simp at h1
     ·right
      rw[List.concat_eq_append] at e9
      subst e9
      refine⟨p'.1,hI.edge rho'.length p' (v,(TT f v).length) (by simp) (by simp),.inl (by simp)⟩
   ·intro x hx c hc
    rcases List.mem_append.1 hx with hx|hx
    ·exact(hI.ed x hx c hc).imp (fun h=>h.snoc) id
    ·rw[List.mem_singleton.1 hx] at hc ⊢
     rcases (hI.seen c (TT_lt hn hc)).1 (hcv c hc) with h|h
     ·exact .inl (Bef.last h)
     ·right
      obtain⟨q,hq,rfl⟩:=List.mem_map.1 h
      obtain⟨i,hi⟩:=List.getElem?_of_mem hq
      have hil:=(List.getElem?_eq_some_iff.1 hi).1
      have hl2:i+(rho.length-i)=rho.length:=by simp at hil;omega
      exact hI.path (rho.length-i) i q (v,(TT f v).length) hi (by rw[hl2];simp)
   ·intro x hx c hc
    rcases List.mem_append.1 hx with hx|hx
    ·exact hI.cl x hx c hc
    ·rw[List.mem_singleton.1 hx] at hc
     exact hcv c hc
   ·show cS _ _ _+((rho.map emb).map _).sum<cS _ _ _+((rho.map emb++[_]).map _).sum
    rw[zzH]
    simp
  ·have hkl:k<(TT f v).length:=by omega
   obtain⟨r,hr⟩:=getAt hkl
   obtain⟨hr0,hr1⟩:=TT_in hn (List.mem_of_getElem? hr)
   obtain⟨c,rfl⟩:=Int.eq_ofNat_of_zero_le hr0
   have hc:c<f.blocks.length:=by omega
   have hE:EE f v c:=List.mem_of_getElem? hr
   have hne: ¬((k:Int)=((TT f v).length:Int)):=by omega
   have hlen:=TT_len hn v
   simp only[hne,decide_false,Bool.false_eq_true,if_false,top_set,zb hr,Option.bind_some,wrap1 (show k≤4294967296 by omega)]
   unfold pz2f
   have hmp:(rho++[(v,k)]).map (·.1)=(rho++[(v,k+1)]).map (·.1):=by simp
   have emb1:rho.map emb++[(⟨(v:Int),((k+1:Nat):Int)⟩:A2 Int)]=(rho++[(v,k+1)]).map emb:=by simp[emb]
   rcases zzv hI.V (by omega) fuel (c:Int) with ⟨k1,k2⟩|⟨c',s',e,hc',hb,k1,k3,k4⟩
   ·have hbc:=k2 c rfl hc
    simp only[k1,Option.bind_some,Bool.false_eq_true,if_false]
    refine⟨w,rho++[(v,k+1)],s,by rw[←emb1],⟨hI.V,?_,hI.wlt,by rw[←hmp];exact hI.nd,fun j hj=>by rw[←hmp];exact hI.seen j hj,?_,?_,?_,?_,hI.ed,hI.cl,hI.rch⟩,?_⟩
    ·intro p hp
     rcases List.mem_append.1 hp with hp|hp
     ·exact hI.lt p (by simp[hp])
     ·rw[List.mem_singleton.1 hp];exact⟨hv,by simp;omega⟩
    ·intro p hp z hz c' hc'
     rcases List.mem_append.1 hp with hp|hp
     ·exact hI.cnt p (by simp[hp]) z hz c' hc'
     ·rw[List.mem_singleton.1 hp] at hz hc'
      simp only at hz hc'
      by_cases e:z=k
      ·subst e;rw[hr] at hc';have:=Option.some.inj hc'
       have:c=c':=by omega
       subst this;exact hbc
      ·exact hI.cnt (v,k) (by simp) z (by simp only;omega) c' hc'
    ·intro i p q hp hq
     have hq1:=(List.getElem?_eq_some_iff.1 hq).1
     have key: ∀(j:Nat) (x:Nat×Nat),(rho++[(v,k+1)])[j]?=some x→ ∃y,(rho++[(v,k)])[j]?=some y∧y.1=x.1:=by
      intro j x hx
      by_cases hj:j<rho.length
      ·rw[List.getElem?_append_left hj] at hx;exact⟨x,by rw[List.getElem?_append_left hj];exact hx,rfl⟩
      ·have hj2:=(List.getElem?_eq_some_iff.1 hx).1
       have:j=rho.length:=by simp at hj2;omega
       subst this
       simp at hx;subst hx
       exact⟨(v,k),by simp,rfl⟩
     obtain⟨p',h1,e1⟩:=key i p hp
     obtain⟨q',h2,e2⟩:=key (i+1) q hq
     rw[←e1,←e2];exact hI.edge i p' q' h1 h2
    ·rcases hI.bot with ⟨p,h1,h2⟩|⟨h1,_⟩
     ·left
      by_cases hr0:rho=[]
      ·subst hr0;simp at h1;subst h1;exact⟨(v,k+1),by simp,h2⟩
      ·have hpos:0<rho.length:=List.length_pos_iff.2 hr0
       rw[List.getElem?_append_left hpos] at h1
       exact⟨p,by rw[List.getElem?_append_left hpos];exact h1,h2⟩
     ·simp at h1
    ·intro x hx
     rw[←hmp];exact hI.par x hx
    ·show cS _ _ _+(((rho++[(v,k+1)]).map emb).map _).sum<cS _ _ _+((rho.map emb++[_]).map _).sum
     rw[←emb1,zzH,zzH]
     simp
     omega
   ·have:c'=c:=by omega
    subst this
    have happ:app (rho.map emb++[(⟨(v:Int),((k+1:Nat):Int)⟩:A2 Int)]) [(⟨(c':Int),0⟩:A2 Int)]=some ((rho++[(v,k+1)]++[(c',0)]).map emb):=by
     rw[yt (by simp;simp at hrl;omega)];simp[emb]
    simp only[k1,Option.bind_some,if_true,happ]
    have hup: ∀j,bH s j=true→bH s' j=true:=fun j h=>by rw[k4 j,h];rfl
    have hcs:bH s' c'=true:=by rw[k4];simp
    have hcn:c'∉w∧c'∉(rho++[(v,k+1)]).map (·.1):=by
     have:=hI.seen c' hc
     rw[hb] at this
     constructor
     ·intro h;exact absurd (this.2 (.inl h)) (by simp)
     ·intro h;rw[←hmp] at h;exact absurd (this.2 (.inr h)) (by simp)
    refine⟨w,rho++[(v,k+1)]++[(c',0)],s',rfl,⟨k3,?_,hI.wlt,?_,?_,?_,?_,?_,?_,hI.ed,fun x hx c hc=>hup c (hI.cl x hx c hc),?_⟩,?_⟩
    ·intro p hp
     rcases List.mem_append.1 hp with hp|hp
     ·rcases List.mem_append.1 hp with hp|hp
      ·exact hI.lt p (by simp[hp])
      ·rw[List.mem_singleton.1 hp];exact⟨hv,by simp;omega⟩
     ·rw[List.mem_singleton.1 hp];exact⟨hc,by simp⟩
    ·rw[List.map_append,←hmp,←List.append_assoc]
     refine List.nodup_append.2 ⟨hI.nd,by simp,?_⟩
     intro a ha b hb2 e9
     rw[List.mem_singleton.1 hb2] at e9
     subst e9
     rcases List.mem_append.1 ha with h|h
     ·exact hcn.1 h
     ·exact hcn.2 (by rw[←hmp];exact h)
    ·intro j hj
     have key:(rho++[(v,k+1)]++[(c',0)]).map (fun p:Nat×Nat=>p.1)=(rho++[(v,k)]).map (fun p:Nat×Nat=>p.1)++[c']:=by simp
     rw[k4 j,Bool.or_eq_true,hI.seen j hj,key]
     simp only[List.mem_append,List.map_cons,List.map_nil,List.mem_singleton,decide_eq_true_eq]
     constructor
     ·rintro((h|h)|h)
      ·exact .inl h
      ·exact .inr (.inl h)
      ·exact .inr (.inr h)
     ·rintro(h|h|h)
      ·exact .inl (.inl h)
      ·exact .inl (.inr h)
      ·exact .inr h
    ·intro p hp z hz c2 hc2
     rcases List.mem_append.1 hp with hp|hp
     ·rcases List.mem_append.1 hp with hp|hp
      ·exact hup _ (hI.cnt p (by simp[hp]) z hz c2 hc2)
      ·rw[List.mem_singleton.1 hp] at hz hc2
       simp only at hz hc2
       by_cases e:z=k
       ·subst e;rw[hr] at hc2;have:=Option.some.inj hc2
        have:c'=c2:=by omega
        subst this;exact hcs
       ·exact hup _ (hI.cnt (v,k) (by simp) z (by simp only;omega) c2 hc2)
     ·rw[List.mem_singleton.1 hp] at hz;simp at hz
    ·intro i p q hp hq
     have key: ∀(j:Nat) (x:Nat×Nat),j<rho.length+1→(rho++[(v,k+1)]++[(c',0)])[j]?=some x→ ∃y,(rho++[(v,k)])[j]?=some y∧y.1=x.1:=by
      intro j x hj hx
      rw[List.getElem?_append_left (by simp;omega)] at hx
      by_cases hj:j<rho.length
      ·rw[List.getElem?_append_left hj] at hx;exact⟨x,by rw[List.getElem?_append_left hj];exact hx,rfl⟩
      ·have:j=rho.length:=by omega
       subst this
       simp at hx;subst hx
       exact⟨(v,k),by simp,rfl⟩
     have hq1:=(List.getElem?_eq_some_iff.1 hq).1
     by_cases hil:i+1<rho.length+1
     ·obtain⟨p',h1,e1⟩:=key i p (by omega) hp
      obtain⟨q',h2,e2⟩:=key (i+1) q hil hq
      rw[←e1,←e2];exact hI.edge i p' q' h1 h2
     ·have:i=rho.length:=by simp at hq1;omega
      subst this
      have e1:p=(v,k+1):=by simpa using hp.symm
      have e2:q=(c',0):=by
       rw[List.getElem?_append_right (by simp)] at hq
       simpa using hq.symm
      subst e1;subst e2
      exact hE
    ·rcases hI.bot with ⟨p,h1,h2⟩|⟨h1,_⟩
     ·left
      by_cases hr0:rho=[]
      ·subst hr0;simp at h1;subst h1;exact⟨(v,k+1),by simp,h2⟩
      ·have hpos:0<rho.length:=List.length_pos_iff.2 hr0
       rw[List.getElem?_append_left hpos] at h1
       exact⟨p,by rw[List.append_assoc,List.getElem?_append_left hpos];exact h1,h2⟩
     ·simp at h1
    ·intro x hx
     rcases hI.par x hx with h|⟨p,hE',h⟩
     ·exact .inl h
     ·refine .inr ⟨p,hE',h.imp (fun h=>?_) id⟩
      rw[List.map_append,←hmp]
      exact List.mem_append_left _ h
    ·intro j hj hbj
     rw[k4 j,Bool.or_eq_true] at hbj
     rcases hbj with h|h
     ·exact hI.rch j hj h
     ·have:j=c':=by simpa using h
      subst this
      refine(hI.rch v hv ?_).snoc' hE
      exact(hI.seen v hv).2 (.inr (by simp))
    ·have hcs2:=cS_add (w:=fun j=>(TT f j).length+2) hb k4 f.blocks.length hc
     show cS _ _ _+(((rho++[(v,k+1)]++[(c',0)]).map emb).map _).sum<cS _ _ _+((rho.map emb++[_]).map _).sum
     have e3:(rho++[(v,k+1)]++[(c',0)]).map emb=(rho.map emb++[(⟨(v:Int),((k+1:Nat):Int)⟩:A2 Int)])++[(⟨(c':Int),0⟩:A2 Int)]:=by simp[emb]
     rw[e3,zzH,zzH,zzH]
     simp at hcs2 ⊢
     omega
structure Post (f:Fnc) (w:List Nat):Prop where
 nd:w.Nodup
 mem: ∀j,j∈w↔PT f 0 j
 last:w.getLast?=some 0
 par: ∀v∈w,v=0∨ ∃p,EE f p v∧Bef w v p
 ed: ∀v∈w,∀c,EE f v c→Bef w c v∨PT f c v
include hn h2 in
theorem post_ok(hg:g.succ.length=f.blocks.length)(hf:17592186044416<fuel)(h0:0<f.blocks.length): ∃w,pz2h fuel g=some (embN w)∧Post f w:=by
 have hn1:=hn.1
 obtain⟨s0,e0,hV0,hB0⟩:=new_ok (n:=f.blocks.length) (by omega) fuel
 rcases zzv hV0 (by omega) fuel 0 with ⟨_,k2⟩|⟨k,s1,k1,_,k3,k4,k5,k6⟩
 ·have:=k2 0 rfl h0
  rw[hB0] at this;cases this
 ·have:k=0:=by omega
  subst this
  have hI0:PInv f [] [(0,0)] s1:=by
   refine⟨k5,?_,by simp,by simp,?_,?_,?_,.inl ⟨(0,0),rfl,rfl⟩,by simp,by simp,by simp,?_⟩
   ·intro p hp;rw[List.mem_singleton.1 hp];exact⟨h0,by simp⟩
   ·intro j hj;rw[k6 j,hB0 j];simp
   ·intro p hp z hz;rw[List.mem_singleton.1 hp] at hz;simp at hz
   ·intro i p q hp hq
    have:=(List.getElem?_eq_some_iff.1 hq).1
    simp at this
   ·intro j hj h
    rw[k6 j,hB0 j] at h
    have:j=0:=by simpa using h
    subst this;exact PT.refl _ _
  unfold pz2h pz2a pz2f
  have ha:app [] [(⟨0,0⟩:A2 Int)]=some ([(0,0)].map emb):=by rw[yt (by simp)];rfl
  simp only[hg,Option.bind_some,e0,k4,if_true,ha]
  refine Or.elim (zr (fun q:List Int×List (A2 Int)×zG=> ∃w st,q.1=embN w∧q.2.1=st.map emb∧PInv f w st q.2.2) (fun q=> ∃w s,q=(embN w,[],s)∧PInv f w [] s) (fun _:List Int=>False) (pm f)
   (fun s=>pz2g fuel g s.1 s.2.1 s.2.2) ?_ fuel ([],[(0,0)].map emb,s1) ⟨[],[(0,0)],rfl,rfl,hI0⟩ ?_) ?_ ?_
  rotate_right
  ·rintro⟨v,_,h⟩;exact h.elim
  ·rintro⟨w,st,s⟩ ⟨w',st',rfl,rfl,hI⟩
   rcases post_step hn h2 (fuel:=fuel) hI with ⟨w1,st1,s1,h1,h3,h4⟩|⟨rfl,h1⟩
   ·exact .inl ⟨_,h1,⟨w1,st1,rfl,rfl,h3⟩,h4⟩
   ·exact .inr (.inl ⟨_,h1,w',s,rfl,hI⟩)
  ·have hw: ∀j,(TT f j).length+2≤1048578:=fun j=>by have:=TT_len hn j;omega
   have h3:=cS_le (h:=bH s1) hw f.blocks.length
   have h4:=TT_len hn 0
   show cS _ _ _+_<fuel
   simp[emb]
   have:f.blocks.length*1048578≤1048576*1048578:=Nat.mul_le_mul_right _ hn1
   omega
  ·rintro⟨q,h1,w,s,rfl,hI⟩
   rw[h1]
   refine⟨w,rfl,by simpa using hI.nd,?_,?_,?_,hI.ed⟩
   ·intro j
    constructor
    ·intro h
     exact hI.rch j (hI.wlt j h) ((hI.seen j (hI.wlt j h)).2 (.inl h))
    ·intro h
     refine Path.closed (C:=fun j=>j∈w) ?_ h ?_
     ·intro a b ha hE _
      have hbl:=TT_lt hn hE
      have:=(hI.seen b hbl).1 (hI.cl a ha b hE)
      simpa using this
     ·rcases hI.bot with ⟨p,h1,_⟩|⟨_,h1⟩
      ·simp at h1
      ·exact List.mem_of_getLast? h1
   ·rcases hI.bot with ⟨p,h1,_⟩|⟨_,h1⟩
    ·simp at h1
    ·exact h1
   ·intro v hv
    rcases hI.par v hv with h|⟨p,hE,h⟩
    ·exact .inl h
    ·refine .inr ⟨p,hE,?_⟩
     simpa using h
include hn h2 in
theorem order_ok(hg:g.succ.length=f.blocks.length)(hf:17592186044416<fuel)(h0:0<f.blocks.length): ∃w,pz2k fuel g=some (embN w.reverse)∧Post f w∧w.length≤f.blocks.length:=by
 have hn1:=hn.1
 obtain⟨w,h1,h3⟩:=post_ok hn h2 hg hf h0
 have hwl:w.length≤f.blocks.length:=kX _ w h3.nd fun x hx=>by
  have:=(h3.mem x).1 hx
  cases this with
  |one _=>exact h0
  |step a b c=>
   have h5: ∀{a b:Nat},PT f a b→a<f.blocks.length→b<f.blocks.length:=by
    intro a b h ha
    exact Path.closed (C:=fun j=>j<f.blocks.length) (fun a b _ hE _=>TT_lt hn hE) h ha
   exact h5 (a:=0) (.step a b c) h0
 refine⟨w,?_,h3,hwl⟩
 unfold pz2k pz2a
 have c0: ¬((f.blocks.length:Int)=0):=by omega
 have hr:=reverse_ok (l:=embN w) (by simp[embN];omega) (fuel:=fuel) (by omega)
 simp only[hg,Option.bind_some,c0,decide_false,Bool.false_eq_true,if_false,h1,hr]
 simp[embN]
include hn in
theorem gsucc_ok(hg:g.succ.length=f.blocks.length)(h2: ∀j:Nat,j<f.blocks.length→g.succ[j]?=some (TT f j)){x:Nat}(hx:x<f.blocks.length):pz37 fuel g x=some (TT f x):=by
 have hn1:=hn.1
 have hl:=TT_len hn x
 have ha:app [] (TT f x)=some (TT f x):=by rw[yt (by simp;omega)];rfl
 have c1: ¬((x:Int)<0):=by omega
 have c2: ¬((f.blocks.length:Int)≤(x:Int)):=by omega
 simp[pz37,pz36,pz2a,pz35,ix2,A2.at,zb (h2 x hx),ha,hg,c1,c2]
end post
end Go.Proofs.YtmogcnnhbmaffaaGreat.PL
set_option linter.unusedVariables false
set_option linter.unusedSimpArgs false
namespace Go.Proofs.YtmogcnnhbmaffaaGreat.PL
open Go
def mkM(n k:Nat):Nat:=if n<64*k+64 then 2^(n-64*k)-1 else 18446744073709551615
theorem mkM_lt(n k:Nat):mkM n k<18446744073709551616:=by
 unfold mkM
 split
 ·have h2:2^(n-64*k)<2^64:=Nat.pow_lt_pow_right (by decide) (by omega)
  have:(2:Nat)^64=18446744073709551616:=by decide
  omega
 ·omega
theorem mkM_bit(n k i:Nat)(hi:i<64):(mkM n k).testBit i=decide (64*k+i<n):=by
 unfold mkM
 split
 ·rw[Nat.testBit_two_pow_sub_one]
  simp only[decide_eq_decide];omega
 ·rw[show(18446744073709551615:Nat)=2^64-1 by decide,Nat.testBit_two_pow_sub_one]
  simp only[decide_eq_decide];omega
theorem mask_ok{s:zG}{n:Nat}(hs:s.n=(n:Int))(hn:n≤4294967296){k:Nat}(hk:k<(n+63)/64)(fuel:Nat):
  pz39 fuel s (k:Int)=some ((mkM n k:Nat):Int):=by
 unfold pz39
 rw[hs,yJ (x:=(k:Int)*64) (by omega) (by omega),yJ (x:=(n:Int)-(k:Int)*64) (by omega) (by omega)]
 unfold mkM
 by_cases c:n<64*k+64
 ·have hl:(n:Int)-(k:Int)*64=((n-64*k:Nat):Int):=by omega
  have hlt:n-64*k<64:=by omega
  have h2:2^(n-64*k)<2^64:=Nat.pow_lt_pow_right (by decide) hlt
  have h1:0<2^(n-64*k):=Nat.pow_pos (by decide)
  have h64:(2:Nat)^64=18446744073709551616:=by decide
  rw[hl,if_pos (by simp;omega),shl_one hlt,if_pos c]
  simp only[Option.bind_some]
  congr 1
  generalize 2^(n-64*k)=p at h1 h2
  rw[show((p:Nat):Int)-1=((p-1:Nat):Int) by omega]
  exact wrapu (by omega)
 ·rw[if_neg (by simp;omega),if_neg c];rfl
def nw(s o:zG)(n i:Nat):Nat:=((s.words[i]?.getD 0).toNat&&&(o.words[i]?.getD 0).toNat)&&&mkM n i
theorem nw_lt(s o:zG)(n i:Nat):nw s o n i<18446744073709551616:=Nat.and_lt_two_pow (n:=64) _ (mkM_lt n i)
theorem and_ok{s o:zG}{n:Nat}(hV:bV s n)(hO:bV o n)(hn:n≤4294967296){fuel:Nat}(hf:n+1<fuel):
  ∃b s',pz3e fuel s o=some (b,s')∧bV s' n∧(∀j,bH s' j=(bH s j&&bH o j&&decide (j<n)))∧(b=true→ ∃j,j<64*((n+63)/64)∧bH s' j≠bH s j)∧(b=false→s'=s):=by
 unfold pz3e pz3d
 have hL:=hV.2.1
 have hM:=hO.2.1
 have key:=zr (ρ:=Bool×zG) (fun q:List Int×Int×Bool=> ∃k:Nat,q.2.1=k∧k≤(n+63)/64∧q.1.length=(n+63)/64∧(∀i,q.1[i]?=if i<k then some (nw s o n i:Int) else s.words[i]?)∧(q.2.2=true↔ ∃i,i<k∧some (nw s o n i:Int)≠s.words[i]?))
  (fun q=>q.1.length=(n+63)/64∧(∀i,i<(n+63)/64→q.1[i]?=some (nw s o n i:Int))∧(q.2.2=true↔ ∃i,i<(n+63)/64∧some (nw s o n i:Int)≠s.words[i]?)) (fun _=>False) (fun q=>(n+63)/64-q.2.1.toNat)
  (fun q=>pz3c fuel s o q.1 q.2.1 q.2.2) (by
   rintro⟨c,x,ch⟩ ⟨k,hx,hk,hlen,hc,hch⟩
   simp only at hx hlen hc hch
   subst hx
   show(∃s',pz3c fuel s o c (k:Int) ch=some (.n s')∧_)∨(∃s',pz3c fuel s o c (k:Int) ch=some (.b s')∧_)∨_
   unfold pz3c
   rw[hL,hM]
   by_cases h:k<(n+63)/64
   ·left
    have hlt:(k:Int)<(((n+63)/64:Nat):Int):=by omega
    obtain⟨w,hw⟩:=getAt (xs:=s.words) (i:=k) (by omega)
    obtain⟨w0,w1⟩:=hV.2.2 w (List.mem_of_getElem? hw)
    obtain⟨a,rfl⟩:=Int.eq_ofNat_of_zero_le w0
    obtain⟨v,hv⟩:=getAt (xs:=o.words) (i:=k) (by omega)
    obtain⟨v0,v1⟩:=hO.2.2 v (List.mem_of_getElem? hv)
    obtain⟨b,rfl⟩:=Int.eq_ofNat_of_zero_le v0
    have ha:a<18446744073709551616:=by omega
    have hb:b<18446744073709551616:=by omega
    have hck:c[k]?=some (a:Int):=by rw[hc k,if_neg (by omega),hw]
    have hab:a&&&b<18446744073709551616:=Nat.and_lt_two_pow (n:=64) a hb
    have hnw:nw s o n k=a&&&b&&&mkM n k:=by simp[nw,hw,hv]
    have e1:=band_nat ha hb
    have e2:=band_nat hab (mkM_lt n k)
    rw[←hnw] at e2
    have hset:setI c (k:Int) ((nw s o n k:Nat):Int)=some (c.set k ((nw s o n k:Nat):Int)):=yv (by omega)
    simp only[hlt,decide_true,if_true,zb hck,Option.bind_some,zb hv,pz38,mask_ok (s:=⟨s.n,c⟩) hV.1 hn h fuel,e1,e2,hset]
    refine⟨_,rfl,⟨k+1,wrap1 (by omega),by omega,by simp;omega,?_,?_⟩,?_⟩
    ·intro i
     show(c.set k ((nw s o n k:Nat):Int))[i]?=_
     by_cases e:i=k
     ·subst e;rw[List.getElem?_set_self (by omega),if_pos (by omega)]
     ·rw[List.getElem?_set_ne (by omega),hc i]
      by_cases e2:i<k
      ·rw[if_pos e2,if_pos (by omega)]
      ·rw[if_neg e2,if_neg (by omega)]
    ·show(ch||decide (((nw s o n k:Nat):Int)≠(a:Int)))=true↔_
     rw[Bool.or_eq_true,hch,decide_eq_true_eq]
     constructor
     ·rintro(⟨i,h1,h2⟩|h1)
      ·exact⟨i,by omega,h2⟩
      ·exact⟨k,by omega,by rw[hw];simpa using h1⟩
     ·rintro⟨i,h1,h2⟩
      by_cases e:i=k
      ·subst e;rw[hw] at h2;exact .inr (by simpa using h2)
      ·exact .inl ⟨i,by omega,h2⟩
    ·show(n+63)/64-(IntKind.i64.wrap ((k:Int)+1)).toNat<(n+63)/64-((k:Int)).toNat
     rw[wrap1 (by omega)];omega
   ·right;left
    have hlt: ¬(k:Int)<(((n+63)/64:Nat):Int):=by omega
    simp only[hlt,decide_false,Bool.false_eq_true,if_false]
    have hkL:k=(n+63)/64:=by omega
    refine⟨_,rfl,hlen,fun i hi=>?_,?_⟩
    ·show c[i]?=_
     rw[hc i,if_pos (by omega)]
    ·show ch=true↔_
     rw[hch,hkL]) fuel (s.words,0,false) ⟨0,rfl,by omega,hL,fun i=>by simp,by simp⟩ (by simp;omega)
 rcases key with ⟨⟨c,x,ch⟩,k1,k2,k3,k4⟩|⟨v,_,h⟩
 ·simp only at k2 k3 k4
  refine⟨ch,⟨s.n,c⟩,by rw[k1];rfl,⟨hV.1,k2,?_⟩,?_,?_,?_⟩
  ·intro w hw
   obtain⟨i,hi⟩:=List.getElem?_of_mem hw
   have hi':=(List.getElem?_eq_some_iff.1 hi).1
   have hi2:i<c.length:=hi'
   have h2:c[i]?=some w:=hi
   rw[k3 i (by omega)] at h2
   have:=nw_lt s o n i
   cases h2
   omega
  ·intro j
   unfold bH
   show(match c[j/64]? with|some w=>w.toNat.testBit (j%64)|none=>false)=_
   by_cases hj:j/64<(n+63)/64
   ·obtain⟨w,hw⟩:=getAt (xs:=s.words) (i:=j/64) (by omega)
    obtain⟨v,hv⟩:=getAt (xs:=o.words) (i:=j/64) (by omega)
    rw[k3 _ hj]
    simp only[hw,hv,Int.toNat_natCast]
    unfold nw
    rw[hw,hv,Nat.testBit_and,Nat.testBit_and,mkM_bit _ _ _ (by omega),show 64*(j/64)+j%64=j by omega]
    rfl
   ·rw[List.getElem?_eq_none (by omega),List.getElem?_eq_none (by omega)]
    rfl
  ·intro h
   obtain⟨i,hi,h2⟩:=k4.1 h
   obtain⟨w,hw⟩:=getAt (xs:=s.words) (i:=i) (by omega)
   obtain⟨w0,w1⟩:=hV.2.2 w (List.mem_of_getElem? hw)
   obtain⟨a,rfl⟩:=Int.eq_ofNat_of_zero_le w0
   rw[hw] at h2
   have hne:nw s o n i≠a:=by
    intro e;rw[e] at h2;exact h2 rfl
   have: ∃b,(nw s o n i).testBit b≠a.testBit b:=by
    apply Classical.byContradiction
    intro hno
    exact hne (Nat.eq_of_testBit_eq fun b=>Classical.byContradiction fun hb=>hno ⟨b,hb⟩)
   obtain⟨b,hb⟩:=this
   have hb64:b<64:=by
    apply Classical.byContradiction
    intro hge
    have h64:(18446744073709551616:Nat)≤2^b:=by
     rw[show(18446744073709551616:Nat)=2^64 by decide]
     exact Nat.pow_le_pow_right (by decide) (by omega)
    have:=nw_lt s o n i
    rw[Nat.testBit_lt_two_pow (by omega),Nat.testBit_lt_two_pow (by omega)] at hb
    exact hb rfl
   refine⟨64*i+b,by omega,?_⟩
   unfold bH
   show(match c[(64*i+b)/64]? with|some w=>w.toNat.testBit ((64*i+b)%64)|none=>false)≠_
   rw[show(64*i+b)/64=i by omega,show(64*i+b)%64=b by omega,k3 i hi,hw]
   simpa using hb
  ·intro h
   have:c=s.words:=by
    apply List.ext_getElem?
    intro i
    by_cases hi:i<(n+63)/64
    ·rw[k3 i hi]
     apply Classical.byContradiction
     intro hne
     have:=k4.2 ⟨i,hi,hne⟩
     rw[h] at this;cases this
    ·rw[List.getElem?_eq_none (by omega),List.getElem?_eq_none (by omega)]
   rw[this]
 ·exact h.elim
theorem copy_ok{s:zG}{n:Nat}(hV:bV s n)(hn:n≤4294967296)(fuel:Nat):pz33 fuel s=some s:=by
 unfold pz33 pz30
 rw[yt (by have:=hV.2.1;simp;omega)]
 rfl
theorem full_ok{n:Nat}(hn:n≤4294967){fuel:Nat}(hf:n+1<fuel): ∃s,pz2z fuel (n:Int)=some s∧bV s n∧ ∀j,bH s j=decide (j<n):=by
 unfold pz2z
 obtain⟨s0,h1,h2,h3⟩:=new_ok (n:=n) (by omega) fuel
 rw[h1]
 simp only[Option.bind_some]
 have key:=zr (ρ:=zG) (fun q:Int×zG=> ∃k:Nat,q.1=k∧k≤n∧bV q.2 n∧ ∀j,bH q.2 j=decide (j<k)) (fun q=>bV q.2 n∧ ∀j,bH q.2 j=decide (j<n)) (fun _=>False) (fun q=>n-q.1.toNat)
  (fun q=>pz2y fuel s0 q.1 q.2) (by
   rintro⟨x,s⟩ ⟨k,hx,hk,hv,hb⟩
   simp only at hx hv hb
   subst hx
   show(∃s',pz2y fuel s0 (k:Int) s=some (.n s')∧_)∨(∃s',pz2y fuel s0 (k:Int) s=some (.b s')∧_)∨_
   unfold pz2y
   rw[h2.1]
   by_cases h:k<n
   ·left
    have hlt:(k:Int)<(n:Int):=by omega
    rcases zzv hv (by omega) fuel (k:Int) with ⟨e,hno⟩|⟨k',s',e0,hk',hf',e,hv',hb'⟩
    ·have:=hno k rfl h
     rw[hb k] at this
     simp at this
    ·have:k'=k:=by omega
     subst this
     simp only[hlt,decide_true,if_true,e,Option.bind_some]
     refine⟨_,rfl,⟨k'+1,wrap1 (by omega),by omega,hv',fun j=>?_⟩,?_⟩
     ·show bH s' j=_
      rw[hb' j,hb j]
      by_cases c1:j<k'<;>by_cases c2:j=k'<;>simp[c1,c2]<;>omega
     ·show n-(IntKind.i64.wrap ((k':Int)+1)).toNat<n-((k':Int)).toNat
      rw[wrap1 (by omega)];omega
   ·right;left
    have hlt: ¬(k:Int)<(n:Int):=by omega
    simp only[hlt,decide_false,Bool.false_eq_true,if_false]
    have:k=n:=by omega
    subst this
    exact⟨_,rfl,hv,hb⟩) fuel (0,s0) ⟨0,rfl,by omega,h2,fun j=>by rw[h3 j];simp⟩ (by simp;omega)
 rcases key with ⟨⟨x,s⟩,k1,k2,k3⟩|⟨v,_,h⟩
 ·exact⟨s,by rw[k1];rfl,k2,k3⟩
 ·exact h.elim
theorem of_ok{n:Nat}(hn:n≤4294967){l:List Int}(hl:l.length≤4294967){fuel:Nat}(hf:l.length+1<fuel): ∃s,pz2m fuel (n:Int) l=some s∧bV s n∧ ∀j,bH s j=(decide (j<n)&&decide ((j:Int)∈l)):=by
 unfold pz2m
 obtain⟨s0,h1,h2,h3⟩:=new_ok (n:=n) (by omega) fuel
 rw[h1]
 simp only[Option.bind_some]
 have key:=zr (ρ:=zG) (fun q:Int×zG=> ∃k:Nat,q.1=k∧k≤l.length∧bV q.2 n∧ ∀j,bH q.2 j=(decide (j<n)&&decide ((j:Int)∈l.take k))) (fun q=>bV q.2 n∧ ∀j,bH q.2 j=(decide (j<n)&&decide ((j:Int)∈l))) (fun _=>False) (fun q=>l.length-q.1.toNat)
  (fun q=>pz2l fuel l q.1 q.2) (by
   rintro⟨x,s⟩ ⟨k,hx,hk,hv,hb⟩
   simp only at hx hv hb
   subst hx
   show(∃s',pz2l fuel l (k:Int) s=some (.n s')∧_)∨(∃s',pz2l fuel l (k:Int) s=some (.b s')∧_)∨_
   unfold pz2l
   by_cases h:k<l.length
   ·left
    have hlt:(k:Int)<(l.length:Int):=by omega
    obtain⟨z,hz⟩:=getAt (xs:=l) (i:=k) h
    have htk: ∀j:Nat,((j:Int)∈l.take (k+1))↔((j:Int)∈l.take k∨(j:Int)=z):=by
     intro j
     rw[List.take_add_one,hz]
     simp
    have hm:l.length-(IntKind.i64.wrap ((k:Int)+1)).toNat<l.length-((k:Int)).toNat:=by rw[wrap1 (by omega)];omega
    rcases zzv hv (by omega) fuel z with ⟨e,hno⟩|⟨k',s',e0,hk',hf',e,hv',hb'⟩
    ·simp only[hlt,decide_true,if_true,zb hz,e,Option.bind_some]
     refine⟨_,rfl,⟨k+1,wrap1 (by omega),by omega,hv,fun j=>?_⟩,hm⟩
     show bH s j=_
     by_cases c:(j:Int)=z
     ·by_cases c2:j<n
      ·rw[hno j c.symm c2,decide_eq_true c2,decide_eq_true ((htk j).2 (.inr c))];rfl
      ·rw[hb j];simp[c2]
     ·rw[hb j];simp[htk,c]
    ·subst e0
     simp only[hlt,decide_true,if_true,zb hz,e,Option.bind_some]
     refine⟨_,rfl,⟨k+1,wrap1 (by omega),by omega,hv',fun j=>?_⟩,hm⟩
     show bH s' j=_
     rw[hb' j,hb j]
     by_cases c2:j=k'
     ·subst c2;simp[hk',htk]
     ·have:(j:Int)≠(k':Int):=by omega
      simp[c2,htk,this]
   ·right;left
    have hlt: ¬(k:Int)<(l.length:Int):=by omega
    simp only[hlt,decide_false,Bool.false_eq_true,if_false]
    refine⟨_,rfl,hv,fun j=>?_⟩
    show bH s j=_
    rw[hb j,List.take_of_length_le (by omega)]) fuel (0,s0) ⟨0,rfl,by omega,h2,fun j=>by rw[h3 j];simp⟩ (by simp;omega)
 rcases key with ⟨⟨x,s⟩,k1,k2,k3⟩|⟨v,_,h⟩
 ·exact⟨s,by rw[k1];rfl,k2,k3⟩
 ·exact h.elim
end Go.Proofs.YtmogcnnhbmaffaaGreat.PL
set_option linter.unusedVariables false
set_option linter.unusedSimpArgs false
namespace Go.Proofs.YtmogcnnhbmaffaaGreat.PL
open Go
theorem less_ok(fuel:Nat)(x y:Int):pz2t fuel x y=some (decide (x<y)):=by
 simp[pz2t,pz2s]
abbrev Rise(l:List Int):Prop:=l.Pairwise (· < ·)
theorem Rise.lt{l:List Int}(h:Rise l){i j:Nat}{x y:Int}(hi:l[i]?=some x)(hj:l[j]?=some y)(hij:i<j):x<y:=by
 obtain⟨h1,e1⟩:=List.getElem?_eq_some_iff.1 hi
 obtain⟨h2,e2⟩:=List.getElem?_eq_some_iff.1 hj
 rw[←e1,←e2]
 exact List.pairwise_iff_getElem.1 h i j h1 h2 hij
theorem half_ok{i j:Nat}(hi:i≤4294967)(hj:j≤4294967):shr .u64 (IntKind.wrap .u64 (IntKind.wrap .i64 ((i:Int)+(j:Int)))) 1=some (((i+j)/2:Nat):Int):=by
 rw[yJ (by omega) (by omega),show(i:Int)+(j:Int)=((i+j:Nat):Int) by omega,wrapu (by omega)]
 have:=shr_nat (a:=i+j) (k:=1) (by omega)
 simpa using this
theorem search_ok{l:List Int}(hl:l.length≤4294967)(hr:Rise l){fuel:Nat}(hf:2*l.length+1<fuel)(v:Int):
  ∃i:Nat,pz2w fuel l v=some ((i:Int),decide (v∈l))∧i≤l.length∧(v∈l→l[i]?=some v):=by
 unfold pz2w
 have key:=zr (ρ:=Int×Bool) (fun q:Int×Int=> ∃i j:Nat,q.1=i∧q.2=j∧i≤j∧j≤l.length∧(∀k x,k<i→l[k]?=some x→x<v)∧(∀k x,j≤k→l[k]?=some x→v≤x)) (fun q=> ∃i:Nat,q.1=i∧i≤l.length∧(∀k x,k<i→l[k]?=some x→x<v)∧(∀k x,i≤k→l[k]?=some x→v≤x)) (fun _=>False) (fun q=>q.2.toNat-q.1.toNat)
  (fun q=>pz2v fuel l v q.1 q.2) (by
   rintro⟨a,b⟩ ⟨i,j,ha,hb,hij,hj,h1,h2⟩
   simp only at ha hb
   subst ha;subst hb
   show(∃s',pz2v fuel l v (i:Int) (j:Int)=some (.n s')∧_)∨(∃s',pz2v fuel l v (i:Int) (j:Int)=some (.b s')∧_)∨_
   unfold pz2v
   by_cases h:i<j
   ·left
    have hlt:(i:Int)<(j:Int):=by omega
    obtain⟨x,hx⟩:=getAt (xs:=l) (i:=(i+j)/2) (by omega)
    simp only[hlt,decide_true,if_true,half_ok (i:=i) (j:=j) (by omega) (by omega),Option.bind_some,yJ (x:=(((i+j)/2:Nat):Int)) (by omega) (by omega),zb hx,less_ok]
    by_cases c:x<v
    ·simp only[c,decide_true,if_true]
     refine⟨_,rfl,⟨(i+j)/2+1,j,wrap1 (by omega),rfl,by omega,hj,?_,h2⟩,?_⟩
     ·intro k y hk hy
      by_cases e:k=(i+j)/2
      ·subst e;rw[hx] at hy;cases hy;exact c
      ·have:=hr.lt hy hx (by omega);omega
     ·show((j:Int)).toNat-(IntKind.i64.wrap ((((i+j)/2:Nat):Int)+1)).toNat<((j:Int)).toNat-((i:Int)).toNat
      rw[wrap1 (by omega)];omega
    ·simp only[c,decide_false,Bool.false_eq_true,if_false]
     refine⟨_,rfl,⟨i,(i+j)/2,rfl,rfl,by omega,by omega,h1,?_⟩,?_⟩
     ·intro k y hk hy
      by_cases e:k=(i+j)/2
      ·subst e;rw[hx] at hy;cases hy;omega
      ·have:=hr.lt hx hy (by omega);omega
     ·show((((i+j)/2:Nat):Int)).toNat-((i:Int)).toNat<((j:Int)).toNat-((i:Int)).toNat
      omega
   ·right;left
    have hlt: ¬(i:Int)<(j:Int):=by omega
    simp only[hlt,decide_false,Bool.false_eq_true,if_false]
    have:i=j:=by omega
    subst this
    exact⟨_,rfl,i,rfl,hj,h1,h2⟩) fuel (0,(l.length:Int)) ⟨0,l.length,rfl,rfl,by omega,by omega,fun k x hk=>by omega,fun k x hk hx=>by have:=(List.getElem?_eq_some_iff.1 hx).1;omega⟩ (by simp;omega)
 rcases key with ⟨⟨a,b⟩,k1,i,ha,hi,h1,h2⟩|⟨_,_,h⟩
 ·simp only at ha
  subst ha
  rw[k1]
  have hmem:v∈l↔l[i]?=some v:=by
   constructor
   ·intro hv
    obtain⟨k,hk⟩:=List.getElem?_of_mem hv
    have hki: ¬k<i:=fun c=>by have:=h1 k v c hk;omega
    by_cases e:k=i
    ·subst e;exact hk
    ·obtain⟨y,hy⟩:=getAt (xs:=l) (i:=i) (by have:=(List.getElem?_eq_some_iff.1 hk).1;omega)
     have h3:=h2 i y (by omega) hy
     have h4:=hr.lt hy hk (by omega)
     omega
   ·exact fun h=>List.mem_of_getElem? h
  refine⟨i,?_,hi,fun hv=>hmem.1 hv⟩
  show(bindE (some (.n ((i:Int),b))) _ _)=_
  simp only[bindE]
  by_cases c:i<l.length
  ·obtain⟨y,hy⟩:=getAt (xs:=l) (i:=i) c
   have hlt:(i:Int)<(l.length:Int):=by omega
   by_cases e:y=v
   ·subst e
    have:y∈l:=hmem.2 hy
    simp[hlt,zb hy,this]
   ·have: ¬v∈l:=fun h=>e (by rw[hmem.1 h] at hy;cases hy;rfl)
    simp[hlt,zb hy,e,this,pz2u]
  ·have hlt: ¬(i:Int)<(l.length:Int):=by omega
   have: ¬v∈l:=fun h=>by have:=(List.getElem?_eq_some_iff.1 (hmem.1 h)).1;omega
   simp[hlt,this]
 ·exact h.elim
def plc(l:List Int)(v:Int):Int:=match l.findIdx? (fun x=>decide (x=v)) with|some i=>i|none=> -1
theorem plc_in{l:List Int}(hr:Rise l){v:Int}{i:Nat}(h:l[i]?=some v):plc l v=i:=by
 unfold plc
 have:l.findIdx? (fun x=>decide (x=v))=some i:=by
  rw[List.findIdx?_eq_some_iff_getElem]
  obtain⟨h1,e1⟩:=List.getElem?_eq_some_iff.1 h
  refine⟨h1,by simp[e1],fun j hj=>?_⟩
  have:l[j]?=some l[j]:=by simp
  have:=hr.lt this h hj
  simp;omega
 rw[this]
theorem plc_out{l:List Int}{v:Int}(h:v∉l):plc l v= -1:=by
 unfold plc
 have:l.findIdx? (fun x=>decide (x=v))=none:=by
  rw[List.findIdx?_eq_none_iff]
  intro x hx
  have:x≠v:=fun e=>h (e▸hx)
  simp[this]
 rw[this]
theorem place_ok{k:zL}(hl:k.ids.length≤4294967)(hr:Rise k.ids){fuel:Nat}(hf:2*k.ids.length+1<fuel)(v:Int):pz2x fuel k v=some (plc k.ids v):=by
 unfold pz2x
 obtain⟨i,h1,h2,h3⟩:=search_ok hl hr hf v
 rw[h1]
 by_cases c:v∈k.ids
 ·simp[c,plc_in hr (h3 c)]
 ·simp[c,plc_out c]
theorem plc_lt{l:List Int}(hr:Rise l)(v:Int):plc l v= -1∧v∉l∨ ∃i:Nat,plc l v=i∧i<l.length∧l[i]?=some v:=by
 by_cases c:v∈l
 ·obtain⟨i,hi⟩:=List.getElem?_of_mem c
  exact .inr ⟨i,plc_in hr hi,(List.getElem?_eq_some_iff.1 hi).1,hi⟩
 ·exact .inl ⟨plc_out c,c⟩
def gv(x:Ins):Option Int:=if x.dst.kind=1 then some x.dst.n else none
theorem give_ok{k:zL}(hl:k.ids.length≤4294967)(hr:Rise k.ids){s:zG}(hV:bV s k.ids.length){fuel:Nat}(hf:2*k.ids.length+1<fuel)(x:Ins):
  ∃s',pz34 fuel k s x=some s'∧bV s' k.ids.length∧ ∀j,bH s' j=(bH s j||decide (∃v,gv x=some v∧k.ids[j]?=some v)):=by
 unfold pz34 pz32 pz31
 by_cases c:x.dst.kind=1
 ·have hp:=place_ok hl hr hf x.dst.n
  simp only[c,decide_true,if_true,bindE,Option.bind_some,Bool.and_true,hp]
  have hg:gv x=some x.dst.n:=by simp[gv,c]
  rcases plc_lt hr x.dst.n with ⟨e,hno⟩|⟨i,e,hi,hx⟩
  ·rw[e]
   rcases zzv hV (by omega) fuel (-1) with ⟨e2,_⟩|⟨i,_,hi,_⟩
   ·refine⟨s,by rw[e2];rfl,hV,fun j=>?_⟩
    have: ¬ ∃v,gv x=some v∧k.ids[j]?=some v:=by
     rintro⟨v,h1,h2⟩
     rw[hg] at h1;cases h1
     exact hno (List.mem_of_getElem? h2)
    simp[this]
   ·omega
  ·rw[e]
   rcases zzv hV (by omega) fuel (i:Int) with ⟨e2,h2⟩|⟨i',s',hi',hlt,hb,e2,hV',hb'⟩
   ·refine⟨s,by rw[e2];rfl,hV,fun j=>?_⟩
    by_cases c2: ∃v,gv x=some v∧k.ids[j]?=some v
    ·obtain⟨v,h3,h4⟩:=c2
     rw[hg] at h3;cases h3
     have hji:j=i:=by
      rcases Nat.lt_trichotomy j i with h|h|h
      ·have:=hr.lt h4 hx h;omega
      ·exact h
      ·have:=hr.lt hx h4 h;omega
     subst hji
     rw[h2 j rfl hi];rfl
    ·simp[c2]
   ·have:i'=i:=by omega
    subst this
    refine⟨s',by rw[e2];rfl,hV',fun j=>?_⟩
    rw[hb' j]
    congr 1
    rw[decide_eq_decide]
    constructor
    ·rintro rfl;exact⟨_,hg,hx⟩
    ·rintro⟨v,h3,h4⟩
     rw[hg] at h3;cases h3
     rcases Nat.lt_trichotomy j i' with h|h|h
     ·have:=hr.lt h4 hx h;omega
     ·exact h
     ·have:=hr.lt hx h4 h;omega
 ·have hg: ∀v,¬gv x=some v:=by intro v;simp[gv,c]
  refine⟨s,?_,hV,fun j=>by simp[hg]⟩
  by_cases c2:x.dst.kind=2
  ·simp[c,c2,bindE]
  ·by_cases c3:x.dst.kind=3
   ·simp[c,c2,c3,bindE]
   ·simp[c,c2,c3,bindE]
end Go.Proofs.YtmogcnnhbmaffaaGreat.PL
set_option linter.unusedVariables false
set_option linter.unusedSectionVars false
set_option linter.unusedSimpArgs false
namespace Go.Proofs.YtmogcnnhbmaffaaGreat.PL
open Go
theorem compactI_rising{zs:List Int}(h:zs.Pairwise (fun x y=>x≤y)):Rise (Lib.compact zs):=by
 unfold Rise Lib.compact Lib.compactUpTo
 rw[List.pairwise_map,List.pairwise_filter]
 have hg: ∀i j:Nat,i≤j→j<zs.length→zs.toArray[i]!≤zs.toArray[j]!:=by
  intro i j hij hj
  by_cases e:i=j
  ·subst e;exact Int.le_refl _
  ·have:=List.pairwise_iff_getElem.1 h i j (by omega) hj (by omega)
   have hi:i<zs.length:=by omega
   simpa [hi,hj] using this
 refine List.Pairwise.imp_of_mem ?_ List.pairwise_lt_range
 intro i j hi hj hij ki kj
 rw[List.mem_range] at hi hj
 have hk:j=0∨zs.toArray[j]!≠zs.toArray[j-1]!:=of_decide_eq_true kj
 have h1:zs.toArray[i]!≤zs.toArray[j-1]!:=hg i (j-1) (by omega) (by omega)
 have h2:zs.toArray[j-1]!≤zs.toArray[j]!:=hg (j-1) j (by omega) hj
 rcases hk with hk|hk
 ·omega
 ·show zs.toArray[i]!<zs.toArray[j]!
  omega
def idl(f:Fnc):List Int:=Lib.compact (isort (f.regs.map fun r=>r.id))
theorem kh(f:Fnc):Rise (idl f):=compactI_rising (isort_sorted _)
theorem zzE(f:Fnc):(idl f).length≤f.regs.length:=by
 unfold idl
 have h1:=Lib.compact_length_le (isort (f.regs.map fun r=>r.id))
 have h2:=(yzS (f.regs.map fun r=>r.id)).length_eq
 rw[List.length_map] at h2
 omega
def cnt(s:zG):Nat→Nat
 |0=>0
 |m+1=>cnt s m+if bH s m=true then 1 else 0
theorem cnt_bd(s:zG): ∀m,cnt s m≤m
 |0=>Nat.le_refl _
 |m+1=>by have:=cnt_bd s m;unfold cnt;split<;>omega
theorem cnt_le{s t:zG}(h: ∀j,bH s j=true→bH t j=true): ∀m,cnt s m≤cnt t m
 |0=>Nat.le_refl _
 |m+1=>by
  have:=cnt_le h m
  unfold cnt
  by_cases c:bH s m=true
  ·rw[if_pos c,if_pos (h m c)];omega
  ·rw[if_neg c];split<;>omega
theorem cnt_lt{s t:zG}(h: ∀j,bH s j=true→bH t j=true){j:Nat}(hj:bH s j≠bH t j): ∀m,j<m→cnt s m<cnt t m
 |0,hm=>by omega
 |m+1,hm=>by
  unfold cnt
  by_cases e:j=m
  ·subst e
   have:=cnt_le h j
   have h2:bH s j=false:=by
    cases c:bH s j
    ·rfl
    ·rw[c,h j c] at hj;exact absurd rfl hj
   have h3:bH t j=true:=by
    cases c:bH t j
    ·rw[c,h2] at hj;exact absurd rfl hj
    ·rfl
   rw[h2,h3]
   simp;omega
  ·have:=cnt_lt h hj m (by omega)
   by_cases c:bH s m=true
   ·rw[if_pos c,if_pos (h m c)];omega
   ·rw[if_neg c];split<;>omega
def tot(n:Nat)(l:List zG):Nat:=(l.map fun s=>cnt s (64*((n+63)/64))).sum
theorem tot_set(n:Nat)(x:zG): ∀(l:List zG) (i:Nat) (y:zG),l[i]?=some y→tot n (l.set i x)+cnt y (64*((n+63)/64))=tot n l+cnt x (64*((n+63)/64))
 |[],i,y,h=>by simp at h
 |z::l,0,y,h=>by simp at h;subst h;simp[tot];omega
 |z::l,i+1,y,h=>by
  have:=tot_set n x l i y (by simpa using h)
  simp only[tot,List.set_cons_succ,List.map_cons,List.sum_cons] at this ⊢
  omega
theorem tot_bd(n:Nat): ∀l:List zG,tot n l≤l.length*(64*((n+63)/64))
 |[]=>by simp[tot]
 |z::l=>by
  have:=tot_bd n l
  have h2:=cnt_bd z (64*((n+63)/64))
  show(cnt z (64*((n+63)/64))+tot n l)≤(l.length+1)*(64*((n+63)/64))
  rw[Nat.add_mul,Nat.one_mul]
  generalize l.length*(64*((n+63)/64))=A at*
  omega
def fBk(f:Fnc):Prop:=fOk f∧f.regs.length≤1048576∧f.params.length≤1048576∧ ∀b∈f.blocks,∀i∈b.code,i.args.length≤1048576∧i.cases.length≤1048576
def gbN(f:Fnc)(b n:Nat)(v:Int):Prop:= ∃bl,f.blocks[b]?=some bl∧ ∃x∈bl.code.take n,gv x=some v
def gb(f:Fnc)(b:Nat)(v:Int):Prop:= ∃bl,f.blocks[b]?=some bl∧ ∃x∈bl.code,gv x=some v
def EG(f:Fnc)(v:Int)(a b:Nat):Prop:=EE f a b∧ ¬gb f a v
def isP(f:Fnc)(v:Int):Prop:= ∃p∈f.params,p.kind=1∧p.n=v
def Wo(f:Fnc)(v:Int)(b:Nat):Prop:= ¬isP f v∧Path (EG f v) (fun _=>True) 0 b
theorem fold_map{α β:Type}(h:α→β): ∀(l:List α) (a:List β),l.foldl (fun a r=>a++[h r]) a=a++l.map h
 |[],a=>by simp
 |x::l,a=>by rw[List.foldl_cons,fold_map h l];simp
section
variable {f:Fnc} (hn:fBk f) {fuel:Nat} (hf:17592186044416<fuel)
include hn hf
theorem asg_b1:loopE fuel (fun s=>pz3f fuel f s.1 s.2) (0,([]:List Int))=some (.n ((f.regs.length:Int),f.regs.map fun r=>r.id)):=by
 have hr:=hn.2.1
 have:=loop_fold (xs:=f.regs) (f:=fun s:Int×List Int=>pz3f fuel f s.1 s.2) (fun a r=>a++[r.id]) (fun _=>True) (by omega) (s0:=[]) trivial (by
  intro i x s hx hs _
  have hl:i<f.regs.length:=(List.getElem?_eq_some_iff.1 hx).1
  have hlt:(i:Int)<(f.regs.length:Int):=by omega
  have hsl:s.length≤1048576:=by
   rw[hs,fold_map]
   simp;omega
  have ha:app s [x.id]=some (s++[x.id]):=yt (by simp;omega)
  show pz3f fuel f (i:Int) s=_∧True
  unfold pz3f
  simp only[hlt,decide_true,if_true,zb hx,Option.bind_some,ha,wrap1 (show i≤4294967296 by omega)]
  exact⟨trivial,trivial⟩) (by
  intro s
  show pz3f fuel f (f.regs.length:Int) s=_
  unfold pz3f
  simp) (fuel:=fuel) (by omega)
 rw[this,fold_map]
 rfl
theorem asg_b2{S:zG}{r1:List Int}(hS:pz2z fuel (r1.length:Int)=some S):
  ∃x,loopE fuel (fun s=>pz3g fuel f r1 s.1 s.2) (([]:List zG),0)=some (.n (List.replicate f.blocks.length S,x)):=by
 have hb:=hn.1.1
 have key:=zr (ρ:=zL) (fun q:List zG×Int=> ∃k:Nat,q.2=k∧k≤f.blocks.length∧q.1=List.replicate k S) (fun q=>q.1=List.replicate f.blocks.length S) (fun _=>False) (fun q=>f.blocks.length-q.2.toNat)
  (fun s=>pz3g fuel f r1 s.1 s.2) (by
   rintro⟨c,x⟩ ⟨k,hx,hk,hc⟩
   simp only at hx hc
   subst hx;subst hc
   show(∃s',pz3g fuel f r1 _ (k:Int)=some (.n s')∧_)∨(∃s',pz3g fuel f r1 _ (k:Int)=some (.b s')∧_)∨_
   unfold pz3g
   by_cases h:k<f.blocks.length
   ·left
    have hlt:(k:Int)<(f.blocks.length:Int):=by omega
    have ha:app (List.replicate k S) [S]=some (List.replicate k S++[S]):=yt (by simp;omega)
    simp only[hlt,decide_true,if_true,hS,Option.bind_some,ha]
    refine⟨_,rfl,⟨k+1,wrap1 (by omega),by omega,?_⟩,?_⟩
    ·show List.replicate k S++[S]=_
     rw[List.replicate_succ']
    ·show f.blocks.length-(IntKind.i64.wrap ((k:Int)+1)).toNat<f.blocks.length-((k:Int)).toNat
     rw[wrap1 (by omega)];omega
   ·right;left
    have hlt: ¬(k:Int)<(f.blocks.length:Int):=by omega
    simp only[hlt,decide_false,Bool.false_eq_true,if_false]
    have:k=f.blocks.length:=by omega
    subst this
    exact⟨_,rfl,rfl⟩) fuel ([],0) ⟨0,rfl,by omega,by simp⟩ (by simp;omega)
 rcases key with ⟨⟨c,x⟩,k1,k2⟩|⟨v,_,h⟩
 ·simp only at k2
  subst k2
  exact⟨x,k1⟩
 ·exact h.elim
theorem asg_b3(c4:List zG){s0:zG}(hV:bV s0 (idl f).length)(h0: ∀j,bH s0 j=false):
  ∃s x,loopE fuel (fun s=>pz3h fuel f (idl f) c4 s.1 s.2) (s0,0)=some (.n (s,x))∧bV s (idl f).length∧ ∀j,bH s j=true↔ ∃v,(idl f)[j]?=some v∧isP f v:=by
 have hp:=hn.2.2.1
 have hil:=zzE f
 have hr:=hn.2.1
 have key:=zr (ρ:=zL) (fun q:zG×Int=> ∃k:Nat,q.2=k∧k≤f.params.length∧bV q.1 (idl f).length∧ ∀j,bH q.1 j=true↔ ∃v,(idl f)[j]?=some v∧ ∃p∈f.params.take k,p.kind=1∧p.n=v)
  (fun q=>bV q.1 (idl f).length∧ ∀j,bH q.1 j=true↔ ∃v,(idl f)[j]?=some v∧isP f v) (fun _=>False) (fun q=>f.params.length-q.2.toNat)
  (fun s=>pz3h fuel f (idl f) c4 s.1 s.2) (by
   rintro⟨s,x⟩ ⟨k,hx,hk,hv,hb⟩
   simp only at hx hv hb
   subst hx
   show(∃s',pz3h fuel f (idl f) c4 s (k:Int)=some (.n s')∧_)∨(∃s',pz3h fuel f (idl f) c4 s (k:Int)=some (.b s')∧_)∨_
   unfold pz3h
   by_cases h:k<f.params.length
   ·left
    have hlt:(k:Int)<(f.params.length:Int):=by omega
    obtain⟨p,hpk⟩:=getAt (xs:=f.params) (i:=k) h
    have htk: ∀q,q∈f.params.take (k+1)↔q∈f.params.take k∨q=p:=by
     intro q;rw[List.take_add_one,hpk];simp
    have hm:f.params.length-(IntKind.i64.wrap ((k:Int)+1)).toNat<f.params.length-((k:Int)).toNat:=by rw[wrap1 (by omega)];omega
    by_cases c:p.kind=1
    ·have hpl:=place_ok (k:=⟨f,idl f,c4⟩) (show(idl f).length≤4294967 by omega) (kh f) (fuel:=fuel) (by show 2*(idl f).length+1<fuel;omega) p.n
     simp only[hlt,decide_true,if_true,zb hpk,Option.bind_some,c,hpl]
     rcases plc_lt (kh f) p.n with ⟨e,hno⟩|⟨i,e,hi,hx⟩
     ·rcases zzv hv (by omega) fuel (plc (idl f) p.n) with ⟨e2,_⟩|⟨i,_,hi,_⟩
      ·rw[e2]
       refine⟨_,rfl,⟨k+1,wrap1 (by omega),by omega,hv,fun j=>?_⟩,hm⟩
       show bH s j=true↔_
       rw[hb j]
       constructor
       ·rintro⟨v,h1,q,h2,h3⟩;exact⟨v,h1,q,(htk q).2 (.inl h2),h3⟩
       ·rintro⟨v,h1,q,h2,h3,h4⟩
        rcases (htk q).1 h2 with h2|rfl
        ·exact⟨v,h1,q,h2,h3,h4⟩
        ·subst h4;exact absurd (List.mem_of_getElem? h1) hno
      ·omega
     ·rcases zzv hv (by omega) fuel (plc (idl f) p.n) with ⟨e2,h2⟩|⟨i',s',hi',hlt',hb0,e2,hV',hb'⟩
      ·rw[e2]
       refine⟨_,rfl,⟨k+1,wrap1 (by omega),by omega,hv,fun j=>?_⟩,hm⟩
       show bH s j=true↔_
       constructor
       ·intro hj
        obtain⟨v,h1,q,h3,h4⟩:=(hb j).1 hj
        exact⟨v,h1,q,(htk q).2 (.inl h3),h4⟩
       ·rintro⟨v,h1,q,h3,h4,h5⟩
        rcases (htk q).1 h3 with h3|rfl
        ·exact(hb j).2 ⟨v,h1,q,h3,h4,h5⟩
        ·subst h5
         have:=plc_in (kh f) h1
         exact h2 j this (List.getElem?_eq_some_iff.1 h1).1
      ·rw[e2]
       refine⟨_,rfl,⟨k+1,wrap1 (by omega),by omega,hV',fun j=>?_⟩,hm⟩
       show bH s' j=true↔_
       rw[hb' j,Bool.or_eq_true,hb j,decide_eq_true_eq]
       have:i'=i:=by omega
       subst this
       constructor
       ·rintro(⟨v,h1,q,h2,h3⟩|rfl)
        ·exact⟨v,h1,q,(htk q).2 (.inl h2),h3⟩
        ·exact⟨p.n,hx,p,(htk p).2 (.inr rfl),c,rfl⟩
       ·rintro⟨v,h1,q,h2,h3,h4⟩
        rcases (htk q).1 h2 with h2|rfl
        ·exact .inl ⟨v,h1,q,h2,h3,h4⟩
        ·subst h4
         have:=plc_in (kh f) h1
         right;omega
    ·simp only[hlt,decide_true,if_true,zb hpk,Option.bind_some,c,decide_false,Bool.false_eq_true,if_false]
     refine⟨_,rfl,⟨k+1,wrap1 (by omega),by omega,hv,fun j=>?_⟩,hm⟩
     show bH s j=true↔_
     rw[hb j]
     constructor
     ·rintro⟨v,h1,q,h2,h3⟩;exact⟨v,h1,q,(htk q).2 (.inl h2),h3⟩
     ·rintro⟨v,h1,q,h2,h3,h4⟩
      rcases (htk q).1 h2 with h2|rfl
      ·exact⟨v,h1,q,h2,h3,h4⟩
      ·exact absurd h3 c
   ·right;left
    have hlt: ¬(k:Int)<(f.params.length:Int):=by omega
    simp only[hlt,decide_false,Bool.false_eq_true,if_false]
    refine⟨_,rfl,hv,fun j=>?_⟩
    show bH s j=true↔_
    rw[hb j,List.take_of_length_le (by omega)]
    rfl) fuel (s0,0) ⟨0,rfl,by omega,hV,fun j=>by rw[h0 j];simp⟩ (by simp;omega)
 rcases key with ⟨⟨s,x⟩,k1,k2,k3⟩|⟨v,_,h⟩
 ·exact⟨s,x,k1,k2,k3⟩
 ·exact h.elim
end
end Go.Proofs.YtmogcnnhbmaffaaGreat.PL
set_option linter.unusedVariables false
set_option linter.unusedSectionVars false
set_option linter.unusedSimpArgs false
namespace Go.Proofs.YtmogcnnhbmaffaaGreat.PL
open Go
structure KInv (f:Fnc) (k:zL):Prop where
 hf:k.f=f
 hi:k.ids=idl f
 hl:k.in_.length=f.blocks.length
 hv: ∀s∈k.in_,bV s (idl f).length
 d1: ∀(b j:Nat) (s:zG) (v:Int),k.in_[b]?=some s→(idl f)[j]?=some v→bH s j=false→Wo f v b
 d0: ∀(j:Nat) (s:zG) (v:Int),k.in_[0]?=some s→(idl f)[j]?=some v→ ¬isP f v→bH s j=false
def clo(f:Fnc)(k:zL)(b:Nat):Prop:= ∀(s t:zG) (to j:Nat) (v:Int),k.in_[b]?=some s→(to:Int)∈TT f b→k.in_[to]?=some t→(idl f)[j]?=some v→bH t j=true→bH s j=true∨gb f b v
section
variable {f:Fnc} (hn:fBk f) {fuel:Nat} (hf:17592186044416<fuel)
include hn hf
theorem through_ok{k:zL}(hk:KInv f k){b:Nat}{bl:Bl}{s:zG}(hb:f.blocks[b]?=some bl)(hs:k.in_[b]?=some s){m:Nat}(hm:m≤bl.code.length):
  ∃o,pz3b fuel k (b:Int) (m:Int)=some o∧bV o (idl f).length∧ ∀j,bH o j=true↔(bH s j=true∨ ∃v,(idl f)[j]?=some v∧gbN f b m v):=by
 have hil:=zzE f
 have hr:=hn.2.1
 have hmem:bl∈f.blocks:=List.mem_of_getElem? hb
 have hc:=(hn.1.2 bl hmem).1
 have hV:=hk.hv s (List.mem_of_getElem? hs)
 unfold pz3b
 have hsl:sli bl.code 0 (m:Int)=some (bl.code.take m):=by
  unfold sli
  rw[if_pos (by omega)]
  simp
 have hkf:idx k.f.blocks (b:Int)=some bl:=by rw[hk.hf];exact zb hb
 simp only[zb hs,Option.bind_some,copy_ok hV (by omega) fuel,hkf,hsl]
 have hlen:(bl.code.take m).length=m:=by simp;omega
 have key:=zr (ρ:=zG) (fun q:Int×zG=> ∃i:Nat,q.1=i∧i≤m∧bV q.2 (idl f).length∧ ∀j,bH q.2 j=true↔(bH s j=true∨ ∃v,(idl f)[j]?=some v∧gbN f b i v))
  (fun q=>bV q.2 (idl f).length∧ ∀j,bH q.2 j=true↔(bH s j=true∨ ∃v,(idl f)[j]?=some v∧gbN f b m v)) (fun _=>False) (fun q=>m-q.1.toNat)
  (fun s=>pz3a fuel k (bl.code.take m) s.1 s.2) (by
   rintro⟨x,q⟩ ⟨i,hx,hi,hv,hB⟩
   simp only at hx hv hB
   subst hx
   show(∃s',pz3a fuel k (bl.code.take m) (i:Int) q=some (.n s')∧_)∨(∃s',pz3a fuel k (bl.code.take m) (i:Int) q=some (.b s')∧_)∨_
   unfold pz3a
   rw[hlen]
   by_cases h:i<m
   ·left
    have hlt:(i:Int)<(m:Int):=by omega
    obtain⟨z,hz⟩:=getAt (xs:=bl.code) (i:=i) (by omega)
    have hz2:(bl.code.take m)[i]?=some z:=by rw[List.getElem?_take,if_pos h,hz]
    obtain⟨q',e,hv',hB'⟩:=give_ok (k:=k) (by rw[hk.hi];omega) (by rw[hk.hi];exact kh f) (by rw[hk.hi];exact hv) (fuel:=fuel) (by rw[hk.hi];omega) z
    rw[hk.hi] at hv' hB'
    simp only[hlt,decide_true,if_true,zb hz2,Option.bind_some,e]
    refine⟨_,rfl,⟨i+1,wrap1 (by omega),by omega,hv',fun j=>?_⟩,?_⟩
    ·show bH q' j=true↔_
     rw[hB' j,Bool.or_eq_true,hB j,decide_eq_true_eq]
     have htk: ∀y,y∈bl.code.take (i+1)↔y∈bl.code.take i∨y=z:=by
      intro y;rw[List.take_add_one,hz];simp
     constructor
     ·rintro((h1|⟨v,h1,bl',h2,y,h3,h4⟩)|⟨v,h1,h2⟩)
      ·exact .inl h1
      ·rw[hb] at h2;cases h2
       exact .inr ⟨v,h1,bl,hb,y,(htk y).2 (.inl h3),h4⟩
      ·exact .inr ⟨v,h2,bl,hb,z,(htk z).2 (.inr rfl),h1⟩
     ·rintro(h1|⟨v,h1,bl',h2,y,h3,h4⟩)
      ·exact .inl (.inl h1)
      ·rw[hb] at h2;cases h2
       rcases (htk y).1 h3 with h3|rfl
       ·exact .inl (.inr ⟨v,h1,bl,hb,y,h3,h4⟩)
       ·exact .inr ⟨v,h4,h1⟩
    ·show m-(IntKind.i64.wrap ((i:Int)+1)).toNat<m-((i:Int)).toNat
     rw[wrap1 (by omega)];omega
   ·right;left
    have hlt: ¬(i:Int)<(m:Int):=by omega
    simp only[hlt,decide_false,Bool.false_eq_true,if_false]
    have:i=m:=by omega
    subst this
    exact⟨_,rfl,hv,hB⟩) fuel (0,s) ⟨0,rfl,by omega,hV,fun j=>by
     constructor
     ·exact .inl
     ·rintro(h|⟨v,_,bl',_,y,h,_⟩)
      ·exact h
      ·simp at h⟩ (by simp;omega)
 rcases key with ⟨⟨x,q⟩,k1,k2,k3⟩|⟨v,_,h⟩
 ·exact⟨q,by rw[k1];rfl,k2,k3⟩
 ·exact h.elim
theorem Wo_step{v:Int}{b to:Nat}(h:Wo f v b)(he:(to:Int)∈TT f b)(hg: ¬gb f b v):Wo f v to:=
 ⟨h.1,Path.snoc h.2 (⟨he,hg⟩:EG f v b to) trivial⟩
theorem gbN_all{b:Nat}{bl:Bl}(hb:f.blocks[b]?=some bl){v:Int}:gbN f b bl.code.length v↔gb f b v:=by
 constructor
 ·rintro⟨bl',h1,y,h2,h3⟩
  rw[hb] at h1;cases h1
  rw[List.take_length] at h2
  exact⟨bl,hb,y,h2,h3⟩
 ·rintro⟨bl',h1,y,h2,h3⟩
  rw[hb] at h1;cases h1
  exact⟨bl,hb,y,by rw[List.take_length];exact h2,h3⟩
theorem asg_b5{k:zL}(hk:KInv f k){b:Nat}(hbn:b<f.blocks.length){s0 o:zG}(hs0:k.in_[b]?=some s0)(hO:bV o (idl f).length)
  (ho: ∀j,bH o j=true↔(bH s0 j=true∨ ∃v,(idl f)[j]?=some v∧gb f b v)) {w:List Nat} (hw:w.Nodup) (hwl: ∀x∈w,x<f.blocks.length) (hbw:b∉w)
  (hc: ∀b'<f.blocks.length,b'≠b→b'∉w→clo f k b'):
  ∃w' x k',loopE fuel (fun s=>pz3i fuel o (TT f b) s.1 s.2.1 s.2.2) (embN w,0,k)=some (.n (embN w',x,k'))∧KInv f k'∧w'.Nodup∧(∀x∈w',x<f.blocks.length)∧(∀b'<f.blocks.length,b'∉w'→clo f k' b')∧tot (idl f).length k'.in_+w'.length≤tot (idl f).length k.in_+w.length:=by
 have hil:=zzE f
 have hr:=hn.2.1
 have hnb:=hn.1.1
 have hTl:=TT_len hn.1 b
 have hout: ∀(j:Nat) (v:Int),(idl f)[j]?=some v→bH o j=false→Wo f v b∧ ¬gb f b v:=by
  intro j v hj h
  have h1: ¬(bH s0 j=true∨ ∃v,(idl f)[j]?=some v∧gb f b v):=by rw[←ho j,h];simp
  refine⟨hk.d1 b j s0 v hs0 hj ?_,fun hg=>h1 (.inr ⟨v,hj,hg⟩)⟩
  cases c:bH s0 j
  ·rfl
  ·exact absurd (.inl c) h1
 have key:=zr (ρ:=Ex (List Int×zL) zL) (fun q:List Int×Int×zL=> ∃(i:Nat) (w1:List Nat),q.1=embN w1∧q.2.1=i∧i≤(TT f b).length∧KInv f q.2.2∧w1.Nodup∧(∀x∈w1,x<f.blocks.length)∧
   (∀b'<f.blocks.length,b'≠b→b'∉w1→clo f q.2.2 b')∧(b∉w1→q.2.2.in_[b]?=some s0)∧(∀t:Nat,(t:Int)∈(TT f b).take i→ ∀y,q.2.2.in_[t]?=some y→ ∀j,bH y j=true→bH o j=true)∧tot (idl f).length q.2.2.in_+w1.length≤tot (idl f).length k.in_+w.length)
  (fun q=> ∃w1:List Nat,q.1=embN w1∧KInv f q.2.2∧w1.Nodup∧(∀x∈w1,x<f.blocks.length)∧(∀b'<f.blocks.length,b'∉w1→clo f q.2.2 b')∧tot (idl f).length q.2.2.in_+w1.length≤tot (idl f).length k.in_+w.length) (fun _=>False) (fun q=>(TT f b).length-q.2.1.toNat)
  (fun s=>pz3i fuel o (TT f b) s.1 s.2.1 s.2.2) (by
   rintro⟨wt,x,k1⟩ ⟨i,w1,hwt,hx,hi,hK,hnd,hlt1,hcl,hbb,hE,hM⟩
   simp only at hwt hx hK hcl hbb hE hM
   subst hwt;subst hx
   show(∃s',pz3i fuel o (TT f b) (embN w1) (i:Int) k1=some (.n s')∧_)∨(∃s',pz3i fuel o (TT f b) (embN w1) (i:Int) k1=some (.b s')∧_)∨_
   unfold pz3i
   by_cases h:i<(TT f b).length
   ·left
    have hlt:(i:Int)<((TT f b).length:Int):=by omega
    obtain⟨z,hz⟩:=getAt (xs:=TT f b) (i:=i) h
    have hzm:z∈TT f b:=List.mem_of_getElem? hz
    obtain⟨hz0,hz1⟩:=TT_in hn.1 hzm
    obtain⟨to,rfl⟩:=Int.eq_ofNat_of_zero_le hz0
    have hto:to<f.blocks.length:=by omega
    obtain⟨y,hy⟩:=getAt (xs:=k1.in_) (i:=to) (by rw[hK.hl];exact hto)
    have hyV:=hK.hv y (List.mem_of_getElem? hy)
    obtain⟨ch,y',eA,hy'V,hy'b,hch,hsame⟩:=and_ok hyV hO (by omega) (fuel:=fuel) (by omega)
    have hwl1:w1.length≤f.blocks.length:=kX _ w1 hnd hlt1
    have hlen1:(embN w1).length=w1.length:=by simp[embN]
    have hin:=in_sl (l:=embN w1) (by omega) (fuel:=fuel) (by omega) (to:Int)
    have hmem:((to:Int)∈embN w1)↔to∈w1:=by
     unfold embN
     rw[List.mem_map]
     constructor
     ·rintro⟨a,h1,h2⟩
      have:a=to:=by omega
      subst this;exact h1
     ·exact fun h=>⟨to,h,rfl⟩
    have hset:setI k1.in_ (to:Int) y'=some (k1.in_.set to y'):=yv (by rw[hK.hl];exact hto)
    have happ:app (embN w1) ([(to:Int)]:List Int)=some (embN (w1++[to])):=by
     rw[yt (by simp;omega)];simp[embN]
    have htk: ∀t:Nat,(t:Int)∈(TT f b).take (i+1)↔(t:Int)∈(TT f b).take i∨t=to:=by
     intro t
     rw[List.take_add_one,hz,List.mem_append,Option.toList_some,List.mem_singleton]
     constructor
     ·rintro(h|h)
      ·exact .inl h
      ·exact .inr (by omega)
     ·rintro(h|rfl)
      ·exact .inl h
      ·exact .inr rfl
    have hm:(TT f b).length-(IntKind.i64.wrap ((i:Int)+1)).toNat<(TT f b).length-((i:Int)).toNat:=by rw[wrap1 (by omega)];omega
    have hkeq:(⟨(⟨k1.f.machine,k1.f.name,k1.f.regs,k1.f.params,k1.f.blocks⟩:Fnc),k1.ids,k1.in_.set to y'⟩:zL)=⟨k1.f,k1.ids,k1.in_.set to y'⟩:=rfl
    have hget: ∀t:Nat,(k1.in_.set to y')[t]?=if t=to then some y' else k1.in_[t]?:=by
     intro t
     by_cases e:t=to
     ·subst e;rw[List.getElem?_set_self (by rw[hK.hl];exact hto),if_pos rfl]
     ·rw[List.getElem?_set_ne (by omega),if_neg e]
    have hsub: ∀j,bH y' j=true→bH y j=true∧bH o j=true:=by
     intro j h
     rw[hy'b j,Bool.and_eq_true,Bool.and_eq_true] at h
     exact h.1
    have hK2:KInv f ⟨k1.f,k1.ids,k1.in_.set to y'⟩:=by
     refine⟨hK.hf,hK.hi,by simp[hK.hl],?_,?_,?_⟩
     ·intro s hs
      rcases List.mem_or_eq_of_mem_set hs with hs|rfl
      ·exact hK.hv s hs
      ·exact hy'V
     ·intro b1 j s v hs hj hb0
      have hs2:(k1.in_.set to y')[b1]?=some s:=hs
      rw[hget b1] at hs2
      by_cases e:b1=to
      ·subst e
       rw[if_pos rfl] at hs2;cases hs2
       have hjn:j<(idl f).length:=(List.getElem?_eq_some_iff.1 hj).1
       rw[hy'b j,decide_eq_true hjn,Bool.and_true,Bool.and_eq_false_iff] at hb0
       rcases hb0 with hb0|hb0
       ·exact hK.d1 b1 j y v hy hj hb0
       ·obtain⟨h1,h2⟩:=hout j v hj hb0
        exact Wo_step hn hf h1 hzm h2
      ·rw[if_neg e] at hs2
       exact hK.d1 b1 j s v hs2 hj hb0
     ·intro j s v hs hj hp
      have hs2:(k1.in_.set to y')[0]?=some s:=hs
      rw[hget 0] at hs2
      by_cases e:0=to
      ·subst e
       rw[if_pos rfl] at hs2;cases hs2
       rw[hy'b j,hK.d0 j y v hy hj hp];rfl
      ·rw[if_neg e] at hs2
       exact hK.d0 j s v hs2 hj hp
    have hE2: ∀t:Nat,(t:Int)∈(TT f b).take (i+1)→ ∀q,(k1.in_.set to y')[t]?=some q→ ∀j,bH q j=true→bH o j=true:=by
     intro t ht q hq j hj
     rw[hget t] at hq
     by_cases e:t=to
     ·rw[if_pos e] at hq;cases hq
      exact(hsub j hj).2
     ·rw[if_neg e] at hq
      rcases (htk t).1 ht with ht|ht
      ·exact hE t ht q hq j hj
      ·exact absurd ht e
    have hcl2: ∀b'<f.blocks.length,b'≠to→clo f k1 b'→clo f ⟨k1.f,k1.ids,k1.in_.set to y'⟩ b':=by
     intro b' _ hne hc s t to' j v hs hto' ht hj hb1
     have hs2:(k1.in_.set to y')[b']?=some s:=hs
     have ht2:(k1.in_.set to y')[to']?=some t:=ht
     rw[hget b',if_neg hne] at hs2
     rw[hget to'] at ht2
     by_cases e:to'=to
     ·subst e
      rw[if_pos rfl] at ht2;cases ht2
      exact hc s y to' j v hs2 hto' hy hj (hsub j hb1).1
     ·rw[if_neg e] at ht2
      exact hc s t to' j v hs2 hto' ht2 hj hb1
    have hts:=tot_set (idl f).length y' k1.in_ to y hy
    cases ch with
    |false=>
     have hyy:=hsame rfl
     have hsid:k1.in_.set to y'=k1.in_:=by
      apply List.ext_getElem?
      intro t
      rw[hget t]
      by_cases e:t=to
      ·subst e;rw[if_pos rfl,hyy,hy]
      ·rw[if_neg e]
     have hb1:(if(false:Bool)=true then(pz14 fuel (embN w1) (to:Int)).bind fun r13=>some (!r13) else some false)=some false:=by simp
     simp only[hlt,decide_true,if_true,zb hz,Option.bind_some,zb hy,eA,hb1,hset,Bool.false_eq_true,if_false]
     refine⟨_,rfl,⟨i+1,w1,rfl,wrap1 (by omega),by omega,hK2,hnd,hlt1,?_,?_,hE2,?_⟩,hm⟩
     ·intro b' h1 h2 h3
      show clo f ⟨k1.f,k1.ids,k1.in_.set to y'⟩ b'
      rw[hsid];exact hcl b' h1 h2 h3
     ·intro h1
      show(k1.in_.set to y')[b]?=some s0
      rw[hsid];exact hbb h1
     ·show tot _ (k1.in_.set to y')+_≤_
      rw[hsid];exact hM
    |true=>
     obtain⟨j0,hj0,hne0⟩:=hch rfl
     have hdec:=cnt_lt (s:=y') (t:=y) (fun j h=>(hsub j h).1) hne0 _ hj0
     by_cases hcw:to∈w1
     ·have hb1:(if(true:Bool)=true then(pz14 fuel (embN w1) (to:Int)).bind fun r13=>some (!r13) else some false)=some false:=by
       rw[if_pos rfl,hin,decide_eq_true (hmem.2 hcw)];rfl
      simp only[hlt,decide_true,if_true,zb hz,Option.bind_some,zb hy,eA]
      rw[show((pz14 fuel (embN w1) (to:Int)).bind fun r13=>some (!r13))=some false by rw[hin,decide_eq_true (hmem.2 hcw)];rfl]
      simp only[Option.bind_some,hset,Bool.false_eq_true,if_false]
      refine⟨_,rfl,⟨i+1,w1,rfl,wrap1 (by omega),by omega,hK2,hnd,hlt1,?_,?_,hE2,?_⟩,hm⟩
      ·intro b' h1 h2 h3
       exact hcl2 b' h1 (by intro e;subst e;exact h3 hcw) (hcl b' h1 h2 h3)
      ·intro h1
       show(k1.in_.set to y')[b]?=some s0
       rw[hget b,if_neg (by intro e;subst e;exact h1 hcw)];exact hbb h1
      ·show tot _ (k1.in_.set to y')+_≤_
       omega
     ·simp only[hlt,decide_true,if_true,zb hz,Option.bind_some,zb hy,eA]
      rw[show((pz14 fuel (embN w1) (to:Int)).bind fun r13=>some (!r13))=some true by rw[hin,decide_eq_false (fun h=>hcw (hmem.1 h))];rfl]
      simp only[Option.bind_some,hset,if_true,happ]
      refine⟨_,rfl,⟨i+1,w1++[to],rfl,wrap1 (by omega),by omega,hK2,?_,?_,?_,?_,hE2,?_⟩,hm⟩
      ·rw[List.nodup_append]
       exact⟨hnd,by simp,fun a ha b hb=>by rw[List.mem_singleton] at hb;subst hb;exact fun e=>hcw (e▸ha)⟩
      ·intro x hx
       rcases List.mem_append.1 hx with hx|hx
       ·exact hlt1 x hx
       ·rw[List.mem_singleton.1 hx];exact hto
      ·intro b' h1 h2 h3
       have h4:b'∉w1:=fun h=>h3 (List.mem_append.2 (.inl h))
       have h5:b'≠to:=fun e=>h3 (List.mem_append.2 (.inr (by simp[e])))
       exact hcl2 b' h1 h5 (hcl b' h1 h2 h4)
      ·intro h1
       have h4:b∉w1:=fun h=>h1 (List.mem_append.2 (.inl h))
       have h5:b≠to:=fun e=>h1 (List.mem_append.2 (.inr (by simp[e])))
       show(k1.in_.set to y')[b]?=some s0
       rw[hget b,if_neg h5];exact hbb h4
      ·show tot _ (k1.in_.set to y')+_≤_
       rw[List.length_append,List.length_singleton]
       omega
   ·right;left
    have hlt: ¬(i:Int)<((TT f b).length:Int):=by omega
    simp only[hlt,decide_false,Bool.false_eq_true,if_false]
    refine⟨_,rfl,w1,rfl,hK,hnd,hlt1,?_,hM⟩
    intro b' h1 h2
    by_cases e:b'=b
    ·subst e
     intro s t to j v hs hto ht hj hb1
     have hs:k1.in_[b']?=some s:=hs
     rw[hbb h2] at hs;cases hs
     have:=hE to (by rw[List.take_of_length_le (by omega)];exact hto) t ht j hb1
     rcases (ho j).1 this with h3|⟨v',h3,h4⟩
     ·exact .inl h3
     ·rw[hj] at h3;cases h3;exact .inr h4
    ·exact hcl b' h1 e h2) fuel (embN w,0,k) ⟨0,w,rfl,rfl,by omega,hk,hw,hwl,hc,fun _=>hs0,by simp,Nat.le_refl _⟩ (by simp;omega)
 rcases key with ⟨⟨wt,x,k'⟩,h1,w1,h2,h3⟩|⟨v,_,h⟩
 ·simp only at h2 h3
  subst h2
  exact⟨w1,x,k',h1,h3⟩
 ·exact h.elim
end
end Go.Proofs.YtmogcnnhbmaffaaGreat.PL
set_option linter.unusedVariables false
set_option linter.unusedSectionVars false
set_option linter.unusedSimpArgs false
namespace Go.Proofs.YtmogcnnhbmaffaaGreat.PL
open Go
theorem embN_cons(b:Nat)(w:List Nat):embN (b::w)=(b:Int)::embN w:=rfl
section
variable {f:Fnc} (hn:fBk f) {fuel:Nat} (hf:17592186044416<fuel)
include hn hf
theorem asg_loop{g:zn}(hg:g.succ.length=f.blocks.length)(h2: ∀j:Nat,j<f.blocks.length→g.succ[j]?=some (TT f j)){k:zL}(hk:KInv f k){w:List Nat}(hw:w.Nodup)(hwl: ∀x∈w,x<f.blocks.length)
  (hc: ∀b'<f.blocks.length,b'∉w→clo f k b'): ∃x k',loopE fuel (fun s=>pz3j fuel f g s.1 s.2) (embN w,k)=some (.n (x,k'))∧KInv f k'∧ ∀b'<f.blocks.length,clo f k' b':=by
 have hil:=zzE f
 have hr:=hn.2.1
 have hnb:=hn.1.1
 have key:=zr (ρ:=zL) (fun q:List Int×zL=> ∃w:List Nat,q.1=embN w∧KInv f q.2∧w.Nodup∧(∀x∈w,x<f.blocks.length)∧ ∀b'<f.blocks.length,b'∉w→clo f q.2 b')
  (fun q=>KInv f q.2∧ ∀b'<f.blocks.length,clo f q.2 b') (fun _=>False) (fun q=>tot (idl f).length q.2.in_+q.1.length)
  (fun s=>pz3j fuel f g s.1 s.2) (by
   rintro⟨wt,k⟩ ⟨w,hwt,hK,hnd,hlt,hcl⟩
   simp only at hwt hK hcl
   subst hwt
   show(∃s',pz3j fuel f g (embN w) k=some (.n s')∧_)∨(∃s',pz3j fuel f g (embN w) k=some (.b s')∧_)∨_
   unfold pz3j
   cases w with
   |nil=>
    right;left
    exact⟨_,rfl,hK,fun b' h=>hcl b' h (by simp)⟩
   |cons b w=>
    left
    obtain⟨hbw,hnd2⟩:=List.nodup_cons.1 hnd
    have hbn:=hlt b (by simp)
    obtain⟨bl,hbl⟩:=getAt (xs:=f.blocks) (i:=b) hbn
    obtain⟨s0,hs0⟩:=getAt (xs:=k.in_) (i:=b) (by rw[hK.hl];exact hbn)
    obtain⟨o,eo,hoV,hoB⟩:=through_ok hn hf hK hbl hs0 (Nat.le_refl _)
    have hsl:sli (embN (b::w)) 1 ((embN (b::w)).length:Int)=some (embN w):=by
     unfold sli
     rw[embN_cons,if_pos (by simp;omega)]
     simp
    have hlt0:(0:Int)<((embN (b::w)).length:Int):=by rw[embN_cons];simp
    have hi0:idx (embN (b::w)) 0=some (b:Int):=by rw[embN_cons];rfl
    have hsu:=gsucc_ok hn.1 (fuel:=fuel) hg h2 hbn
    obtain⟨w',x,k',e5,hK',hnd',hlt',hcl',hM'⟩:=asg_b5 hn hf hK hbn hs0 hoV (fun j=>by
     rw[hoB j]
     constructor
     ·rintro(h|⟨v,h1,h2⟩)
      ·exact .inl h
      ·exact .inr ⟨v,h1,(gbN_all hn hf hbl).1 h2⟩
     ·rintro(h|⟨v,h1,h2⟩)
      ·exact .inl h
      ·exact .inr ⟨v,h1,(gbN_all hn hf hbl).2 h2⟩) hnd2 (fun x hx=>hlt x (by simp[hx])) hbw (fun b' h1 h2 h3=>hcl b' h1 (by simp[h2,h3]))
    simp only[hlt0,decide_true,if_true,hi0,Option.bind_some,hsl,zb hbl,eo,hsu,e5,bindE]
    refine⟨_,rfl,⟨w',rfl,hK',hnd',hlt',hcl'⟩,?_⟩
    show tot _ k'.in_+(embN w').length<tot _ k.in_+(embN (b::w)).length
    have h1:(embN w').length=w'.length:=by simp[embN]
    have h2:(embN (b::w)).length=w.length+1:=by simp[embN]
    omega) fuel (embN w,k) ⟨w,rfl,hk,hw,hwl,hc⟩ (by
   show tot _ k.in_+(embN w).length<fuel
   have h1:=tot_bd (idl f).length k.in_
   have h2:=kX _ w hw hwl
   have h3:(embN w).length=w.length:=by simp[embN]
   have h4:k.in_.length*(64*(((idl f).length+63)/64))≤1048576*1048640:=Nat.mul_le_mul (by rw[hk.hl];exact hnb) (by omega)
   omega)
 rcases key with ⟨⟨x,k'⟩,h1,h2⟩|⟨v,_,h⟩
 ·exact⟨x,k',h1,h2⟩
 ·exact h.elim
theorem assign_ok: ∃k,pz3k fuel f=some k∧KInv f k∧ ∀b'<f.blocks.length,clo f k b':=by
 have hil:=zzE f
 have hr:=hn.2.1
 have hnb:=hn.1.1
 unfold pz3k
 rw[asg_b1 hn hf]
 have hsort:pz2q fuel (f.regs.map fun r=>r.id)=some (isort (f.regs.map fun r=>r.id)):=by
  unfold pz2q;rw[if_pos (by simp;omega)]
 have hcomp:pz2r fuel (isort (f.regs.map fun r=>r.id))=some (idl f):=by
  unfold pz2r
  have h2:=(yzS (f.regs.map fun r=>r.id)).length_eq
  rw[List.length_map] at h2
  rw[if_pos (by omega)];rfl
 obtain⟨S,hS,hSV,hSB⟩:=full_ok (n:=(idl f).length) (by omega) (fuel:=fuel) (by omega)
 obtain⟨x2,h2⟩:=asg_b2 hn hf hS
 simp only[bindE,hsort,hcomp,Option.bind_some,h2]
 by_cases c0:f.blocks.length=0
 ·rw[if_pos (by simp[c0])]
  refine⟨_,rfl,⟨rfl,rfl,by simp,?_,?_,?_⟩,fun b' h=>by omega⟩
  ·intro s hs;simp[c0] at hs
  ·intro b j s v hs;simp[c0] at hs
  ·intro j s v hs;simp[c0] at hs
 ·rw[if_neg (by rw[decide_eq_true_eq];omega)]
  obtain⟨s0,e3,hV0,hB0⟩:=new_ok (n:=(idl f).length) (by omega) fuel
  obtain⟨s1,x3,e4,hV1,hB1⟩:=asg_b3 hn hf (List.replicate f.blocks.length S) hV0 hB0
  obtain⟨g,eg,hg1,hg2,hg3,hg4⟩:=new_f hn.1 (fuel:=fuel) (by omega)
  obtain⟨w,eo,hP,hwl⟩:=order_ok hn.1 (fuel:=fuel) hg3 hg1 hf (by omega)
  have hi0:idx (List.replicate f.blocks.length S) 0=some S:=idx_ok (by omega) (by rw[show(0:Int).toNat=0 from rfl,List.getElem?_replicate,if_pos (by omega)])
  have hset:setI (List.replicate f.blocks.length S) 0 s1=some ((List.replicate f.blocks.length S).set 0 s1):=yv (i:=0) (by simp;omega)
  have hget: ∀t:Nat,((List.replicate f.blocks.length S).set 0 s1)[t]?=if t=0 then some s1 else if t<f.blocks.length then some S else none:=by
   intro t
   by_cases e:t=0
   ·subst e;rw[List.getElem?_set_self (by simp;omega),if_pos rfl]
   ·rw[List.getElem?_set_ne (by omega),if_neg e,List.getElem?_replicate]
  have hwlt: ∀x∈w.reverse,x<f.blocks.length:=by
   intro x hx
   have:=(hP.mem x).1 (List.mem_reverse.1 hx)
   exact Path.closed (C:=fun j=>j<f.blocks.length) (fun a b _ hE _=>TT_lt hn.1 hE) this (by omega)
  have hK:KInv f ⟨f,idl f,(List.replicate f.blocks.length S).set 0 s1⟩:=by
   refine⟨rfl,rfl,by simp,?_,?_,?_⟩
   ·intro s hs
    rcases List.mem_or_eq_of_mem_set hs with hs|rfl
    ·rw[(List.mem_replicate.1 hs).2];exact hSV
    ·exact hV1
   ·intro b j s v hs hj hb0
    have hs:((List.replicate f.blocks.length S).set 0 s1)[b]?=some s:=hs
    rw[hget b] at hs
    by_cases e:b=0
    ·subst e
     rw[if_pos rfl] at hs;cases hs
     refine⟨fun hp=>?_,.one trivial⟩
     rw[(hB1 j).2 ⟨v,hj,hp⟩] at hb0;cases hb0
    ·rw[if_neg e] at hs
     split at hs
     ·cases hs
      rw[hSB j,decide_eq_true (List.getElem?_eq_some_iff.1 hj).1] at hb0;cases hb0
     ·cases hs
   ·intro j s v hs hj hp
    have hs:((List.replicate f.blocks.length S).set 0 s1)[0]?=some s:=hs
    rw[hget 0,if_pos rfl] at hs;cases hs
    cases c:bH s1 j
    ·rfl
    ·obtain⟨v',h1,h2⟩:=(hB1 j).1 c
     rw[hj] at h1;cases h1;exact absurd h2 hp
  have h0w:0∈w.reverse:=List.mem_reverse.2 (List.mem_of_getLast? hP.last)
  obtain⟨x,k',e5,hK',hC'⟩:=asg_loop hn hf hg1 hg3 hK (w:=w.reverse) ((List.reverse_perm w).nodup_iff.2 hP.nd) hwlt (by
   intro b' hb' hno s t to j v hs _ _ hj _
   have hs:((List.replicate f.blocks.length S).set 0 s1)[b']?=some s:=hs
   rw[hget b',if_neg (by intro e;subst e;exact hno h0w),if_pos hb'] at hs
   cases hs
   left
   rw[hSB j,decide_eq_true (List.getElem?_eq_some_iff.1 hj).1])
  simp only[e3,Option.bind_some,e4,hi0,hset,eg,eo,e5]
  exact⟨k',rfl,hK',hC'⟩
theorem sure_iff{k:zL}(hK:KInv f k)(hC: ∀b'<f.blocks.length,clo f k b'){b j:Nat}{s:zG}{v:Int}(hs:k.in_[b]?=some s)(hj:(idl f)[j]?=some v):bH s j=true↔ ¬Wo f v b:=by
 constructor
 ·intro h hw
  have: ∀b,Wo f v b→ ∀s,k.in_[b]?=some s→bH s j=false:=by
   intro b hw
   refine Path.closed (C:=fun b=> ∀s,k.in_[b]?=some s→bH s j=false) ?_ hw.2 ?_
   ·intro a c ha hE _ t ht
    obtain⟨h1,h2⟩:=hE
    have ha2:a<f.blocks.length:=TT_fst h1
    obtain⟨q,hq⟩:=getAt (xs:=k.in_) (i:=a) (by rw[hK.hl];exact ha2)
    cases c2:bH t j
    ·rfl
    ·rcases hC a ha2 q t c j v hq h1 ht hj c2 with h3|h3
     ·rw[ha q hq] at h3;cases h3
     ·exact absurd h3 h2
   ·intro s hs
    exact hK.d0 j s v hs hj hw.1
  rw[this b hw s hs] at h;cases h
 ·intro h
  cases c:bH s j
  ·exact absurd (hK.d1 b j s v hs hj c) h
  ·rfl
end
end Go.Proofs.YtmogcnnhbmaffaaGreat.PL
set_option linter.unusedVariables false
set_option linter.unusedSectionVars false
set_option linter.unusedSimpArgs false
namespace Go.Proofs.YtmogcnnhbmaffaaGreat.PL
open Go
def sr(f:Fnc)(b i:Nat)(v:Int):Prop:=v∈idl f∧(¬Wo f v b∨gbN f b i v)
def AllSr(f:Fnc):Prop:= ∀(b i:Nat) (bl:Bl) (x:Ins) (a:Opd),f.blocks[b]?=some bl→bl.code[i]?=some x→a∈x.args→a.kind=1→sr f b i a.n
section
variable {f:Fnc} (hn:fBk f) {fuel:Nat} (hf:17592186044416<fuel) {k:zL} (hK:KInv f k) (hC: ∀b'<f.blocks.length,clo f k b')
include hn hf hK hC
def isSr(f:Fnc)(b i:Nat)(s:zG):Prop:=bV s (idl f).length∧ ∀(j:Nat) (v:Int),(idl f)[j]?=some v→(bH s j=true↔(¬Wo f v b∨gbN f b i v))
theorem fst_has{b i:Nat}{s:zG}(hs:isSr f b i s)(v:Int): ∃c:Bool,((pz2x fuel k v).bind fun r2=>(pz2c fuel s r2).bind fun r3=>some (!r3))=some (!c)∧(c=true↔sr f b i v):=by
 have hil:=zzE f
 have hr:=hn.2.1
 have hpl:=place_ok (k:=k) (by rw[hK.hi];omega) (by rw[hK.hi];exact kh f) (fuel:=fuel) (by rw[hK.hi];omega) v
 rw[hK.hi] at hpl
 rw[hpl]
 rcases plc_lt (kh f) v with ⟨e,hno⟩|⟨j,e,hj,hx⟩
 ·refine⟨false,?_,⟨fun h=>(by cases h),fun h=>absurd h.1 hno⟩⟩
  rw[e]
  simp only[Option.bind_some,has_ok hs.1 (show(idl f).length≤4294967296 by omega) fuel (-1)]
  simp
 ·refine⟨bH s j,?_,?_⟩
  ·rw[e]
   simp only[Option.bind_some,has_ok hs.1 (show(idl f).length≤4294967296 by omega) fuel (j:Int)]
   have:(decide (0≤(j:Int)∧(j:Int)<((idl f).length:Int)))=true:=by simp;omega
   rw[this]
   simp
  ·rw[hs.2 j v hx]
   exact⟨fun h=>⟨List.mem_of_getElem? hx,h⟩,fun h=>h.2⟩
theorem fst_b3{b i:Nat}{s:zG}(hs:isSr f b i s){x:Ins}(hx:x.args.length≤1048576)(B I:Int):
  (∃q,loopE fuel (fun s'=>pz3l fuel k B I s x s') 0=some (.n q)∧ ∀a∈x.args,a.kind=1→sr f b i a.n)∨
  ∃a,a∈x.args∧a.kind=1∧ ¬sr f b i a.n∧loopE fuel (fun s'=>pz3l fuel k B I s x s') 0=some (.r (.r (.r (B,I,a.n,true)))):=by
 have key:=zr (ρ:=Ex (Int×zG) (Ex Int (Int×Int×Int×Bool))) (fun q:Int=> ∃j:Nat,q=j∧j≤x.args.length∧ ∀a∈x.args.take j,a.kind=1→sr f b i a.n) (fun _=> ∀a∈x.args,a.kind=1→sr f b i a.n)
  (fun v=> ∃a,a∈x.args∧a.kind=1∧ ¬sr f b i a.n∧v= .r (.r (B,I,a.n,true))) (fun q=>x.args.length-q.toNat) (fun s'=>pz3l fuel k B I s x s') (by
   rintro q ⟨j,rfl,hj,hA⟩
   unfold pz3l
   by_cases h:j<x.args.length
   ·have hlt:(j:Int)<(x.args.length:Int):=by omega
    obtain⟨a,ha⟩:=getAt (xs:=x.args) (i:=j) h
    have hm:a∈x.args:=List.mem_of_getElem? ha
    have htk: ∀y,y∈x.args.take (j+1)↔y∈x.args.take j∨y=a:=by
     intro y;rw[List.take_add_one,ha];simp
    obtain⟨c,e,hc⟩:=fst_has hn hf hK hC hs a.n
    have hme:x.args.length-(IntKind.i64.wrap ((j:Int)+1)).toNat<x.args.length-((j:Int)).toNat:=by rw[wrap1 (by omega)];omega
    by_cases ck:a.kind=1
    ·simp only[hlt,decide_true,if_true,zb ha,Option.bind_some,ck,e]
     cases c with
     |true=>
      left
      refine⟨_,rfl,⟨j+1,wrap1 (by omega),by omega,fun y hy hk=>?_⟩,hme⟩
      rcases (htk y).1 hy with hy|rfl
      ·exact hA y hy hk
      ·exact hc.1 rfl
     |false=>
      right;right
      refine⟨_,rfl,a,hm,ck,fun h=>?_,rfl⟩
      have:=hc.2 h
      cases this
    ·left
     simp only[hlt,decide_true,if_true,zb ha,Option.bind_some,ck,decide_false,Bool.false_eq_true,if_false]
     refine⟨_,rfl,⟨j+1,wrap1 (by omega),by omega,fun y hy hk=>?_⟩,hme⟩
     rcases (htk y).1 hy with hy|rfl
     ·exact hA y hy hk
     ·exact absurd hk ck
   ·right;left
    have hlt: ¬(j:Int)<(x.args.length:Int):=by omega
    simp only[hlt,decide_false,Bool.false_eq_true,if_false]
    refine⟨_,rfl,?_⟩
    rw[List.take_of_length_le (by omega)] at hA
    exact hA) fuel 0 ⟨0,rfl,by omega,by simp⟩ (by simp;omega)
 rcases key with ⟨q,h1,h2⟩|⟨v,h1,a,h2,h3,h4,rfl⟩
 ·exact .inl ⟨q,h1,h2⟩
 ·exact .inr ⟨a,h2,h3,h4,h1⟩
theorem fst_b2{b:Nat}{bl:Bl}(hb:f.blocks[b]?=some bl){s0:zG}(hs0:isSr f b 0 s0)(B:Int):
  (∃q,loopE fuel (fun s'=>pz3m fuel k B bl s'.1 s'.2) (0,s0)=some (.n q)∧ ∀(i:Nat) (x:Ins) (a:Opd),bl.code[i]?=some x→a∈x.args→a.kind=1→sr f b i a.n)∨
  ∃(i:Nat) (x:Ins) (a:Opd),bl.code[i]?=some x∧a∈x.args∧a.kind=1∧ ¬sr f b i a.n∧loopE fuel (fun s'=>pz3m fuel k B bl s'.1 s'.2) (0,s0)=some (.r (.r (B,(i:Int),a.n,true))):=by
 have hil:=zzE f
 have hr:=hn.2.1
 have hmem:bl∈f.blocks:=List.mem_of_getElem? hb
 have hcl:=(hn.1.2 bl hmem).1
 have key:=zr (ρ:=Ex Int (Int×Int×Int×Bool)) (fun q:Int×zG=> ∃j:Nat,q.1=j∧j≤bl.code.length∧isSr f b j q.2∧ ∀(i:Nat) (x:Ins) (a:Opd),i<j→bl.code[i]?=some x→a∈x.args→a.kind=1→sr f b i a.n)
  (fun _=> ∀(i:Nat) (x:Ins) (a:Opd),bl.code[i]?=some x→a∈x.args→a.kind=1→sr f b i a.n)
  (fun v=> ∃(i:Nat) (x:Ins) (a:Opd),bl.code[i]?=some x∧a∈x.args∧a.kind=1∧ ¬sr f b i a.n∧v= .r (B,(i:Int),a.n,true)) (fun q=>bl.code.length-q.1.toNat) (fun s'=>pz3m fuel k B bl s'.1 s'.2) (by
   rintro⟨q,s⟩ ⟨j,hq,hj,hs,hA⟩
   simp only at hq hs
   subst hq
   show(∃s',pz3m fuel k B bl (j:Int) s=some (.n s')∧_)∨(∃s',pz3m fuel k B bl (j:Int) s=some (.b s')∧_)∨(∃s',pz3m fuel k B bl (j:Int) s=some (.r s')∧_)
   unfold pz3m
   by_cases h:j<bl.code.length
   ·have hlt:(j:Int)<(bl.code.length:Int):=by omega
    obtain⟨x,hx⟩:=getAt (xs:=bl.code) (i:=j) h
    have hxm:x∈bl.code:=List.mem_of_getElem? hx
    have hxa:=(hn.2.2.2 bl hmem x hxm).1
    simp only[hlt,decide_true,if_true,zb hx,Option.bind_some]
    rcases fst_b3 hn hf hK hC hs (x:=x) hxa B (j:Int) with ⟨q,e,hall⟩|⟨a,ha,hk,hno,e⟩
    ·left
     obtain⟨s',eg,hV',hB'⟩:=give_ok (k:=k) (by rw[hK.hi];omega) (by rw[hK.hi];exact kh f) (by rw[hK.hi];exact hs.1) (fuel:=fuel) (by rw[hK.hi];omega) x
     rw[hK.hi] at hV' hB'
     rw[e]
     simp only[bindE,eg,Option.bind_some]
     refine⟨_,rfl,⟨j+1,wrap1 (by omega),by omega,⟨hV',fun jj v hv=>?_⟩,fun i y a hi hy ha hk=>?_⟩,?_⟩
     ·show bH s' jj=true↔_
      rw[hB' jj,Bool.or_eq_true,hs.2 jj v hv,decide_eq_true_eq]
      have htk: ∀y,y∈bl.code.take (j+1)↔y∈bl.code.take j∨y=x:=by
       intro y;rw[List.take_add_one,hx];simp
      constructor
      ·rintro((h|⟨bl',h1,y,h2,h3⟩)|⟨v',h1,h2⟩)
       ·exact .inl h
       ·rw[hb] at h1;cases h1
        exact .inr ⟨bl,hb,y,(htk y).2 (.inl h2),h3⟩
       ·rw[hv] at h2;cases h2
        exact .inr ⟨bl,hb,x,(htk x).2 (.inr rfl),h1⟩
      ·rintro(h|⟨bl',h1,y,h2,h3⟩)
       ·exact .inl (.inl h)
       ·rw[hb] at h1;cases h1
        rcases (htk y).1 h2 with h2|rfl
        ·exact .inl (.inr ⟨bl,hb,y,h2,h3⟩)
        ·exact .inr ⟨v,h3,hv⟩
     ·by_cases e2:i=j
      ·subst e2;rw[hx] at hy;cases hy;exact hall a ha hk
      ·exact hA i y a (by omega) hy ha hk
     ·show bl.code.length-(IntKind.i64.wrap ((j:Int)+1)).toNat<bl.code.length-((j:Int)).toNat
      rw[wrap1 (by omega)];omega
    ·right;right
     rw[e]
     exact⟨_,rfl,j,x,a,hx,ha,hk,hno,rfl⟩
   ·right;left
    have hlt: ¬(j:Int)<(bl.code.length:Int):=by omega
    simp only[hlt,decide_false,Bool.false_eq_true,if_false]
    refine⟨_,rfl,fun i x a hi ha hk=>hA i x a ?_ hi ha hk⟩
    have:=(List.getElem?_eq_some_iff.1 hi).1
    omega) fuel (0,s0) ⟨0,rfl,by omega,hs0,fun i x a hi=>by omega⟩ (by simp;omega)
 rcases key with ⟨q,h1,h2⟩|⟨v,h1,i,x,a,h2,h3,h4,h5,rfl⟩
 ·exact .inl ⟨q,h1,h2⟩
 ·exact .inr ⟨i,x,a,h2,h3,h4,h5,h1⟩
theorem first_ok:(pz3o fuel k=some (0,0,0,false)∧AllSr f)∨
  ∃(b i:Nat) (bl:Bl) (x:Ins) (a:Opd),f.blocks[b]?=some bl∧bl.code[i]?=some x∧a∈x.args∧a.kind=1∧ ¬sr f b i a.n∧pz3o fuel k=some ((b:Int),(i:Int),a.n,true):=by
 have hnb:=hn.1.1
 unfold pz3o
 have key:=zr (ρ:=Int×Int×Int×Bool) (fun q:Int=> ∃b:Nat,q=b∧b≤f.blocks.length∧ ∀(b' i:Nat) (bl:Bl) (x:Ins) (a:Opd),b'<b→f.blocks[b']?=some bl→bl.code[i]?=some x→a∈x.args→a.kind=1→sr f b' i a.n) (fun _=>AllSr f)
  (fun v=> ∃(b i:Nat) (bl:Bl) (x:Ins) (a:Opd),f.blocks[b]?=some bl∧bl.code[i]?=some x∧a∈x.args∧a.kind=1∧ ¬sr f b i a.n∧v=((b:Int),(i:Int),a.n,true)) (fun q=>f.blocks.length-q.toNat) (fun s=>pz3n fuel k s) (by
   rintro q ⟨b,rfl,hb,hA⟩
   unfold pz3n
   rw[hK.hl]
   by_cases h:b<f.blocks.length
   ·have hlt:(b:Int)<(f.blocks.length:Int):=by omega
    obtain⟨bl,hbl⟩:=getAt (xs:=f.blocks) (i:=b) h
    obtain⟨s,hs⟩:=getAt (xs:=k.in_) (i:=b) (by rw[hK.hl];exact h)
    have hV:=hK.hv s (List.mem_of_getElem? hs)
    have hil:=zzE f
    have hr:=hn.2.1
    have hbk:idx k.f.blocks (b:Int)=some bl:=by rw[hK.hf];exact zb hbl
    have hS:isSr f b 0 s:=⟨hV,fun j v hj=>by
     rw[sure_iff hn hf hK hC hs hj]
     constructor
     ·exact .inl
     ·rintro(h|⟨bl',_,y,h,_⟩)
      ·exact h
      ·simp at h⟩
    simp only[hlt,decide_true,if_true,zb hs,Option.bind_some,copy_ok hV (by omega) fuel,hbk]
    rcases fst_b2 hn hf hK hC hbl hS (b:Int) with ⟨q,e,hall⟩|⟨i,x,a,h1,h2,h3,h4,e⟩
    ·left
     rw[e]
     refine⟨_,rfl,⟨b+1,wrap1 (by omega),by omega,fun b' i bl' x a hb' h1 h2 h3 h4=>?_⟩,?_⟩
     ·by_cases e2:b'=b
      ·subst e2;rw[hbl] at h1;cases h1;exact hall i x a h2 h3 h4
      ·exact hA b' i bl' x a (by omega) h1 h2 h3 h4
     ·show f.blocks.length-(IntKind.i64.wrap ((b:Int)+1)).toNat<f.blocks.length-((b:Int)).toNat
      rw[wrap1 (by omega)];omega
    ·right;right
     rw[e]
     exact⟨_,rfl,b,i,bl,x,a,hbl,h1,h2,h3,h4,rfl⟩
   ·right;left
    have hlt: ¬(b:Int)<(f.blocks.length:Int):=by omega
    simp only[hlt,decide_false,Bool.false_eq_true,if_false]
    refine⟨_,rfl,fun b' i bl x a h1 h2 h3 h4=>hA b' i bl x a ?_ h1 h2 h3 h4⟩
    have:=(List.getElem?_eq_some_iff.1 h1).1
    omega) fuel 0 ⟨0,rfl,by omega,fun b' i bl x a h=>by omega⟩ (by simp;omega)
 rcases key with ⟨q,h1,h2⟩|⟨v,h1,b,i,bl,x,a,h2,h3,h4,h5,h6,rfl⟩
 ·left;rw[h1];exact⟨rfl,h2⟩
 ·right;rw[h1];exact⟨b,i,bl,x,a,h2,h3,h4,h5,h6,rfl⟩
end
end Go.Proofs.YtmogcnnhbmaffaaGreat.PL
set_option linter.unusedVariables false
set_option linter.unusedSectionVars false
set_option linter.unusedSimpArgs false
namespace Go.Proofs.YtmogcnnhbmaffaaGreat.PL
open Go
abbrev FU:Nat:=1152921504606846976
theorem bidx_nat{s:ByteArray}{k:Nat}(h:k<s.size): ∃c:Nat,bidx s (k:Int)=some (c:Int):=by
 unfold bidx
 rw[if_pos (by omega)]
 have h2:k<s.data.size:=h
 refine⟨(s.data[k]).toNat,?_⟩
 rw[show((k:Int)).toNat=k by omega,Array.getElem?_eq_getElem h2]
 rfl
theorem right_tot(fuel:Nat)(hf:100<fuel)(s:ByteArray): ∃b,pz9 fuel s=some b:=by
 unfold pz9
 by_cases c:((decide (s=(⟨#[]⟩:ByteArray)))||(decide (24<(s.size:Int))))=true
 ·rw[if_pos c];exact⟨false,rfl⟩
 ·rw[if_neg c]
  simp only[Bool.or_eq_true,decide_eq_true_eq,not_or] at c
  have h0:0<s.size:=by
   rcases Nat.eq_zero_or_pos s.size with h|h
   ·exfalso
    apply c.1
    have:s.data= #[]:=Array.eq_empty_of_size_eq_zero h
    cases s;simp_all
   ·exact h
  obtain⟨c1,e1⟩:=bidx_nat (s:=s) (k:=0) h0
  have e1':bidx s 0=some (c1:Int):=e1
  simp only[e1',Option.bind_some,pz6]
  split
  ·exact⟨_,rfl⟩
  ·have key:=zr (ρ:=Bool) (fun q:Int=> ∃k:Nat,q=k∧k≤s.size) (fun _=>True) (fun _=>True) (fun q=>s.size-q.toNat) (fun q=>pz8 fuel s q) (by
    rintro q ⟨k,rfl,hk⟩
    unfold pz8
    by_cases h:k<s.size
    ·have hlt:(k:Int)<(s.size:Int):=by omega
     obtain⟨c,e⟩:=bidx_nat h
     simp only[hlt,decide_true,if_true,e,Option.bind_some,pz7,pz6]
     split
     ·exact .inr (.inr ⟨_,rfl,trivial⟩)
     ·refine .inl ⟨_,rfl,⟨k+1,wrap1 (by omega),by omega⟩,?_⟩
      rw[wrap1 (by omega)];omega
    ·have hlt: ¬(k:Int)<(s.size:Int):=by omega
     simp only[hlt,decide_false,Bool.false_eq_true,if_false]
     exact .inr (.inl ⟨_,rfl,trivial⟩)) fuel 0 ⟨0,rfl,by omega⟩ (by simp;omega)
   rcases key with ⟨q,h1,_⟩|⟨v,h1,_⟩
   ·rw[h1];exact⟨_,rfl⟩
   ·rw[h1];exact⟨_,rfl⟩
def cls(f:Fnc)(v:Int):Option Int:=(f.regs.find? fun r=>decide (r.id=v)).map fun r=>r.cls
theorem find_take{α:Type}{p:α→Bool}{l:List α}{k:Nat}(h: ∀y∈l.take k,p y=false){x:α}(hx:l[k]?=some x)(hp:p x=true):l.find? p=some x:=by
 have e:l=l.take k++x::l.drop (k+1):=by
  have hk:=(List.getElem?_eq_some_iff.1 hx).1
  have:=(List.getElem?_eq_some_iff.1 hx).2
  rw[←this,←List.drop_eq_getElem_cons hk,List.take_append_drop]
 rw[e,List.find?_append]
 have:(l.take k).find? p=none:=by
  rw[List.find?_eq_none]
  intro y hy;rw[h y hy];simp
 rw[this]
 simp[hp]
theorem class_ok{f:Fnc}(hr:f.regs.length≤1048576){fuel:Nat}(hf:1048577<fuel)(v:Int):pzf fuel f v=some ((cls f v).getD 0,(cls f v).isSome):=by
 unfold pzf
 have key:=zr (ρ:=Int×Bool) (fun q:Int=> ∃k:Nat,q=k∧k≤f.regs.length∧ ∀r∈f.regs.take k,decide (r.id=v)=false) (fun _=> ∀r∈f.regs,decide (r.id=v)=false) (fun w=> ∃r,f.regs.find? (fun r=>decide (r.id=v))=some r∧w=(r.cls,true)) (fun q=>f.regs.length-q.toNat) (fun q=>pze fuel f v q) (by
  rintro q ⟨k,rfl,hk,hA⟩
  unfold pze
  by_cases h:k<f.regs.length
  ·have hlt:(k:Int)<(f.regs.length:Int):=by omega
   obtain⟨r,hx⟩:=getAt (xs:=f.regs) (i:=k) h
   simp only[hlt,decide_true,if_true,zb hx,Option.bind_some]
   by_cases c:r.id=v
   ·refine .inr (.inr ⟨_,by rw[if_pos (by simp[c])],r,find_take hA hx (by simp[c]),rfl⟩)
   ·refine .inl ⟨_,by rw[if_neg (by simp[c])],⟨k+1,wrap1 (by omega),by omega,fun y hy=>?_⟩,by rw[wrap1 (by omega)];omega⟩
    rw[List.take_add_one,hx] at hy
    rcases List.mem_append.1 hy with hy|hy
    ·exact hA y hy
    ·rw[Option.toList_some,List.mem_singleton] at hy
     subst hy;simp[c]
  ·have hlt: ¬(k:Int)<(f.regs.length:Int):=by omega
   simp only[hlt,decide_false,Bool.false_eq_true,if_false]
   rw[List.take_of_length_le (by omega)] at hA
   exact .inr (.inl ⟨_,rfl,hA⟩)) fuel 0 ⟨0,rfl,by omega,by simp⟩ (by simp;omega)
 rcases key with ⟨q,h1,h2⟩|⟨w,h1,r,h2,rfl⟩
 ·rw[h1]
  have:cls f v=none:=by
   unfold cls
   rw[List.find?_eq_none.2 (fun r hr=>by rw[h2 r hr];simp)];rfl
  rw[this];rfl
 ·rw[h1]
  have:cls f v=some r.cls:=by unfold cls;rw[h2];rfl
  rw[this];rfl
theorem class_ref{f:Fnc}(hr:f.regs.length≤1048576)(fuel:Nat)(v:Int):pz46 fuel f v=some ((cls f v).getD (-1)):=by
 unfold pz46
 have key:=zzx (ρ:=Int) (fun k (_:Unit)=> ∀r∈f.regs.take k,decide (r.id=v)=false) (fun w=> ∃r,f.regs.find? (fun r=>decide (r.id=v))=some r∧w=r.cls) (fun i _=>pz45 fuel f v i) f.regs.length (by omega) (s:=()) (by simp) (by
  intro k _ h hA
  obtain⟨r,hx⟩:=getAt (xs:=f.regs) (i:=k) h
  unfold pz45
  simp only[zb hx,Option.bind_some]
  by_cases c:r.id=v
  ·exact .inr ⟨_,by rw[if_pos (by simp[c])],r,find_take hA hx (by simp[c]),rfl⟩
  ·refine .inl ⟨(),by rw[if_neg (by simp[c])],fun y hy=>?_⟩
   rw[List.take_add_one,hx] at hy
   rcases List.mem_append.1 hy with hy|hy
   ·exact hA y hy
   ·rw[Option.toList_some,List.mem_singleton] at hy
    subst hy;simp[c])
 rcases key with ⟨q,h1,h2⟩|⟨w,h1,r,h2,rfl⟩
 ·rw[h1]
  rw[List.take_of_length_le (by omega)] at h2
  have:cls f v=none:=by
   unfold cls
   rw[List.find?_eq_none.2 (fun r hr=>by rw[h2 r hr];simp)];rfl
  rw[this];rfl
 ·rw[h1]
  have:cls f v=some r.cls:=by unfold cls;rw[h2];rfl
  rw[this];rfl
theorem yH{α:Type}{c:Prop} [Decidable c] {a b:Option α}(ha: ∃r,a=some r)(hb: ∃r,b=some r): ∃r,(if c then a else b)=some r:=by
 by_cases h:c
 ·rw[if_pos h];exact ha
 ·rw[if_neg h];exact hb
theorem yzU(fuel:Nat)(op:Int): ∃r,pzt fuel op=some r:=by
 unfold pzt
 by_cases c:((decide (1≤op))&&(decide (op≤15)))=true
 ·rw[if_pos c]
  simp only[Bool.and_eq_true,decide_eq_true_eq] at c
  obtain⟨k,hk⟩: ∃k:Nat,op-1=k:=⟨(op-1).toNat,by omega⟩
  rw[hk,yJ (by omega) (by omega)]
  obtain⟨x,hx⟩:=getAt (xs:=[(⟨#[97,100,100]⟩:ByteArray),(⟨#[115,117,98]⟩:ByteArray),(⟨#[109,117,108]⟩:ByteArray),(⟨#[97,110,100]⟩:ByteArray),(⟨#[111,114]⟩:ByteArray),(⟨#[120,111,114]⟩:ByteArray),(⟨#[115,104,108]⟩:ByteArray),(⟨#[115,104,114]⟩:ByteArray),(⟨#[115,97,114]⟩:ByteArray),(⟨#[100,105,118]⟩:ByteArray),(⟨#[114,101,109]⟩:ByteArray),(⟨#[101,113]⟩:ByteArray),(⟨#[110,101]⟩:ByteArray),(⟨#[108,116]⟩:ByteArray),(⟨#[108,101]⟩:ByteArray)]) (i:=k) (by simp;omega)
  rw[zb hx]
  exact⟨_,rfl⟩
 ·rw[if_neg c]
  repeat' (first|exact⟨_,rfl⟩|refine yH ?_ ?_)
end Go.Proofs.YtmogcnnhbmaffaaGreat.PL
set_option linter.unusedVariables false
set_option linter.unusedSectionVars false
set_option linter.unusedSimpArgs false
set_option maxRecDepth 100000
namespace Go.Proofs.YtmogcnnhbmaffaaGreat.PL
open Go
theorem zz{α β:Type}{a:Option α}{g:α→Option β}(h: ∃x,a=some x)(k: ∀x,∃r,g x=some r): ∃r,a.bind g=some r:=by
 obtain⟨x,rfl⟩:=h;exact k x
theorem is_tot(fuel:Nat)(op:Int): ∃b,pzu fuel op=some b:=by
 unfold pzu;obtain⟨⟨r1,r2⟩,e⟩:=yzU fuel op;rw[e];exact⟨_,rfl⟩
theorem mach_tot(fuel:Nat)(op:Int): ∃b,pzv fuel op=some b:=by
 unfold pzv;obtain⟨⟨r1,r2⟩,e⟩:=yzU fuel op;rw[e];exact⟨_,rfl⟩
theorem gives_tot(fuel:Nat)(op:Int): ∃b,pzz fuel op=some b:=by
 unfold pzz;obtain⟨⟨r1,r2⟩,e⟩:=yzU fuel op;rw[e];exact⟨_,rfl⟩
theorem labels_tot(fuel:Nat)(op c:Int): ∃b,pz10 fuel op c=some b:=by
 unfold pz10;obtain⟨⟨r1,r2⟩,e⟩:=yzU fuel op;rw[e]
 exact yH ⟨_,rfl⟩ ⟨_,rfl⟩
theorem ix2_tot{k:Nat}(h:k<2): ∃c,ix2 (k:Int)=some c:=by
 have:k=0∨k=1:=by omega
 rcases this with rfl|rfl
 ·exact⟨_,rfl⟩
 ·exact⟨_,rfl⟩
theorem args_tot{fuel:Nat}(hf:100<fuel)(op:Int): ∃b,pzy fuel op=some b:=by
 unfold pzy;obtain⟨⟨r1,r2⟩,e⟩:=yzU fuel op;rw[e]
 refine yH ⟨_,rfl⟩ (yH ⟨_,rfl⟩ ?_)
 have key:=zr (ρ:=Int×Int) (fun q:Int=> ∃k:Nat,q=k∧k≤2) (fun _=>True) (fun _=>True) (fun q=>2-q.toNat) (fun q=>pzx fuel r1 q) (by
  rintro q ⟨k,rfl,hk⟩
  unfold pzx
  by_cases h:k<2
  ·have hlt:(k:Int)<2:=by omega
   obtain⟨c,e⟩:=ix2_tot h
   simp only[hlt,decide_true,if_true,e,Option.bind_some]
   split
   ·refine .inl ⟨_,rfl,⟨k+1,wrap1 (by omega),by omega⟩,?_⟩
    rw[wrap1 (by omega)];omega
   ·exact .inr (.inl ⟨_,rfl,trivial⟩)
  ·have hlt: ¬(k:Int)<2:=by omega
   simp only[hlt,decide_false,Bool.false_eq_true,if_false,Option.bind_some]
   exact .inr (.inl ⟨_,rfl,trivial⟩)) fuel 0 ⟨0,rfl,by omega⟩ (by simp;omega)
 rcases key with ⟨q,h1,_⟩|⟨v,h1,_⟩
 ·rw[h1];exact⟨_,rfl⟩
 ·rw[h1];exact⟨_,rfl⟩
theorem place_tot(fuel:Nat)(op i:Int): ∃b,pz1u fuel op i=some b:=by
 unfold pz1u;obtain⟨⟨r1,r2⟩,e⟩:=yzU fuel op;rw[e]
 refine yH ⟨_,rfl⟩ (yH ⟨_,rfl⟩ ?_)
 by_cases c:((decide (0≤i))&&(decide (i<2)))=true
 ·rw[if_pos c]
  simp only[Bool.and_eq_true,decide_eq_true_eq] at c
  obtain⟨k,rfl⟩:=Int.eq_ofNat_of_zero_le c.1
  obtain⟨c2,e2⟩:=ix2_tot (k:=k) (by omega)
  rw[e2];exact⟨_,rfl⟩
 ·rw[if_neg c];exact⟨_,rfl⟩
theorem takes_tot(fuel:Nat)(op i kd:Int)(m:Bool): ∃b,pz1v fuel op i kd m=some b:=by
 unfold pz1v
 refine zz (place_tot fuel op i) fun r1=>?_
 refine yH ⟨_,rfl⟩ (yH ?_ (yH ⟨_,rfl⟩ (yH ⟨_,rfl⟩ (yH ⟨_,rfl⟩ ⟨_,rfl⟩))))
 refine zz (yH (zz (mach_tot fuel op) fun _=>⟨_,rfl⟩) ⟨_,rfl⟩) fun _=>⟨_,rfl⟩
theorem takes_kind{fuel:Nat}{op i kd:Int}(h:pz1v fuel op i kd false=some true):kd≠2∧kd≠3:=by
 unfold pz1v at h
 obtain⟨p,e⟩:=place_tot fuel op i
 rw[e] at h
 constructor
 ·rintro rfl;simp at h
 ·rintro rfl;simp at h
theorem classes_tot{fuel:Nat}(hf:100<fuel)(op i:Int): ∃l,pz1x fuel op i=some l∧l.length≤2:=by
 unfold pz1x
 obtain⟨p,e⟩:=place_tot fuel op i
 rw[e]
 simp only[Option.bind_some]
 have key:=zr (ρ:=List Int) (fun q:Int×List Int=> ∃k:Nat,q.1=k∧k≤2∧q.2.length≤k) (fun q=>q.2.length≤2) (fun _=>False) (fun q=>2-q.1.toNat) (fun s=>pz1w fuel p s.1 s.2) (by
  rintro⟨q,l⟩ ⟨k,hq,hk,hl⟩
  simp only at hq hl
  subst hq
  show(∃s',pz1w fuel p (k:Int) l=some (.n s')∧_)∨(∃s',pz1w fuel p (k:Int) l=some (.b s')∧_)∨_
  unfold pz1w
  by_cases h:k<2
  ·left
   have hlt:(k:Int)<2:=by omega
   obtain⟨c,e⟩:=ix2_tot h
   have ha:app l ([(k:Int)]:List Int)=some (l++[(k:Int)]):=yt (by simp;omega)
   simp only[hlt,decide_true,if_true,e,Option.bind_some,ha]
   have hm:2-(IntKind.i64.wrap ((k:Int)+1)).toNat<2-((k:Int)).toNat:=by rw[wrap1 (by omega)];omega
   split
   ·refine⟨_,rfl,⟨k+1,wrap1 (by omega),by omega,?_⟩,hm⟩
    show(l++[(k:Int)]).length≤k+1
    simp;omega
   ·refine⟨_,rfl,⟨k+1,wrap1 (by omega),by omega,?_⟩,hm⟩
    show l.length≤k+1
    omega
  ·right;left
   have hlt: ¬(k:Int)<2:=by omega
   simp only[hlt,decide_false,Bool.false_eq_true,if_false]
   refine⟨_,rfl,?_⟩
   show l.length≤2
   omega) fuel (0,[]) ⟨0,rfl,by omega,by simp⟩ (by simp;omega)
 rcases key with ⟨⟨q,l⟩,h1,h2⟩|⟨v,h1,h⟩
 ·rw[h1];exact⟨l,rfl,h2⟩
 ·exact h.elim
theorem fits_tot{fuel:Nat}(hf:100<fuel)(op i c:Int): ∃b,pz1y fuel op i c=some b:=by
 unfold pz1y
 obtain⟨l,e,hl⟩:=classes_tot hf op i
 rw[e]
 simp only[Option.bind_some,in_sl (l:=l) (by omega) (fuel:=fuel) (by omega) c]
 exact⟨_,rfl⟩
theorem is_op{fuel:Nat}{op:Int}(h:pzu fuel op=some true):1≤op∧op≤27:=by
 by_cases c:1≤op∧op≤27
 ·exact c
 ·exfalso
  have c0: ¬(1≤op∧op≤15):=by omega
  have h16: ¬op=16:=by omega
  have h17: ¬op=17:=by omega
  have h18: ¬op=18:=by omega
  have h19: ¬op=19:=by omega
  have h20: ¬op=20:=by omega
  have h21: ¬op=21:=by omega
  have h22: ¬op=22:=by omega
  have h23: ¬op=23:=by omega
  have h24: ¬op=24:=by omega
  have h25: ¬op=25:=by omega
  have h26: ¬op=26:=by omega
  have h27: ¬op=27:=by omega
  unfold pzu pzt at h
  rw[if_neg (by simpa using c0)] at h
  simp only[h16,h17,h18,h19,h20,h21,h22,h23,h24,h25,h26,h27,decide_false,Bool.false_eq_true,if_false,Option.bind_some] at h
  cases h
theorem fits_far{fuel:Nat}(hf:100<fuel){op i c:Int}(hi:8≤i):pz1y fuel op i c=some false:=by
 have hp:pz1u fuel op i=some 0:=by
  unfold pz1u;obtain⟨⟨r1,r2⟩,e⟩:=yzU fuel op;rw[e]
  have h1: ¬i= -1:=by omega
  have h2: ¬i<8:=by omega
  have h3: ¬i<2:=by omega
  simp[h1,h2,h3]
 have hc:pz1x fuel op i=some []:=by
  unfold pz1x
  rw[hp]
  obtain⟨n,rfl⟩: ∃n,fuel=n+3:=⟨fuel-3,by omega⟩
  rfl
 unfold pz1y
 rw[hc]
 simp only[Option.bind_some,in_sl (l:=[]) (by simp) (fuel:=fuel) (by simp;omega) c]
 simp
theorem fits_tab: ∀(o:Fin 28) (a:Fin 9) (c:Fin 2),(pz1y FU (o.val:Int) ((a.val:Int)-1) (c.val:Int)==some true)=true→(pz47 FU (o.val:Int) ((a.val:Int)-1) (c.val:Int)==some true)=true:=by decide+kernel
theorem fits_ref{op i c:Int}(ho:1≤op∧op≤27)(hi: -1≤i)(hc:0≤c∧c<2)(h:pz1y FU op i c=some true):pz47 FU op i c=some true:=by
 by_cases h8:8≤i
 ·rw[fits_far (by decide) h8] at h;cases h
 ·obtain⟨o,ho'⟩: ∃o:Nat,op=o:=⟨op.toNat,by omega⟩
  obtain⟨a,ha⟩: ∃a:Nat,i=(a:Int)-1:=⟨(i+1).toNat,by omega⟩
  obtain⟨d,hd⟩: ∃d:Nat,c=d:=⟨c.toNat,by omega⟩
  subst ho' ha hd
  have:=fits_tab ⟨o,by omega⟩ ⟨a,by omega⟩ ⟨d,by omega⟩ (by rw[h];rfl)
  simpa using this
end Go.Proofs.YtmogcnnhbmaffaaGreat.PL
set_option linter.unusedVariables false
set_option linter.unusedSectionVars false
set_option linter.unusedSimpArgs false
set_option maxRecDepth 100000
namespace Go.Proofs.YtmogcnnhbmaffaaGreat.PL
open Go
theorem letter_tot(fuel:Nat)(c:Int): ∃b,pz19 fuel c=some b:=by
 unfold pz19
 by_cases h:((decide (c<0))||(decide (2≤c)))=true
 ·rw[if_pos h];exact⟨_,rfl⟩
 ·rw[if_neg h]
  simp only[Bool.or_eq_true,decide_eq_true_eq,not_or] at h
  have:bsli (⟨#[103,120]⟩:ByteArray) c (IntKind.wrap .i64 (c+1))=some ((⟨#[103,120]⟩:ByteArray).extract c.toNat (IntKind.wrap .i64 (c+1)).toNat):=by
   unfold bsli
   rw[yJ (by omega) (by omega),if_pos]
   refine⟨by omega,by omega,?_⟩
   show c+1≤2
   omega
  rw[this];exact⟨_,rfl⟩
theorem cright_tot(fuel:Nat)(o:Opd): ∃b,pz1b fuel o=some b:=by
 unfold pz1b
 have h1: ∃b,pz17 fuel o=some b:=⟨_,rfl⟩
 have h2: ∀n,∃b,pz18 fuel n=some b:=fun n=>⟨_,rfl⟩
 have h3: ∃b,pz1a fuel o.cls=some b:=zz (letter_tot fuel _) fun _=>⟨_,rfl⟩
 refine yH (zz h1 fun _=>⟨_,rfl⟩) (yH (zz h1 fun _=>zz (yH (zz (h2 _) fun _=>⟨_,rfl⟩) ⟨_,rfl⟩) fun _=>⟨_,rfl⟩) (yH (zz h1 fun _=>⟨_,rfl⟩) (yH ?_ (yH ?_ ⟨_,rfl⟩))))
 ·exact zz h3 fun _=>zz (yH (zz (h2 _) fun _=>⟨_,rfl⟩) ⟨_,rfl⟩) fun _=>zz (yH (zz (h2 _) fun _=>⟨_,rfl⟩) ⟨_,rfl⟩) fun _=>⟨_,rfl⟩
 ·exact zz (yH (zz (h2 _) fun _=>⟨_,rfl⟩) ⟨_,rfl⟩) fun _=>zz (yH (zz (h2 _) fun _=>⟨_,rfl⟩) ⟨_,rfl⟩) fun _=>⟨_,rfl⟩
theorem call_tot{fuel:Nat}(hf:100<fuel)(o:Opd): ∃b,pz1i fuel [o]=some b:=by
 unfold pz1i pz1h pz1g
 obtain⟨c,hc⟩:=cright_tot fuel o
 have h1:pz1e fuel o 115=some (!c):=by unfold pz1e pz1d;rw[if_pos rfl,hc];rfl
 have key:=zr (ρ:=Int) (fun q:Int=> ∃k:Nat,q=k∧k≤1) (fun _=>True) (fun _=>True) (fun q=>1-q.toNat) (fun q=>pz1f fuel [o] 115 q) (by
  rintro q ⟨k,rfl,hk⟩
  unfold pz1f
  by_cases h:k<1
  ·have:k=0:=by omega
   subst this
   have hi:idx [o] ((0:Nat):Int)=some o:=rfl
   have hlt:((0:Nat):Int)<(([o]:List Opd).length:Int):=by simp
   simp only[hlt,decide_true,if_true,hi,Option.bind_some,h1]
   split
   ·exact .inr (.inr ⟨_,rfl,trivial⟩)
   ·exact .inl ⟨_,rfl,⟨1,rfl,by omega⟩,by decide⟩
  ·have hlt: ¬(k:Int)<(([o]:List Opd).length:Int):=by simp;omega
   simp only[hlt,decide_false,Bool.false_eq_true,if_false]
   exact .inr (.inl ⟨_,rfl,trivial⟩)) fuel 0 ⟨0,rfl,by omega⟩ (by simp;omega)
 rcases key with ⟨q,h2,_⟩|⟨v,h2,_⟩
 ·rw[h2];exact⟨_,rfl⟩
 ·rw[h2];exact⟨_,rfl⟩
theorem canon_tot(o:Opd): ∃b,pz1t FU (⟨23,(⟨0,0,0,0⟩:Opd),([o]:List Opd),(⟨#[]⟩:ByteArray),0,[],[]⟩:Ins)=some b:=by
 unfold pz1t
 have hl: ∃b,pz1r FU (⟨23,(⟨0,0,0,0⟩:Opd),([o]:List Opd),(⟨#[]⟩:ByteArray),0,[],[]⟩:Ins)=some b:=by
  refine yH ⟨_,rfl⟩ (zz (labels_tot FU _ _) fun r1=>zz (yH ?_ ⟨_,rfl⟩) fun _=>⟨_,rfl⟩)
  exact⟨_,rfl⟩
 refine zz (args_tot (by decide) _) (fun r=>zz (is_tot _ _) fun r3=>zz (yH (zz (zz (yH (zz (cright_tot _ _) fun _=>⟨_,rfl⟩) ⟨_,rfl⟩) fun _=>⟨_,rfl⟩) fun _=>⟨_,rfl⟩) ⟨_,rfl⟩) fun b1=>zz (yH (zz (call_tot (by decide) o) fun _=>⟨_,rfl⟩) ⟨_,rfl⟩) fun b2=>zz (yH (zz hl fun _=>⟨_,rfl⟩) ⟨_,rfl⟩) fun b3=>zz (yH (zz ⟨_,rfl⟩ fun _=>⟨_,rfl⟩) ⟨_,rfl⟩) fun b4=>⟨_,rfl⟩)
theorem arity_tot{fuel:Nat}(hf:100<fuel)(x:Ins): ∃b,pz11 fuel x=some b:=by
 unfold pz11
 refine zz (args_tot hf _) (fun r=>zz (gives_tot _ _) fun r3=>zz (yH (zz (labels_tot _ _ _) fun _=>⟨_,rfl⟩) ⟨_,rfl⟩) fun _=>⟨_,rfl⟩)
theorem operand_ok{f:Fnc}(hr:f.regs.length≤1048576)(x:Ins)(i:Int)(o:Opd): ∃c,pz1z FU ⟨f⟩ x i o=some c∧(c=0→o.kind≠2∧o.kind≠3∧(o.kind=1→ ∃d,cls f o.n=some d∧pz1y FU x.op i d=some true)):=by
 unfold pz1z
 obtain⟨b,e⟩:=canon_tot o
 obtain⟨t,et⟩:=takes_tot FU x.op i o.kind false
 rw[e]
 simp only[Option.bind_some]
 cases b with
 |false=>exact⟨36,rfl,fun h=>by cases h⟩
 |true=>
  simp only[Bool.not_true,Bool.false_eq_true,if_false,et,Option.bind_some]
  cases t with
  |false=>exact⟨36,rfl,fun h=>by cases h⟩
  |true=>
   obtain⟨h2,h3⟩:=takes_kind et
   simp only[Bool.not_true,Bool.false_eq_true,if_false]
   by_cases c:o.kind=1
   ·simp only[c,ne_eq,not_true_eq_false,decide_false,Bool.false_eq_true,if_false,class_ok hr (fuel:=FU) (by decide),Option.bind_some]
    cases hc:cls f o.n with
    |none=>exact⟨38,rfl,fun h=>by cases h⟩
    |some d=>
     obtain⟨ft,ef⟩:=fits_tot (fuel:=FU) (by decide) x.op i d
     simp only[Option.getD_some,Option.isSome_some,Bool.not_true,Bool.false_eq_true,if_false,ef,Option.bind_some]
     cases ft with
     |false=>exact⟨37,rfl,fun h=>by cases h⟩
     |true=>exact⟨0,rfl,fun _=>⟨by decide,by decide,fun _=>⟨d,rfl,ef⟩⟩⟩
   ·refine⟨0,by simp[c],fun _=>⟨h2,h3,fun h=>absurd h c⟩⟩
theorem twice_tot{l:List Int}(hl:l.length≤1048576): ∃b,pz16 FU l=some b:=by
 have hFU:FU=1152921504606846976:=rfl
 unfold pz16
 have key:=zr (ρ:=Bool) (fun q:Int=> ∃k:Nat,q=k∧k≤l.length) (fun _=>True) (fun _=>True) (fun q=>l.length-q.toNat) (fun q=>pz15 FU l q) (by
  rintro q ⟨k,rfl,hk⟩
  unfold pz15
  by_cases h:k<l.length
  ·have hlt:(k:Int)<(l.length:Int):=by omega
   obtain⟨v,hv⟩:=getAt (xs:=l) (i:=k) h
   have hs:sli l 0 (k:Int)=some (l.take k):=by
    unfold sli;rw[if_pos (by omega)];simp
   have hin:=in_sl (l:=l.take k) (by simp;omega) (fuel:=FU) (by simp;omega) v
   simp only[hlt,decide_true,if_true,zb hv,Option.bind_some,hs,hin]
   split
   ·exact .inr (.inr ⟨_,rfl,trivial⟩)
   ·refine .inl ⟨_,rfl,⟨k+1,wrap1 (by omega),by omega⟩,?_⟩
    rw[wrap1 (by omega)];omega
  ·have hlt: ¬(k:Int)<(l.length:Int):=by omega
   simp only[hlt,decide_false,Bool.false_eq_true,if_false]
   exact .inr (.inl ⟨_,rfl,trivial⟩)) FU 0 ⟨0,rfl,by omega⟩ (by simp;omega)
 rcases key with ⟨q,h2,_⟩|⟨v,h2,_⟩
 ·rw[h2];exact⟨_,rfl⟩
 ·rw[h2];exact⟨_,rfl⟩
def InsOk(f:Fnc)(x:Ins)(last:Bool):Prop:=
 (1≤x.op∧x.op≤27)∧(decide (20≤x.op∧x.op≤23))=last∧(∀(k:Nat) (o:Opd),(x.dst::x.args)[k]?=some o→o.kind≠2∧o.kind≠3∧(o.kind=1→ ∃d,cls f o.n=some d∧pz1y FU x.op ((k:Int)-1) d=some true))∧ ∀l∈x.labels,fnd f l≠ -1∧fnd f l≠0
theorem instr_ok{f:Fnc}(hn:fBk f){b:Bl}(hb:b∈f.blocks){x:Ins}(hx:x∈b.code)(last:Bool): ∃c,pz22 FU ⟨f⟩ x last=some c∧(c=0→InsOk f x last):=by
 have hFU:FU=1152921504606846976:=rfl
 have hr:=hn.2.1
 have ha:=(hn.2.2.2 b hb x hx).1
 have hcs:=(hn.2.2.2 b hb x hx).2
 have hlb:=(hn.1.2 b hb).2 x hx
 unfold pz22
 obtain⟨b1,e1⟩:=is_tot FU x.op
 obtain⟨b2,e2⟩:=mach_tot FU x.op
 obtain⟨b3,e3⟩:=arity_tot (fuel:=FU) (by decide) x
 obtain⟨b4,e4⟩:=twice_tot hcs
 rw[e1]
 simp only[Option.bind_some]
 cases b1 with
 |false=>exact⟨34,rfl,fun h=>by cases h⟩
 |true=>
  have hop:=is_op e1
  simp only[Bool.not_true,Bool.false_eq_true,if_false,e2,Option.bind_some]
  cases b2 with
  |true=>exact⟨34,rfl,fun h=>by cases h⟩
  |false=>
   simp only[Bool.false_eq_true,if_false,pzw,Option.bind_some,e3]
   by_cases cl:(((decide (20≤x.op))&&(decide (x.op≤23))) !=last)=true
   ·rw[if_pos cl];exact⟨34,rfl,fun h=>by cases h⟩
   ·rw[if_neg cl]
    have hlast:(decide (20≤x.op∧x.op≤23))=last:=by
     rw[Bool.decide_and]
     simpa using cl
    cases b3 with
    |false=>exact⟨35,rfl,fun h=>by cases h⟩
    |true=>
     simp only[Bool.not_true,Bool.false_eq_true,if_false]
     by_cases c64:(64:Int)<(x.name.size:Int)
     ·rw[if_pos (by simpa using c64)];exact⟨3,rfl,fun h=>by cases h⟩
     ·rw[if_neg (by simpa using c64)]
      have hb3: ∃b3,(if(decide (16<(x.cases.length:Int)))=true then some true else(pz16 FU x.cases).bind fun r5=>some r5)=some b3:=yH ⟨_,rfl⟩ (by rw[e4];exact⟨_,rfl⟩)
      obtain⟨b5,e5⟩:=hb3
      rw[e5]
      simp only[Option.bind_some]
      cases b5 with
      |true=>exact⟨41,rfl,fun h=>by cases h⟩
      |false=>
       have happ:app ([x.dst]:List Opd) x.args=some (x.dst::x.args):=by rw[yt (by simp;omega)];rfl
       simp only[Bool.false_eq_true,if_false,happ,Option.bind_some]
       have key1:=zr (ρ:=Int) (fun q:Int=> ∃k:Nat,q=k∧k≤(x.dst::x.args).length∧ ∀(j:Nat) (o:Opd),j<k→(x.dst::x.args)[j]?=some o→o.kind≠2∧o.kind≠3∧(o.kind=1→ ∃d,cls f o.n=some d∧pz1y FU x.op ((j:Int)-1) d=some true))
        (fun _=> ∀(j:Nat) (o:Opd),(x.dst::x.args)[j]?=some o→o.kind≠2∧o.kind≠3∧(o.kind=1→ ∃d,cls f o.n=some d∧pz1y FU x.op ((j:Int)-1) d=some true)) (fun v=>v≠0) (fun q=>(x.dst::x.args).length-q.toNat) (fun q=>pz20 FU ⟨f⟩ x (x.dst::x.args) q) (by
        rintro q ⟨k,rfl,hk,hA⟩
        unfold pz20
        have hl1:(x.dst::x.args).length=x.args.length+1:=rfl
        by_cases h:k<(x.dst::x.args).length
        ·have hlt:(k:Int)<((x.dst::x.args).length:Int):=by omega
         obtain⟨o,ho⟩:=getAt (xs:=x.dst::x.args) (i:=k) h
         obtain⟨c,ec,hc⟩:=operand_ok hr x ((k:Int)-1) o
         rw[yJ (x:=(k:Int)-1) (by omega) (by omega)]
         simp only[hlt,decide_true,if_true,zb ho,Option.bind_some,ec]
         by_cases c0:c=0
         ·left
          rw[if_neg (by simp[c0])]
          refine⟨_,rfl,⟨k+1,wrap1 (by omega),by omega,fun j o' hj ho'=>?_⟩,by rw[wrap1 (by omega)];omega⟩
          by_cases e:j=k
          ·subst e;rw[ho] at ho';cases ho';exact hc c0
          ·exact hA j o' (by omega) ho'
         ·right;right
          rw[if_pos (by simp[c0])]
          exact⟨_,rfl,c0⟩
        ·have hlt: ¬(k:Int)<((x.dst::x.args).length:Int):=by omega
         simp only[hlt,decide_false,Bool.false_eq_true,if_false]
         refine .inr (.inl ⟨_,rfl,fun j o hj=>hA j o ?_ hj⟩)
         have:=(List.getElem?_eq_some_iff.1 hj).1
         omega) FU 0 ⟨0,rfl,by omega,fun j o hj=>by omega⟩ (by simp;omega)
       rcases key1 with ⟨q,h1,hO⟩|⟨v,h1,hv⟩
       ·rw[h1]
        simp only[bindE]
        have key2:=zr (ρ:=Int) (fun q:Int=> ∃k:Nat,q=k∧k≤x.labels.length∧ ∀l∈x.labels.take k,fnd f l≠ -1∧fnd f l≠0) (fun _=> ∀l∈x.labels,fnd f l≠ -1∧fnd f l≠0) (fun v=>v≠0) (fun q=>x.labels.length-q.toNat) (fun q=>pz21 FU ⟨f⟩ x q) (by
         rintro q ⟨k,rfl,hk,hA⟩
         unfold pz21
         by_cases h:k<x.labels.length
         ·have hlt:(k:Int)<(x.labels.length:Int):=by omega
          obtain⟨l,hl⟩:=getAt (xs:=x.labels) (i:=k) h
          simp only[hlt,decide_true,if_true,zb hl,Option.bind_some,fnd_ir hn.1 (fuel:=FU) (by decide) l]
          by_cases c1:fnd f l= -1
          ·right;right;rw[if_pos (by simpa using c1)];exact⟨_,rfl,by decide⟩
          ·by_cases c2:fnd f l=0
           ·right;right;rw[if_neg (by simpa using c1),if_pos (by simpa using c2)];exact⟨_,rfl,by decide⟩
           ·left
            rw[if_neg (by simpa using c1),if_neg (by simpa using c2)]
            refine⟨_,rfl,⟨k+1,wrap1 (by omega),by omega,fun y hy=>?_⟩,by rw[wrap1 (by omega)];omega⟩
            rw[List.take_add_one,hl] at hy
            rcases List.mem_append.1 hy with hy|hy
            ·exact hA y hy
            ·rw[Option.toList_some,List.mem_singleton] at hy
             subst hy;exact⟨c1,c2⟩
         ·have hlt: ¬(k:Int)<(x.labels.length:Int):=by omega
          simp only[hlt,decide_false,Bool.false_eq_true,if_false]
          rw[List.take_of_length_le (by omega)] at hA
          exact .inr (.inl ⟨_,rfl,hA⟩)) FU 0 ⟨0,rfl,by omega,by simp⟩ (by simp;omega)
        rcases key2 with ⟨q2,h2,hL⟩|⟨v,h2,hv⟩
        ·rw[h2];exact⟨0,rfl,fun _=>⟨hop,hlast,hO,hL⟩⟩
        ·rw[h2];exact⟨v,rfl,fun h=>absurd h hv⟩
       ·rw[h1];exact⟨v,rfl,fun h=>absurd h hv⟩
end Go.Proofs.YtmogcnnhbmaffaaGreat.PL
set_option linter.unusedVariables false
set_option linter.unusedSectionVars false
set_option linter.unusedSimpArgs false
set_option maxRecDepth 100000
namespace Go.Proofs.YtmogcnnhbmaffaaGreat.PL
open Go
theorem zzD{F:Int→Option (Ex Int (Int×Int×Int))}{m:Nat}{j j':Int}{r:zT}{P:Prop}(h:F j=if decide (r.code≠0)=true then some (.r (r.code,r.block,r.i)) else some (.n j'))
  (k:(∃v:Int×Int×Int,loopE m F j'=some (.r v)∧v.1≠0)∨(P∧loopE m F j'=some (.n 7))):(∃v:Int×Int×Int,loopE (m+1) F j=some (.r v)∧v.1≠0)∨((r.code=0∧P)∧loopE (m+1) F j=some (.n 7)):=by
 by_cases c:r.code=0
 ·rw[if_neg (by simp[c])] at h
  rw[loopE,h]
  rcases k with k|k
  ·exact .inl k
  ·exact .inr ⟨⟨c,k.1⟩,k.2⟩
 ·rw[if_pos (by simp[c])] at h
  rw[loopE,h]
  exact .inl ⟨_,rfl,c⟩
section
variable {f:Fnc} (hn:fBk f)
include hn
theorem kind_ok: ∃r,pzb FU ⟨f⟩=some r:=by
 unfold pzb
 refine yH ⟨_,rfl⟩ (zz (right_tot FU (by decide) _) fun _=>yH ⟨_,rfl⟩ ⟨_,rfl⟩)
theorem regs_ok: ∃r,pzd FU ⟨f⟩=some r∧(r.code=0→ ∀g∈f.regs,0≤g.cls∧g.cls<2):=by
 have hFU:FU=1152921504606846976:=rfl
 have hr:=hn.2.1
 unfold pzd
 by_cases c:(1024:Int)<(f.regs.length:Int)
 ·rw[if_pos (by simpa using c)];exact⟨_,rfl,fun h=>by cases h⟩
 ·rw[if_neg (by simpa using c)]
  have key:=zr (ρ:=zT) (fun q:Int=> ∃k:Nat,q=k∧k≤f.regs.length∧ ∀g∈f.regs.take k,0≤g.cls∧g.cls<2) (fun _=> ∀g∈f.regs,0≤g.cls∧g.cls<2) (fun v=>v.code≠0) (fun q=>f.regs.length-q.toNat) (fun q=>pzc FU ⟨f⟩ q) (by
   rintro q ⟨k,rfl,hk,hA⟩
   unfold pzc
   by_cases h:k<f.regs.length
   ·have hlt:(k:Int)<(f.regs.length:Int):=by omega
    obtain⟨g,hg⟩:=getAt (xs:=f.regs) (i:=k) h
    have hb: ∃b2,(if((((decide (g.id<0))||(decide (2147483647<g.id)))||(decide (g.cls<0)))||(decide (2≤g.cls)))=true then some true else(if(decide (0<(k:Int)))=true then(idx f.regs (IntKind.wrap .i64 ((k:Int)-1))).bind fun x2=>some (decide (g.id≤x2.id)) else some false).bind fun b1=>some b1)=some b2∧(b2=false→0≤g.cls∧g.cls<2):=by
     by_cases c:((((decide (g.id<0))||(decide (2147483647<g.id)))||(decide (g.cls<0)))||(decide (2≤g.cls)))=true
     ·rw[if_pos c];exact⟨true,rfl,fun h=>by cases h⟩
     ·rw[if_neg c]
      have hc:0≤g.cls∧g.cls<2:=by
       simp only[Bool.or_eq_true,decide_eq_true_eq,not_or] at c
       omega
      by_cases c0:(0:Int)<(k:Int)
      ·obtain⟨m,hm⟩: ∃m:Nat,(k:Int)-1=m:=⟨k-1,by omega⟩
       obtain⟨y,hy⟩:=getAt (xs:=f.regs) (i:=m) (by omega)
       rw[if_pos (by simpa using c0),hm,yJ (by omega) (by omega),zb hy]
       exact⟨_,rfl,fun _=>hc⟩
      ·rw[if_neg (by simpa using c0)];exact⟨_,rfl,fun _=>hc⟩
    obtain⟨b2,e,hb2⟩:=hb
    simp only[hlt,decide_true,if_true,zb hg,Option.bind_some]
    rw[e]
    simp only[Option.bind_some]
    cases b2 with
    |true=>exact .inr (.inr ⟨_,rfl,by show(38:Int)≠0;decide⟩)
    |false=>
     refine .inl ⟨_,rfl,⟨k+1,wrap1 (by omega),by omega,fun y hy=>?_⟩,by rw[wrap1 (by omega)];omega⟩
     rw[List.take_add_one,hg] at hy
     rcases List.mem_append.1 hy with hy|hy
     ·exact hA y hy
     ·rw[Option.toList_some,List.mem_singleton] at hy
      subst hy;exact hb2 rfl
   ·have hlt: ¬(k:Int)<(f.regs.length:Int):=by omega
    simp only[hlt,decide_false,Bool.false_eq_true,if_false]
    rw[List.take_of_length_le (by omega)] at hA
    exact .inr (.inl ⟨_,rfl,hA⟩)) FU 0 ⟨0,rfl,by omega,by simp⟩ (by simp;omega)
  rcases key with ⟨q,h1,h2⟩|⟨v,h1,h2⟩
  ·rw[h1];exact⟨_,rfl,fun _=>h2⟩
  ·rw[h1];exact⟨v,rfl,fun h=>absurd h h2⟩
theorem contO_tot{l:List Opd}(hl:l.length≤1048576)(o:Opd): ∃b,pzi FU l o=some b:=by
 have hFU:FU=1152921504606846976:=rfl
 unfold pzi pzh
 have key:=zr (ρ:=Int) (fun q:Int=> ∃k:Nat,q=k∧k≤l.length) (fun _=>True) (fun _=>True) (fun q=>l.length-q.toNat) (fun q=>pzg FU l o q) (by
  rintro q ⟨k,rfl,hk⟩
  unfold pzg
  by_cases h:k<l.length
  ·have hlt:(k:Int)<(l.length:Int):=by omega
   obtain⟨v,hv⟩:=getAt (xs:=l) (i:=k) h
   simp only[hlt,decide_true,if_true,zb hv,Option.bind_some]
   split
   ·exact .inr (.inr ⟨_,rfl,trivial⟩)
   ·exact .inl ⟨_,rfl,⟨k+1,wrap1 (by omega),by omega⟩,by rw[wrap1 (by omega)];omega⟩
  ·have hlt: ¬(k:Int)<(l.length:Int):=by omega
   simp only[hlt,decide_false,Bool.false_eq_true,if_false]
   exact .inr (.inl ⟨_,rfl,trivial⟩)) FU 0 ⟨0,rfl,by omega⟩ (by simp;omega)
 rcases key with ⟨q,h2,_⟩|⟨v,h2,_⟩
 ·rw[h2];exact⟨_,rfl⟩
 ·rw[h2];exact⟨_,rfl⟩
theorem params_ok: ∃r,pzk FU ⟨f⟩=some r:=by
 have hFU:FU=1152921504606846976:=rfl
 have hr:=hn.2.1
 have hp:=hn.2.2.1
 unfold pzk
 have key:=zr (ρ:=zT) (fun q:Int=> ∃k:Nat,q=k∧k≤f.params.length) (fun _=>True) (fun _=>True) (fun q=>f.params.length-q.toNat) (fun q=>pzj FU ⟨f⟩ q) (by
  rintro q ⟨k,rfl,hk⟩
  unfold pzj
  by_cases h:k<f.params.length
  ·have hlt:(k:Int)<(f.params.length:Int):=by omega
   obtain⟨g,hg⟩:=getAt (xs:=f.params) (i:=k) h
   have hs:sli f.params 0 (k:Int)=some (f.params.take k):=by
    unfold sli;rw[if_pos (by omega)];simp
   obtain⟨b,eb⟩:=contO_tot hn (l:=f.params.take k) (by simp;omega) g
   simp only[hlt,decide_true,if_true,zb hg,Option.bind_some,class_ok hr (fuel:=FU) (by decide),hs,eb]
   split
   ·exact .inr (.inr ⟨_,rfl,trivial⟩)
   ·split
    ·exact .inr (.inr ⟨_,rfl,trivial⟩)
    ·split
     ·exact .inr (.inr ⟨_,rfl,trivial⟩)
     ·exact .inl ⟨_,rfl,⟨k+1,wrap1 (by omega),by omega⟩,by rw[wrap1 (by omega)];omega⟩
  ·have hlt: ¬(k:Int)<(f.params.length:Int):=by omega
   simp only[hlt,decide_false,Bool.false_eq_true,if_false]
   exact .inr (.inl ⟨_,rfl,trivial⟩)) FU 0 ⟨0,rfl,by omega⟩ (by simp;omega)
 rcases key with ⟨q,h2,_⟩|⟨v,h2,_⟩
 ·rw[h2];exact⟨_,rfl⟩
 ·rw[h2];exact⟨_,rfl⟩
theorem count_tot: ∃r,pzm FU f=some r:=by
 have hFU:FU=1152921504606846976:=rfl
 have hb:=hn.1.1
 unfold pzm
 have key:=zr (ρ:=Int) (fun q:Int×Int=> ∃k:Nat,q.2=k∧k≤f.blocks.length) (fun _=>True) (fun _=>True) (fun q=>f.blocks.length-q.2.toNat) (fun s=>pzl FU f s.1 s.2) (by
  rintro⟨n,q⟩ ⟨k,hq,hk⟩
  simp only at hq
  subst hq
  show(∃s',pzl FU f n (k:Int)=some (.n s')∧_)∨(∃s',pzl FU f n (k:Int)=some (.b s')∧_)∨_
  unfold pzl
  by_cases h:k<f.blocks.length
  ·have hlt:(k:Int)<(f.blocks.length:Int):=by omega
   obtain⟨g,hg⟩:=getAt (xs:=f.blocks) (i:=k) h
   simp only[hlt,decide_true,if_true,zb hg,Option.bind_some]
   refine .inl ⟨_,rfl,⟨k+1,wrap1 (by omega),by omega⟩,?_⟩
   show f.blocks.length-(IntKind.i64.wrap ((k:Int)+1)).toNat<f.blocks.length-((k:Int)).toNat
   rw[wrap1 (by omega)];omega
  ·have hlt: ¬(k:Int)<(f.blocks.length:Int):=by omega
   simp only[hlt,decide_false,Bool.false_eq_true,if_false]
   exact .inr (.inl ⟨_,rfl,trivial⟩)) FU (0,0) ⟨0,rfl,by omega⟩ (by simp;omega)
 rcases key with ⟨q,h2,_⟩|⟨v,h2,_⟩
 ·rw[h2];exact⟨_,rfl⟩
 ·rw[h2];exact⟨_,rfl⟩
theorem blocks_ok: ∃r,pzs FU ⟨f⟩=some r∧(r.code=0→0<f.blocks.length):=by
 have hFU:FU=1152921504606846976:=rfl
 have hb:=hn.1.1
 unfold pzs
 by_cases c:((decide ((f.blocks.length:Int)=0))||(decide (64<(f.blocks.length:Int))))=true
 ·rw[if_pos c];exact⟨_,rfl,fun h=>by cases h⟩
 ·rw[if_neg c]
  have h0:0<f.blocks.length:=by
   simp only[Bool.or_eq_true,decide_eq_true_eq,not_or] at c
   omega
  obtain⟨n,en⟩:=count_tot hn
  rw[en]
  simp only[Option.bind_some]
  by_cases c2:(4096:Int)<n
  ·rw[if_pos (by simpa using c2)];exact⟨_,rfl,fun _=>h0⟩
  ·rw[if_neg (by simpa using c2)]
   have key:=zr (ρ:=zT) (fun q:Int=> ∃k:Nat,q=k∧k≤f.blocks.length) (fun _=>True) (fun _=>True) (fun q=>f.blocks.length-q.toNat) (fun q=>pzr FU ⟨f⟩ q) (by
    rintro q ⟨k,rfl,hk⟩
    unfold pzr
    by_cases h:k<f.blocks.length
    ·have hlt:(k:Int)<(f.blocks.length:Int):=by omega
     obtain⟨g,hg⟩:=getAt (xs:=f.blocks) (i:=k) h
     obtain⟨b,eb⟩:=right_tot FU (by decide) g.label
     simp only[hlt,decide_true,if_true,zb hg,Option.bind_some,eb,fnd_ir hn.1 (fuel:=FU) (by decide) g.label]
     split
     ·exact .inr (.inr ⟨_,rfl,trivial⟩)
     ·split
      ·exact .inr (.inr ⟨_,rfl,trivial⟩)
      ·exact .inl ⟨_,rfl,⟨k+1,wrap1 (by omega),by omega⟩,by rw[wrap1 (by omega)];omega⟩
    ·have hlt: ¬(k:Int)<(f.blocks.length:Int):=by omega
     simp only[hlt,decide_false,Bool.false_eq_true,if_false]
     exact .inr (.inl ⟨_,rfl,trivial⟩)) FU 0 ⟨0,rfl,by omega⟩ (by simp;omega)
   rcases key with ⟨q,h2,_⟩|⟨v,h2,_⟩
   ·rw[h2];exact⟨_,rfl,fun _=>h0⟩
   ·rw[h2];exact⟨_,rfl,fun _=>h0⟩
def CodeOk(f:Fnc):Prop:= ∀b∈f.blocks,b.code.length≠0∧ ∀(i:Nat) (x:Ins),b.code[i]?=some x→InsOk f x (decide ((i:Int)=(b.code.length:Int)-1))
theorem code_ok: ∃r,pz25 FU ⟨f⟩=some r∧(r.code=0→CodeOk f):=by
 have hFU:FU=1152921504606846976:=rfl
 have hb:=hn.1.1
 unfold pz25
 have key:=zr (ρ:=zT) (fun q:Int=> ∃k:Nat,q=k∧k≤f.blocks.length∧ ∀b∈f.blocks.take k,b.code.length≠0∧ ∀(i:Nat) (x:Ins),b.code[i]?=some x→InsOk f x (decide ((i:Int)=(b.code.length:Int)-1))) (fun _=>CodeOk f) (fun v=>v.code≠0) (fun q=>f.blocks.length-q.toNat) (fun q=>pz24 FU ⟨f⟩ q) (by
  rintro q ⟨k,rfl,hk,hA⟩
  unfold pz24
  by_cases h:k<f.blocks.length
  ·have hlt:(k:Int)<(f.blocks.length:Int):=by omega
   obtain⟨b,hbk⟩:=getAt (xs:=f.blocks) (i:=k) h
   have hbm:b∈f.blocks:=List.mem_of_getElem? hbk
   have hcl:=(hn.1.2 b hbm).1
   simp only[hlt,decide_true,if_true,zb hbk,Option.bind_some]
   by_cases c0:(b.code.length:Int)=0
   ·right;right;rw[if_pos (by simpa using c0)];exact⟨_,rfl,by show(34:Int)≠0;decide⟩
   ·rw[if_neg (by rw[decide_eq_true_eq];exact c0)]
    have key2:=zr (ρ:=Ex Int zT) (fun q:Int=> ∃m:Nat,q=m∧m≤b.code.length∧ ∀(i:Nat) (x:Ins),i<m→b.code[i]?=some x→InsOk f x (decide ((i:Int)=(b.code.length:Int)-1))) (fun _=> ∀(i:Nat) (x:Ins),b.code[i]?=some x→InsOk f x (decide ((i:Int)=(b.code.length:Int)-1))) (fun v=> ∃w,v= .r w∧w.code≠0) (fun q=>b.code.length-q.toNat) (fun q=>pz23 FU ⟨f⟩ (k:Int) b q) (by
     rintro q ⟨m,rfl,hm,hB⟩
     unfold pz23
     by_cases h2:m<b.code.length
     ·have hlt2:(m:Int)<(b.code.length:Int):=by omega
      obtain⟨x,hx⟩:=getAt (xs:=b.code) (i:=m) h2
      obtain⟨c,ec,hc⟩:=instr_ok hn hbm (List.mem_of_getElem? hx) (decide ((m:Int)=(b.code.length:Int)-1))
      rw[yJ (x:=(b.code.length:Int)-1) (by omega) (by omega)]
      simp only[hlt2,decide_true,if_true,zb hx,Option.bind_some,ec]
      by_cases c1:c=0
      ·left
       rw[if_neg (by simp[c1])]
       refine⟨_,rfl,⟨m+1,wrap1 (by omega),by omega,fun i y hi hy=>?_⟩,by rw[wrap1 (by omega)];omega⟩
       by_cases e:i=m
       ·subst e;rw[hx] at hy;cases hy;exact hc c1
       ·exact hB i y (by omega) hy
      ·right;right
       rw[if_pos (by simp[c1])]
       exact⟨_,rfl,_,rfl,c1⟩
     ·have hlt2: ¬(m:Int)<(b.code.length:Int):=by omega
      simp only[hlt2,decide_false,Bool.false_eq_true,if_false]
      refine .inr (.inl ⟨_,rfl,fun i x hi=>hB i x ?_ hi⟩)
      have:=(List.getElem?_eq_some_iff.1 hi).1
      omega) FU 0 ⟨0,rfl,by omega,fun i x hi=>by omega⟩ (by simp;omega)
    rcases key2 with ⟨q,h3,h4⟩|⟨v,h3,w,rfl,h4⟩
    ·left
     rw[h3]
     refine⟨_,rfl,⟨k+1,wrap1 (by omega),by omega,fun y hy=>?_⟩,by rw[wrap1 (by omega)];omega⟩
     rw[List.take_add_one,hbk] at hy
     rcases List.mem_append.1 hy with hy|hy
     ·exact hA y hy
     ·rw[Option.toList_some,List.mem_singleton] at hy
      subst hy;exact⟨by omega,h4⟩
    ·right;right
     rw[h3];exact⟨w,rfl,h4⟩
  ·have hlt: ¬(k:Int)<(f.blocks.length:Int):=by omega
   simp only[hlt,decide_false,Bool.false_eq_true,if_false]
   rw[List.take_of_length_le (by omega)] at hA
   exact .inr (.inl ⟨_,rfl,hA⟩)) FU 0 ⟨0,rfl,by omega,by simp⟩ (by simp;omega)
 rcases key with ⟨q,h1,h2⟩|⟨v,h1,h2⟩
 ·rw[h1];exact⟨_,rfl,fun _=>h2⟩
 ·rw[h1];exact⟨v,rfl,fun h=>absurd h h2⟩
theorem reach_chk: ∃r,pz2p FU ⟨f⟩=some r∧(r.code=0→ ∀b<f.blocks.length,PT f 0 b):=by
 have hFU:FU=1152921504606846976:=rfl
 have hb:=hn.1.1
 unfold pz2p
 obtain⟨g,eg,hg1,hg2,hg3,hg4⟩:=new_f hn.1 (fuel:=FU) (by decide)
 rw[eg]
 have hR: ∃s,pz2n FU g=some s∧bV s f.blocks.length∧ ∀j,j<f.blocks.length→bH s j=true→PT f 0 j:=by
  unfold pz2n pz2a
  by_cases h0:f.blocks.length=0
  ·have ho:pz2k FU g=some []:=by
    unfold pz2k pz2a
    simp[hg1,h0]
   obtain⟨s,es,hV,hB⟩:=of_ok (n:=f.blocks.length) (by omega) (l:=[]) (by simp) (fuel:=FU) (by decide)
   refine⟨s,?_,hV,fun j hj=>by omega⟩
   simp only[Option.bind_some,ho,hg1,es]
  ·obtain⟨w,eo,hP,hwl⟩:=order_ok hn.1 (fuel:=FU) hg3 hg1 (by decide) (by omega)
   have hl:(embN w.reverse).length=w.length:=by simp[embN]
   obtain⟨s,es,hV,hB⟩:=of_ok (n:=f.blocks.length) (by omega) (l:=embN w.reverse) (by omega) (fuel:=FU) (by omega)
   refine⟨s,?_,hV,fun j hj hh=>?_⟩
   ·simp only[Option.bind_some,eo,hg1,es]
   ·rw[hB j,Bool.and_eq_true,decide_eq_true_eq,decide_eq_true_eq] at hh
    obtain⟨a,ha,e⟩:=List.mem_map.1 (show(j:Int)∈embN w.reverse from hh.2)
    have:a=j:=by omega
    subst this
    exact(hP.mem a).1 (List.mem_reverse.1 ha)
 obtain⟨s,es,hV,hS⟩:=hR
 simp only[Option.bind_some,es]
 have key:=zr (ρ:=zT) (fun q:Int=> ∃k:Nat,q=k∧k≤f.blocks.length∧ ∀b<k,PT f 0 b) (fun _=> ∀b<f.blocks.length,PT f 0 b) (fun v=>v.code≠0) (fun q=>f.blocks.length-q.toNat) (fun q=>pz2o FU ⟨f⟩ s q) (by
  rintro q ⟨k,rfl,hk,hA⟩
  unfold pz2o
  by_cases h:k<f.blocks.length
  ·have hlt:(k:Int)<(f.blocks.length:Int):=by omega
   have hd:(decide (0≤(k:Int)∧(k:Int)<(f.blocks.length:Int)))=true:=by simp;omega
   simp only[hlt,decide_true,if_true,has_ok hV (show f.blocks.length≤4294967296 by omega) FU (k:Int),hd,Bool.true_and,Option.bind_some]
   cases c:bH s ((k:Int)).toNat
   ·exact .inr (.inr ⟨_,rfl,by show(39:Int)≠0;decide⟩)
   ·refine .inl ⟨_,rfl,⟨k+1,wrap1 (by omega),by omega,fun b hb=>?_⟩,by rw[wrap1 (by omega)];omega⟩
    by_cases e:b=k
    ·subst e;exact hS b h (by simpa using c)
    ·exact hA b (by omega)
  ·have hlt: ¬(k:Int)<(f.blocks.length:Int):=by omega
   simp only[hlt,decide_false,Bool.false_eq_true,if_false]
   exact .inr (.inl ⟨_,rfl,fun b hb=>hA b (by omega)⟩)) FU 0 ⟨0,rfl,by omega,fun b hb=>by omega⟩ (by simp;omega)
 rcases key with ⟨q,h1,h2⟩|⟨v,h1,h2⟩
 ·rw[h1];exact⟨_,rfl,fun _=>h2⟩
 ·rw[h1];exact⟨v,rfl,fun h=>absurd h h2⟩
theorem values_ok: ∃r,pz3p FU ⟨f⟩=some r∧(r.code=0↔AllSr f):=by
 unfold pz3p
 obtain⟨k,ek,hK,hC⟩:=assign_ok hn (fuel:=FU) (by decide)
 rw[ek]
 simp only[Option.bind_some]
 rcases first_ok hn (fuel:=FU) (by decide) hK hC with ⟨e,h⟩|⟨b,i,bl,x,a,h1,h2,h3,h4,h5,e⟩
 ·rw[e]
  exact⟨_,rfl,fun _=>h,fun _=>rfl⟩
 ·rw[e]
  refine⟨_,rfl,fun h=>?_,fun h=>absurd (h b i bl x a h1 h2 h3 h4) h5⟩
  exact absurd (show(40:Int)=0 from h) (by decide)
theorem check_ok: ∃c b i,pz3s FU f=some (c,b,i)∧(c=0→(∀g∈f.regs,0≤g.cls∧g.cls<2)∧0<f.blocks.length∧CodeOk f∧(∀b<f.blocks.length,PT f 0 b)∧AllSr f):=by
 obtain⟨r0,e0⟩:=kind_ok hn
 obtain⟨r1,e1,h1⟩:=regs_ok hn
 obtain⟨r2,e2⟩:=params_ok hn
 obtain⟨r3,e3,h3⟩:=blocks_ok hn
 obtain⟨r4,e4,h4⟩:=code_ok hn
 obtain⟨r5,e5,h5⟩:=reach_chk hn
 obtain⟨r6,e6,h6⟩:=values_ok hn
 have s0:pz3r FU f 0=if decide (r0.code≠0)=true then some (.r (r0.code,r0.block,r0.i)) else some (.n 1):=by
  show((pzb FU ⟨f⟩).bind fun r1=>(if decide (r1.code≠0)=true then some (Ex.r (r1.code,r1.block,r1.i)) else some (Ex.n (IntKind.wrap .i64 ((0:Int)+1))):Option (Ex Int (Int×Int×Int))))=_
  rw[e0,yJ (by omega) (by omega)];rfl
 have s1:pz3r FU f 1=if decide (r1.code≠0)=true then some (.r (r1.code,r1.block,r1.i)) else some (.n 2):=by
  show((pzd FU ⟨f⟩).bind fun r1=>(if decide (r1.code≠0)=true then some (Ex.r (r1.code,r1.block,r1.i)) else some (Ex.n (IntKind.wrap .i64 ((1:Int)+1))):Option (Ex Int (Int×Int×Int))))=_
  rw[e1,yJ (by omega) (by omega)];rfl
 have s2:pz3r FU f 2=if decide (r2.code≠0)=true then some (.r (r2.code,r2.block,r2.i)) else some (.n 3):=by
  show((pzk FU ⟨f⟩).bind fun r1=>(if decide (r1.code≠0)=true then some (Ex.r (r1.code,r1.block,r1.i)) else some (Ex.n (IntKind.wrap .i64 ((2:Int)+1))):Option (Ex Int (Int×Int×Int))))=_
  rw[e2,yJ (by omega) (by omega)];rfl
 have s3:pz3r FU f 3=if decide (r3.code≠0)=true then some (.r (r3.code,r3.block,r3.i)) else some (.n 4):=by
  show((pzs FU ⟨f⟩).bind fun r1=>(if decide (r1.code≠0)=true then some (Ex.r (r1.code,r1.block,r1.i)) else some (Ex.n (IntKind.wrap .i64 ((3:Int)+1))):Option (Ex Int (Int×Int×Int))))=_
  rw[e3,yJ (by omega) (by omega)];rfl
 have s4:pz3r FU f 4=if decide (r4.code≠0)=true then some (.r (r4.code,r4.block,r4.i)) else some (.n 5):=by
  show((pz25 FU ⟨f⟩).bind fun r1=>(if decide (r1.code≠0)=true then some (Ex.r (r1.code,r1.block,r1.i)) else some (Ex.n (IntKind.wrap .i64 ((4:Int)+1))):Option (Ex Int (Int×Int×Int))))=_
  rw[e4,yJ (by omega) (by omega)];rfl
 have s5:pz3r FU f 5=if decide (r5.code≠0)=true then some (.r (r5.code,r5.block,r5.i)) else some (.n 6):=by
  show((pz2p FU ⟨f⟩).bind fun r1=>(if decide (r1.code≠0)=true then some (Ex.r (r1.code,r1.block,r1.i)) else some (Ex.n (IntKind.wrap .i64 ((5:Int)+1))):Option (Ex Int (Int×Int×Int))))=_
  rw[e5,yJ (by omega) (by omega)];rfl
 have s6:pz3r FU f 6=if decide (r6.code≠0)=true then some (.r (r6.code,r6.block,r6.i)) else some (.n 7):=by
  show((pz3p FU ⟨f⟩).bind fun r1=>(if decide (r1.code≠0)=true then some (Ex.r (r1.code,r1.block,r1.i)) else some (Ex.n (IntKind.wrap .i64 ((6:Int)+1))):Option (Ex Int (Int×Int×Int))))=_
  rw[e6,yJ (by omega) (by omega)];rfl
 have s7:pz3r FU f 7=some (.b 7):=rfl
 have hFU:FU=(1152921504606846968+1)+1+1+1+1+1+1+1:=by decide
 have q7:(∃v:Int×Int×Int,loopE (1152921504606846968+1) (fun s=>pz3r FU f s) 7=some (.r v)∧v.1≠0)∨(True∧loopE (1152921504606846968+1) (fun s=>pz3r FU f s) 7=some (.n 7)):= .inr ⟨trivial,by rw[loopE,s7];rfl⟩
 have q:=zzD s0 (zzD s1 (zzD s2 (zzD s3 (zzD s4 (zzD s5 (zzD s6 q7))))))
 unfold pz3s
 rw[←hFU] at q
 rcases q with ⟨⟨c,b,i⟩,h,hc⟩|⟨⟨c0,c1,c2,c3,c4,c5,c6,_⟩,h⟩
 ·rw[h];exact⟨c,b,i,rfl,fun h=>absurd h hc⟩
 ·rw[h];exact⟨0,-1,-1,rfl,fun _=>⟨h1 c1,h3 c3,h4 c4,h5 c5,h6.1 c6⟩⟩
end
end Go.Proofs.YtmogcnnhbmaffaaGreat.PL
set_option linter.unusedVariables false
set_option linter.unusedSectionVars false
set_option linter.unusedSimpArgs false
set_option maxRecDepth 100000
namespace Go.Proofs.YtmogcnnhbmaffaaGreat.PL
open Go
theorem works_ok:pz3u FU=some true:=by decide+kernel
theorem large_tot{f:Fnc}(hn:fOk f)(fuel:Nat): ∃b,pz3 fuel f=some b:=by
 have hn1:=hn.1
 unfold pz3
 obtain⟨s,h1,_⟩:=zzQ (fun _ (_:Int)=>True) (fun i s=>pz2 fuel f i s) f.blocks.length (by omega) (s:=IntKind.wrap .i64 ((IntKind.wrap .i64 ((f.name.size:Int)+(f.regs.length:Int)))+(f.params.length:Int))) trivial (by
  intro i s hi _
  obtain⟨b,hb⟩:=getAt hi
  have hbb:=hn.2 b (List.mem_of_getElem? hb)
  unfold pz2
  simp only[zb hb,Option.bind_some]
  obtain⟨s,h1,_⟩:=zzQ (fun _ (_:Int)=>True) (fun i s=>pz1 fuel b i s) b.code.length (by omega) (s:=(IntKind.wrap .i64 ((IntKind.wrap .i64 (s+(b.label.size:Int)))+(b.ins.length:Int)))) trivial (by
   intro i s hi _
   obtain⟨c,hc⟩:=getAt hi
   have hcc:=hbb.2 c (List.mem_of_getElem? hc)
   unfold pz1
   simp only[zb hc,Option.bind_some]
   obtain⟨s,h1,_⟩:=zzQ (fun _ (_:Int)=>True) (fun i s=>pz0 fuel c i s) c.labels.length (by omega) (s:=(IntKind.wrap .i64 ((IntKind.wrap .i64 ((IntKind.wrap .i64 ((IntKind.wrap .i64 (s+1))+(c.args.length:Int)))+(c.name.size:Int)))+(c.cases.length:Int)))) trivial (by
    intro i s hi _
    obtain⟨l,hl⟩:=getAt hi
    unfold pz0
    simp only[zb hl,Option.bind_some]
    exact⟨_,rfl,trivial⟩)
   rw[h1]
   exact⟨_,rfl,trivial⟩)
  rw[h1]
  exact⟨_,rfl,trivial⟩)
 rw[h1]
 exact⟨_,rfl⟩
section
variable {f:Fnc} (hn:fBk f)
include hn
theorem tg_ge{b:Bl}(hb:b∈f.blocks)(hc: ∀x∈b.code,∀l∈x.labels,fnd f l≠ -1∧fnd f l≠0): ∀r∈tg f b,r≠0:=by
 intro r hr
 unfold tg at hr
 cases hl:lastB b with
 |none=>rw[hl] at hr;simp at hr
 |some x=>
  rw[hl] at hr
  have hx:x∈b.code:=by
   unfold lastB at hl
   split at hl
   ·rename_i i hi
    split at hl
    ·cases hl;exact List.mem_of_getElem? hi
    ·cases hl
   ·cases hl
  have key: ∀(ls:List ByteArray) (acc:List Int),(∀l∈ls,fnd f l≠0)→(∀q∈acc,q≠0)→ ∀q∈ls.foldl (fun a l=>addT a (fnd f l)) acc,q≠0:=by
   intro ls
   induction ls with
   |nil=>intro acc _ h;exact h
   |cons l ls ih=>
    intro acc h1 h2
    refine ih _ (fun y hy=>h1 y (by simp[hy])) ?_
    intro q hq
    have hq2:q∈addT acc (fnd f l):=hq
    unfold addT at hq2
    split at hq2
    ·rcases List.mem_append.1 hq2 with hq|hq
     ·exact h2 q hq
     ·rw[List.mem_singleton] at hq;subst hq;exact h1 l (by simp)
    ·exact h2 q hq2
  exact key x.labels [] (fun l hl=>(hc x hx l hl).2) (by simp) r hr
theorem law_holds(hG: ∀g∈f.regs,0≤g.cls∧g.cls<2)(hC:CodeOk f)(hP: ∀b<f.blocks.length,PT f 0 b):
  ∃r4 r5,pz4a FU f=some r4∧pz4e FU r4 0 (-1)=some r5∧toE (ρ:=Bool) 0 (f.blocks.length:Int) (fun i _=>pz4i FU f r4 r5 i) ()=some (.n ()):=by
 have hFU:FU=1152921504606846976:=rfl
 have hb1:=hn.1.1
 have hr:=hn.2.1
 have hS:=succ_ok hn.1 FU
 by_cases h0:f.blocks.length=0
 ·have hbl:f.blocks=[]:=List.length_eq_zero_iff.1 h0
  refine⟨f.blocks.map (tg f),[],hS,?_,?_⟩
  ·rw[hbl];rfl
  ·rw[h0];rfl
 ·obtain⟨r5,e5,hl5,h5⟩:=reach_ok hn.1 (fuel:=FU) (by decide) (wo:= -1) (k:=0) (by omega)
  refine⟨f.blocks.map (tg f),r5,hS,e5,?_⟩
  have key:=zzx (σ:=Unit) (ρ:=Bool) (fun _ _=>True) (fun _=>False) (fun i _=>pz4i FU f (f.blocks.map (tg f)) r5 i) f.blocks.length (by omega) (s:=()) trivial (by
   intro k _ hk _
   left
   refine⟨(),?_,trivial⟩
   obtain⟨b,hb⟩:=getAt (xs:=f.blocks) (i:=k) hk
   have hbm:b∈f.blocks:=List.mem_of_getElem? hb
   have hcl:=(hn.1.2 b hbm).1
   obtain⟨hne,hI⟩:=hC b hbm
   have hr5:r5[k]?=some true:=(h5 k).2 (hP k hk)
   have hx3:(f.blocks.map (tg f))[k]?=some (tg f b):=by rw[List.getElem?_map,hb];rfl
   have htl:=tg_len hn.1 hbm
   have hlab: ∀x∈b.code,∀l∈x.labels,fnd f l≠ -1∧fnd f l≠0:=by
    intro x hx
    obtain⟨i,hi⟩:=List.getElem?_of_mem hx
    exact(hI i x hi).2.2.2
   have hin:pz41 FU (tg f b) 0=some false:=by
    rw[in_ref (by omega) FU 0,decide_eq_false (fun h=>tg_ge hn hbm hlab 0 h rfl)]
   unfold pz4i
   have hne': ¬((b.code.length:Int)=0):=by omega
   simp only[zb hb,Option.bind_some,zb hr5,zb hx3,hin,hne',Bool.not_true,decide_false,Bool.or_false,Bool.false_eq_true,if_false]
   have key2:=zzx (σ:=Unit) (ρ:=Ex Unit Bool) (fun _ _=>True) (fun _=>False) (fun i _=>pz4h FU f b i) b.code.length (by omega) (s:=()) trivial (by
    intro i _ hi _
    left
    refine⟨(),?_,trivial⟩
    obtain⟨x,hx⟩:=getAt (xs:=b.code) (i:=i) hi
    have hxm:x∈b.code:=List.mem_of_getElem? hx
    have hxa:=(hn.2.2.2 b hbm x hxm).1
    have hxl:=(hn.1.2 b hbm).2 x hxm
    obtain⟨hop,hlast,hO,hL⟩:=hI i x hx
    unfold pz4h
    rw[yJ (x:=(b.code.length:Int)-1) (by omega) (by omega)]
    have hcnd:((decide ((i:Int)=(b.code.length:Int)-1)) !=((decide (20≤x.op))&&(decide (x.op≤23))))=false:=by
     rw[←hlast,←Bool.decide_and];simp
    have happ:app ([x.dst]:List Opd) x.args=some (x.dst::x.args):=by rw[yt (by simp;omega)];rfl
    simp only[zb hx,Option.bind_some,hcnd,Bool.false_eq_true,if_false,happ]
    have hl1:(x.dst::x.args).length=x.args.length+1:=rfl
    have key3:=zr (ρ:=Ex Unit (Ex Unit Bool)) (fun q:Int=> ∃m:Nat,q=m∧m≤(x.dst::x.args).length) (fun _=>True) (fun _=>False) (fun q=>(x.dst::x.args).length-q.toNat) (fun q=>pz4f FU f x (x.dst::x.args) q) (by
     rintro q ⟨m,rfl,hm⟩
     unfold pz4f
     by_cases h:m<(x.dst::x.args).length
     ·left
      have hlt:(m:Int)<((x.dst::x.args).length:Int):=by omega
      obtain⟨o,ho⟩:=getAt (xs:=x.dst::x.args) (i:=m) h
      obtain⟨h2,h3,h4⟩:=hO m o ho
      have hb4: ∀c:Int,pz46 FU f o.n=some c→(if(decide (o.kind=1))=true then(if(decide (c<0))=true then some true else(pz47 FU x.op (IntKind.wrap .i64 ((m:Int)-1)) c).bind fun r8=>some (!r8)).bind fun b3=>some b3 else some false)=some false:=by
       intro c hc
       by_cases hk:o.kind=1
       ·obtain⟨d,hd,hf⟩:=h4 hk
        rw[class_ref hr FU o.n,hd] at hc
        cases hc
        have hd2:0≤d∧d<2:=by
         unfold cls at hd
         obtain⟨g,hg,rfl⟩:=Option.map_eq_some_iff.1 hd
         exact hG g (List.mem_of_find?_eq_some hg)
        have hneg: ¬(Option.getD (some d) (-1)<0):=by show ¬d<0;omega
        rw[if_pos (by simpa using hk),if_neg (by simpa using hneg),yJ (by omega) (by omega)]
        have:=fits_ref hop (by omega) hd2 hf
        show((pz47 FU x.op ((m:Int)-1) d).bind fun r8=>some (!r8)).bind _=_
        rw[this];rfl
       ·rw[if_neg (by simpa using hk)]
      simp only[hlt,decide_true,if_true,zb ho,Option.bind_some,class_ref hr FU o.n]
      rw[hb4 _ (class_ref hr FU o.n)]
      have h5:(((false||(decide (o.kind=2)))||(decide (o.kind=3))):Bool)=false:=by simp[h2,h3]
      simp only[Option.bind_some,h5,Bool.false_eq_true,if_false]
      exact⟨_,rfl,⟨m+1,wrap1 (by omega),by omega⟩,by rw[wrap1 (by omega)];omega⟩
     ·right;left
      have hlt: ¬(m:Int)<((x.dst::x.args).length:Int):=by omega
      simp only[hlt,decide_false,Bool.false_eq_true,if_false]
      exact⟨_,rfl,trivial⟩) FU 0 ⟨0,rfl,by omega⟩ (by simp;omega)
    rcases key3 with ⟨q,e,_⟩|⟨v,_,h⟩
    ·rw[e]
     simp only[bindE]
     have key4:=zzx (σ:=Unit) (ρ:=Ex Unit (Ex Unit Bool)) (fun _ _=>True) (fun _=>False) (fun i _=>pz4g FU f x i) x.labels.length (by omega) (s:=()) trivial (by
      intro j _ hj _
      left
      refine⟨(),?_,trivial⟩
      obtain⟨l,hl⟩:=getAt (xs:=x.labels) (i:=j) hj
      obtain⟨h1,h2⟩:=hL l (List.mem_of_getElem? hl)
      have h3:=(fnd_lt hn.1 l).1
      unfold pz4g
      have hge: ¬(fnd f l<1):=by omega
      simp only[zb hl,Option.bind_some,fnd_ref hn.1 FU l,hge,decide_false,Bool.false_eq_true,if_false])
     rcases key4 with ⟨q,e,_⟩|⟨v,_,h⟩
     ·rw[e]
     ·exact h.elim
    ·exact h.elim)
   rcases key2 with ⟨q,e,_⟩|⟨v,_,h⟩
   ·rw[e];rfl
   ·exact h.elim)
  rcases key with ⟨q,e,_⟩|⟨v,_,h⟩
  ·exact e
  ·exact h.elim
theorem law_VerifyHolds:pz4j FU f=some true:=by
 unfold pz4j
 obtain⟨l,el⟩:=large_tot hn.1 FU
 obtain⟨c,b,i,ec,hc⟩:=check_ok hn
 have hw:pz3t FU f=some (decide (c=0)):=by unfold pz3t;rw[ec];rfl
 rw[el,hw,works_ok]
 simp only[Option.bind_some]
 cases l with
 |true=>rfl
 |false=>
  by_cases c0:c=0
  ·obtain⟨h1,h2,h3,h4,h5⟩:=hc c0
   obtain⟨r4,r5,e4,e5,e6⟩:=law_holds hn h1 h3 h4
   simp only[c0,decide_true,Bool.not_true,Bool.false_eq_true,if_false,Option.bind_some,e4,e5]
   rw[e6];rfl
  ·simp[c0]
end
end Go.Proofs.YtmogcnnhbmaffaaGreat.PL
