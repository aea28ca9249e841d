/- Plain lemmas for loops over lists. Nothing here speaks of a program. Plain facts about the pure functions: finding a block, is a number in a list, sets of bits. Plain facts about the pure functions: where blocks go on, by the reference and by the graph. Plain facts about the pure functions: what is reached from a block without going through another one, forward and backward. Plain facts about the pure functions: the order of a graph's blocks. Plain lemmas: the first of some numbers of which something is told; loops that end with it. Plain facts about the pure functions: the function that is made of a draft. Plain facts about the pure functions: the function that is made of a draft, as a whole. Plain facts about the pure functions: more of sets of bits. Plain facts about the pure functions: which virtual registers have a place. Plain facts about the pure functions: which virtual registers surely have a value at blocks' beginnings: a work list. Plain facts about the pure functions: the work list of what surely has a value. Plain facts about the pure functions: what surely has a value, found out, and the first that may have none. Plain facts about the pure functions: the first virtual register that may have no value. Plain facts about the pure functions: what is asked of operations, names, and registers. Plain facts about the pure functions: what is asked of one instruction. Plain facts about the pure functions: one instruction of a function with which nothing is wrong. Plain facts about the pure functions: a function with which nothing is wrong. The plain law of VerifyHolds. Plain facts about the pure functions: names, operands, and operations, as the code and the reference see them. Plain facts about the pure functions: one instruction, as the code and the reference see it. Plain facts about the pure functions: what is wrong with one instruction. Plain facts about the pure functions: where a virtual register may have no value, as the reference finds it. Plain facts about the pure functions: the first virtual register that may have no value, in order, as the code and the reference find it. Plain facts about the pure functions: what is wrong with a function first, as the code finds it. Plain facts about the pure functions: where the blocks of a function that is made of a draft go on. Plain facts about the pure functions: the instructions of a function that is made of a draft are right. Plain facts about the pure functions: a function that is made of a draft, all of it. The pure law VerifyMade is true. -/
import Derived.Test.YtmogcnnhbmaffaaGreatPM
import Derived.Test.YtmogcnnhbmaffaaGreatUniP
import Derived.Lib.RowBridge
set_option linter.unusedVariables false
namespace Go.Proofs.YtmogcnnhbmaffaaGreat.PL
open Go
theorem idx_ok{α:Type}{xs:List α}{i:Int}{x:α}(h0:0≤i)(h:xs[i.toNat]?=some x):idx xs i=some x:=by
 unfold idx;rw[if_pos h0,h]
theorem zp{α:Type}{xs:List α}{i:Nat}{x:α}(h:xs[i]?=some x):idx xs (i:Int)=some x:=idx_ok (by omega) (by simpa using h)
theorem kS{α:Type}{xs:List α}{i:Nat}{x:α}(h:i<xs.length):setI xs (i:Int) x=some (xs.set i x):=by
 unfold setI;rw[if_pos (by constructor<;>omega)];simp
theorem yf{α:Type}{xs ys:List α}(h:xs.length+ys.length≤4294967296):app xs ys=some (xs++ys):=by
 unfold app;rw[if_pos h]
theorem mk_nat{α:Type}{n:Nat}{z:α}(h:n≤4294967296):mk (n:Int) z=some (List.replicate n z):=by
 unfold mk;rw[if_pos (by constructor<;>omega)];simp
theorem forN_inv{σ:Type}(I:Nat→σ→Prop)(f:Int→σ→Option σ)(n:Nat)(step: ∀i s,i<n→I i s→ ∃s',f (i:Int) s=some s'∧I (i+1) s'):
  ∀(m i:Nat) (s:σ),i+m=n→I i s→ ∃s',forN m (i:Int) f s=some s'∧I n s':=by
 intro m
 induction m with
 |zero=>intro i s h hI;exact⟨s,rfl,by rw[←h];simpa using hI⟩
 |succ m ih=>
  intro i s h hI
  obtain⟨s1,h1,h2⟩:=step i s (by omega) hI
  obtain⟨s2,h3,h4⟩:=ih (i+1) s1 (by omega) h2
  refine⟨s2,?_,h4⟩
  rw[forN,h1]
  exact h3
theorem toN_inv{σ:Type}(I:Nat→σ→Prop)(f:Int→σ→Option σ)(n:Nat)(hn:n≤4294967296){s:σ}(h0:I 0 s)(step: ∀i s,i<n→I i s→ ∃s',f (i:Int) s=some s'∧I (i+1) s'):
  ∃s',toN 0 (n:Int) f s=some s'∧I n s':=by
 unfold toN
 rw[if_pos (by constructor<;>omega)]
 simpa using forN_inv I f n step n 0 s (by omega) h0
theorem forE_inv{σ ρ:Type}(I:Nat→σ→Prop)(R:ρ→Prop)(f:Int→σ→Option (Ex σ ρ))(n:Nat)(step: ∀i s,i<n→I i s→(∃s',f (i:Int) s=some (.n s')∧I (i+1) s')∨ ∃v,f (i:Int) s=some (.r v)∧R v):
  ∀(m i:Nat) (s:σ),i+m=n→I i s→(∃s',forE m (i:Int) f s=some (.n s')∧I n s')∨ ∃v,forE m (i:Int) f s=some (.r v)∧R v:=by
 intro m
 induction m with
 |zero=>intro i s h hI;exact .inl ⟨s,rfl,by rw[←h];simpa using hI⟩
 |succ m ih=>
  intro i s h hI
  rcases step i s (by omega) hI with ⟨s1,h1,h2⟩|⟨v,h1,h2⟩
  ·rw[forE,h1]
   exact ih (i+1) s1 (by omega) h2
  ·rw[forE,h1]
   exact .inr ⟨v,rfl,h2⟩
theorem toE_inv{σ ρ:Type}(I:Nat→σ→Prop)(R:ρ→Prop)(f:Int→σ→Option (Ex σ ρ))(n:Nat)(hn:n≤4294967296){s:σ}(h0:I 0 s)(step: ∀i s,i<n→I i s→(∃s',f (i:Int) s=some (.n s')∧I (i+1) s')∨ ∃v,f (i:Int) s=some (.r v)∧R v):
  (∃s',toE 0 (n:Int) f s=some (.n s')∧I n s')∨ ∃v,toE 0 (n:Int) f s=some (.r v)∧R v:=by
 unfold toE
 rw[if_pos (by constructor<;>omega)]
 simpa using forE_inv I R f n step n 0 s (by omega) h0
theorem yO{σ ρ:Type}(I:σ→Prop)(B:σ→Prop)(R:ρ→Prop)(m:σ→Nat)(f:σ→Option (Ex σ ρ))
  (step: ∀s,I s→(∃s',f s=some (.n s')∧I s'∧m s'<m s)∨(∃s',f s=some (.b s')∧B s')∨ ∃v,f s=some (.r v)∧R v):
  ∀(fuel:Nat) (s:σ),I s→m s<fuel→(∃s',loopE fuel f s=some (.n s')∧B s')∨ ∃v,loopE fuel f s=some (.r v)∧R v:=by
 intro fuel
 induction fuel with
 |zero=>intro s _ h;omega
 |succ n ih=>
  intro s hI hm
  rcases step s hI with ⟨s1,h1,h2,h3⟩|⟨s1,h1,h2⟩|⟨v,h1,h2⟩
  ·rw[loopE,h1];exact ih s1 h2 (by omega)
  ·rw[loopE,h1];exact .inl ⟨s1,rfl,h2⟩
  ·rw[loopE,h1];exact .inr ⟨v,rfl,h2⟩
theorem wrap1{n:Nat}(h:n≤4294967296):IntKind.i64.wrap ((n:Int)+1)=((n+1:Nat):Int):=by
 rw[zz (by omega) (by omega)];omega
theorem getAt{α:Type}{xs:List α}{i:Nat}(h:i<xs.length): ∃x,xs[i]?=some x:=⟨xs[i],by simp[h]⟩
theorem loop_fold{α σ ρ:Type}{xs:List α}{f:Int×σ→Option (Ex (Int×σ) ρ)}(g:σ→α→σ)(J:σ→Prop)(hn:xs.length≤4294967296){s0:σ}(h0:J s0)
  (hs: ∀(i:Nat) (x:α) (s:σ),xs[i]?=some x→s=(xs.take i).foldl g s0→J s→f ((i:Int),s)=some (.n (((i+1:Nat):Int),g s x))∧J (g s x)) (he: ∀s,f ((xs.length:Int),s)=some (.b ((xs.length:Int),s))) {fuel:Nat} (hf:xs.length<fuel):
  loopE fuel f (0,s0)=some (.n ((xs.length:Int),xs.foldl g s0)):=by
 have key: ∀(m k:Nat) (s:σ),k+m=xs.length→s=(xs.take k).foldl g s0→J s→ ∀fuel,m<fuel→loopE fuel f ((k:Int),s)=some (.n ((xs.length:Int),xs.foldl g s0)):=by
  intro m
  induction m with
  |zero=>
   intro k s hk h hJ fuel hf
   obtain⟨n,rfl⟩: ∃n,fuel=n+1:=⟨fuel-1,by omega⟩
   have hkn:k=xs.length:=by omega
   subst hkn
   rw[loopE,he,h,List.take_length]
   rfl
  |succ m ih=>
   intro k s hk h hJ fuel hf
   obtain⟨n,rfl⟩: ∃n,fuel=n+1:=⟨fuel-1,by omega⟩
   have hlt:k<xs.length:=by omega
   have hx:xs[k]?=some xs[k]:=by simp[hlt]
   obtain⟨h1,h2⟩:=hs k xs[k] s hx h hJ
   rw[loopE,h1]
   refine ih (k+1) _ (by omega) ?_ h2 n (by omega)
   rw[List.take_add_one,hx,Option.toList_some,List.foldl_append,←h]
   rfl
 simpa using key xs.length 0 s0 (by omega) (by simp) h0 fuel hf
end Go.Proofs.YtmogcnnhbmaffaaGreat.PL
set_option linter.unusedVariables false
set_option linter.unusedSimpArgs false
namespace Go.Proofs.YtmogcnnhbmaffaaGreat.PL
open Go
def isFnd(bs:List Bl)(l:ByteArray)(r:Int):Prop:=
 (∃k:Nat,r=k∧(∃b,bs[k]?=some b∧b.label=l)∧ ∀j<k,∀b,bs[j]?=some b→b.label≠l)∨(r= -1∧ ∀(j:Nat) b,bs[j]?=some b→b.label≠l)
theorem isFnd_same{bs:List Bl}{l:ByteArray}{r s:Int}(h:isFnd bs l r)(k:isFnd bs l s):r=s:=by
 rcases h with ⟨a,rfl,⟨b,h1,h2⟩,h3⟩|⟨rfl,h3⟩<;>rcases k with ⟨c,rfl,⟨d,k1,k2⟩,k3⟩|⟨rfl,k3⟩
 ·rcases Nat.lt_trichotomy a c with h|h|h
  ·exact absurd h2 (k3 a h b h1)
  ·rw[h]
  ·exact absurd k2 (h3 c h d k1)
 ·exact absurd h2 (k3 a b h1)
 ·exact absurd k2 (h3 c d k1)
 ·rfl
theorem isFnd_lt{bs:List Bl}{l:ByteArray}{r:Int}(h:isFnd bs l r): -1≤r∧r<(bs.length:Int):=by
 rcases h with ⟨a,rfl,⟨b,h1,h2⟩,h3⟩|⟨rfl,h3⟩
 ·have:=(List.getElem?_eq_some_iff.1 h1).1;omega
 ·omega
theorem find_ref{f:Fnc}(hn:f.blocks.length≤4294967296)(fuel:Nat)(l:ByteArray): ∃r,pz3s fuel f l=some r∧isFnd f.blocks l r:=by
 unfold pz3s
 refine Or.elim (toE_inv (fun i (_:Unit)=> ∀j<i,∀b,f.blocks[j]?=some b→b.label≠l) (fun r=>isFnd f.blocks l r) (fun i _=>pz3r fuel f l i) f.blocks.length hn (s:=()) (by intro j h;omega) ?_) ?_ ?_
 rotate_left
 ·rintro⟨s,h1,h2⟩;rw[h1];exact⟨-1,rfl,.inr ⟨rfl,fun j b h=>h2 j (List.getElem?_eq_some_iff.1 h).1 b h⟩⟩
 ·rintro⟨v,h1,h2⟩;rw[h1];exact⟨v,rfl,h2⟩
 ·intro i s hi hI
  obtain⟨b,hb⟩:=getAt hi
  by_cases c:b.label=l
  ·exact .inr ⟨i,by simp[pz3r,zp hb,c],.inl ⟨i,rfl,⟨b,hb,c⟩,hI⟩⟩
  ·refine .inl ⟨(),by simp[pz3r,zp hb,c],?_⟩
   intro j hj b' hb'
   by_cases e:j=i
   ·subst e;rw[hb] at hb';cases hb';exact c
   ·exact hI j (by omega) b' hb'
theorem find_ir{f:Fnc}(hn:f.blocks.length≤4294967){fuel:Nat}(hf:f.blocks.length<fuel)(l:ByteArray): ∃r,pzm fuel f l=some r∧isFnd f.blocks l r:=by
 unfold pzm pzl
 refine Or.elim (yO (fun x:Int=> ∃i:Nat,x=i∧i≤f.blocks.length∧ ∀j<i,∀b,f.blocks[j]?=some b→b.label≠l) (fun _=> ∀(j:Nat) b,f.blocks[j]?=some b→b.label≠l) (fun r=>isFnd f.blocks l r) (fun x=>f.blocks.length-x.toNat) (fun s=>pzk fuel f.blocks l s) ?_ fuel 0 ⟨0,rfl,by omega,by intro j h;omega⟩ (by simpa using hf)) ?_ ?_
 rotate_left
 ·rintro⟨s,h1,h2⟩;rw[h1];exact⟨-1,rfl,.inr ⟨rfl,h2⟩⟩
 ·rintro⟨v,h1,h2⟩;rw[h1];exact⟨v,rfl,h2⟩
 ·rintro x ⟨i,rfl,hi,hI⟩
  by_cases hlt:i<f.blocks.length
  ·obtain⟨b,hb⟩:=getAt hlt
   have hd:((i:Int)<(f.blocks.length:Int)):=by omega
   by_cases c:b.label=l
   ·exact .inr (.inr ⟨i,by simp[pzk,pzj,zp hb,c,hlt],.inl ⟨i,rfl,⟨b,hb,c⟩,hI⟩⟩)
   ·refine .inl ⟨((i+1:Nat):Int),by rw[←wrap1 (by omega)];simp[pzk,pzj,zp hb,c,hlt],⟨i+1,rfl,by omega,?_⟩,by omega⟩
    intro j hj b' hb'
    by_cases e:j=i
    ·subst e;rw[hb] at hb';cases hb';exact c
    ·exact hI j (by omega) b' hb'
  ·refine .inr (.inl ⟨(i:Int),by simp[pzk,hlt],?_⟩)
   intro j b hb
   have:=(List.getElem?_eq_some_iff.1 hb).1
   exact hI j (by omega) b hb
theorem in_ref{l:List Int}(hn:l.length≤4294967296)(fuel:Nat)(v:Int):pz3y fuel l v=some (decide (v∈l)):=by
 unfold pz3y
 refine Or.elim (toE_inv (fun i (_:Unit)=> ∀j<i,l[j]?≠some v) (fun r=>r=decide (v∈l)) (fun i _=>pz3x fuel l v i) l.length hn (s:=()) (by intro j h;omega) ?_) ?_ ?_
 rotate_left
 ·rintro⟨s,h1,h2⟩;rw[h1]
  have:v∉l:=by
   intro h
   obtain⟨j,hj⟩:=List.getElem?_of_mem h
   exact h2 j (List.getElem?_eq_some_iff.1 hj).1 hj
  simp[bindE,this]
 ·rintro⟨w,h1,h2⟩;rw[h1,h2];rfl
 ·intro i s hi hI
  obtain⟨b,hb⟩:=getAt hi
  by_cases c:b=v
  ·refine .inr ⟨true,by simp[pz3x,zp hb,c],?_⟩
   have:v∈l:=by rw[←c];exact List.mem_of_getElem? hb
   simp[this]
  ·refine .inl ⟨(),by simp[pz3x,zp hb,c],?_⟩
   intro j hj hb'
   by_cases e:j=i
   ·subst e;rw[hb] at hb';cases hb';exact c rfl
   ·exact hI j (by omega) hb'
theorem in_sl{l:List Int}(hn:l.length≤4294967){fuel:Nat}(hf:l.length<fuel)(v:Int):pz10 fuel l v=some (decide (v∈l)):=by
 unfold pz10 pzz
 refine Or.elim (yO (fun x:Int=> ∃i:Nat,x=i∧i≤l.length∧ ∀j<i,l[j]?≠some v) (fun _=>v∉l) (fun r:Int=>0≤r∧v∈l) (fun x=>l.length-x.toNat) (fun s=>pzy fuel l v s) ?_ fuel 0 ⟨0,rfl,by omega,by intro j h;omega⟩ (by simpa using hf)) ?_ ?_
 rotate_left
 ·rintro⟨s,h1,h2⟩;rw[h1];simp[bindE,h2]
 ·rintro⟨w,h1,h2⟩;rw[h1];simp[bindE,h2.1,h2.2]
 ·rintro x ⟨i,rfl,hi,hI⟩
  by_cases hlt:i<l.length
  ·obtain⟨b,hb⟩:=getAt hlt
   by_cases c:v=b
   ·exact .inr (.inr ⟨i,by simp[pzy,zp hb,c,hlt],by omega,by rw[c];exact List.mem_of_getElem? hb⟩)
   ·refine .inl ⟨((i+1:Nat):Int),by rw[←wrap1 (by omega)];simp[pzy,zp hb,c,hlt],⟨i+1,rfl,by omega,?_⟩,by omega⟩
    intro j hj hb'
    by_cases e:j=i
    ·subst e;rw[hb] at hb';cases hb';exact c rfl
    ·exact hI j (by omega) hb'
  ·refine .inr (.inl ⟨(i:Int),by simp[pzy,hlt],?_⟩)
   intro h
   obtain⟨j,hj⟩:=List.getElem?_of_mem h
   have:=(List.getElem?_eq_some_iff.1 hj).1
   exact hI j (by omega) hj
theorem wrapu{x:Nat}(h:x<18446744073709551616):IntKind.u64.wrap (x:Int)=(x:Int):=by
 simp[IntKind.wrap,IntKind.bits,IntKind.signed,IntKind.min,IntKind.max]
 omega
theorem ofIntNat{a:Nat}(ha:a<18446744073709551616):(BitVec.ofInt 64 (a:Int)).toNat=a:=by
 rw[BitVec.toNat_ofInt];omega
theorem band_nat{a b:Nat}(ha:a<18446744073709551616)(hb:b<18446744073709551616):band .u64 (a:Int) (b:Int)=((a&&&b:Nat):Int):=by
 show IntKind.u64.wrap (((BitVec.ofInt 64 (a:Int)&&&BitVec.ofInt 64 (b:Int)).toNat:Nat):Int)=_
 rw[BitVec.toNat_and,ofIntNat ha,ofIntNat hb,wrapu (Nat.and_lt_two_pow (n:=64) a hb)]
theorem bor_nat{a b:Nat}(ha:a<18446744073709551616)(hb:b<18446744073709551616):bor .u64 (a:Int) (b:Int)=((a|||b:Nat):Int):=by
 show IntKind.u64.wrap (((BitVec.ofInt 64 (a:Int)|||BitVec.ofInt 64 (b:Int)).toNat:Nat):Int)=_
 rw[BitVec.toNat_or,ofIntNat ha,ofIntNat hb,wrapu (Nat.or_lt_two_pow (n:=64) ha hb)]
theorem shr_nat{a k:Nat}(hk:k<64):shr .u64 (a:Int) (k:Int)=some ((a/2^k:Nat):Int):=by
 unfold shr
 rw[if_neg (by omega)]
 have:min ((k:Int).toNat) IntKind.u64.bits=k:=by show min ((k:Int).toNat) 64=k;omega
 rw[this,Int.fdiv_eq_ediv_of_nonneg _ (by exact Int.le_of_lt (Int.pow_pos (by decide)))]
 congr 1
theorem shl_one{k:Nat}(hk:k<64):shl .u64 1 (k:Int)=some ((2^k:Nat):Int):=by
 unfold shl
 rw[if_neg (by omega)]
 have:min ((k:Int).toNat) IntKind.u64.bits=k:=by show min ((k:Int).toNat) 64=k;omega
 have h2:2^k<18446744073709551616:=Nat.pow_lt_pow_right (n:=64) (by decide) hk
 rw[this]
 congr 1
 rw[←wrapu h2]
 simp
theorem tdiv_nat(i:Nat):Int.tdiv (i:Int) 64=((i/64:Nat):Int):=by
 rw[Int.tdiv_eq_ediv_of_nonneg (by omega)];omega
theorem tmod_nat(i:Nat):Int.tmod (i:Int) 64=((i%64:Nat):Int):=by
 rw[Int.tmod_eq_emod_of_nonneg (by omega)];omega
def bV(s:zG)(n:Nat):Prop:=s.n=(n:Int)∧s.words.length=(n+63)/64∧ ∀w∈s.words,0≤w∧w<18446744073709551616
def bH(s:zG)(j:Nat):Bool:=match s.words[j/64]? with|some w=>w.toNat.testBit (j%64)|none=>false
theorem has_ok{s:zG}{n:Nat}(hV:bV s n)(hn:n≤4294967296)(fuel:Nat)(i:Int):pz28 fuel s i=some (decide (0≤i∧i<(n:Int))&&bH s i.toNat):=by
 unfold pz28 pz27
 rw[hV.1]
 by_cases h:0≤i∧i<(n:Int)
 ·obtain⟨k,rfl⟩:=Int.eq_ofNat_of_zero_le h.1
  have hk:k<n:=by omega
  obtain⟨w,hw⟩:=getAt (xs:=s.words) (i:=k/64) (by rw[hV.2.1];omega)
  obtain⟨hw0,hw1⟩:=hV.2.2 w (List.mem_of_getElem? hw)
  obtain⟨a,rfl⟩:=Int.eq_ofNat_of_zero_le hw0
  have ha:a<18446744073709551616:=by omega
  have hd:a/2^(k%64)<18446744073709551616:=Nat.lt_of_le_of_lt (Nat.div_le_self _ _) ha
  have hw':idx s.words (IntKind.wrap .i64 (Int.tdiv (k:Int) 64))=some (a:Int):=by
   rw[tdiv_nat,zz (by omega) (by omega)];exact zp hw
  have hb:=band_nat hd (b:=1) (by decide)
  have hr:decide (band .u64 ((a/2^(k%64):Nat):Int) 1=1)=a.testBit (k%64):=by
   rw[show(1:Int)=((1:Nat):Int) from rfl,hb,Nat.and_one_is_mod,Nat.testBit_eq_decide_div_mod_eq]
   congr 1
   simp only[eq_iff_iff]
   omega
  have hs:=shr_nat (a:=a) (k:=k%64) (by omega)
  rw[←tmod_nat] at hs
  simp only[Option.bind_some,h.1,h.2,decide_true,Bool.and_true,if_true,Bool.true_and,and_self]
  rw[hw']
  simp only[Option.bind_some]
  rw[hs]
  simp only[Option.bind_some,hr]
  simp[bH,hw]
 ·have:(decide (0≤i)&&decide (i<(n:Int)))=false:=by
   simp;omega
  simp only[this,Option.bind_some,h,decide_false,Bool.false_and]
  simp
theorem yzI{s:zG}{n:Nat}(hV:bV s n)(hn:n≤4294967296)(fuel:Nat)(i:Int):
  (pz2a fuel s i=some (false,s)∧ ∀k:Nat,i=k→k<n→bH s k=true)∨
  ∃(k:Nat) (s':zG),i=k∧k<n∧bH s k=false∧pz2a fuel s i=some (true,s')∧bV s' n∧ ∀j,bH s' j=(bH s j||decide (j=k)):=by
 unfold pz2a
 rw[has_ok hV hn]
 have hin:pz27 fuel s i=some (decide (0≤i∧i<(n:Int))):=by unfold pz27;rw[hV.1];simp
 rw[hin]
 by_cases h:0≤i∧i<(n:Int)
 ·obtain⟨k,rfl⟩:=Int.eq_ofNat_of_zero_le h.1
  have hk:k<n:=by omega
  obtain⟨w,hw⟩:=getAt (xs:=s.words) (i:=k/64) (by rw[hV.2.1];omega)
  obtain⟨hw0,hw1⟩:=hV.2.2 w (List.mem_of_getElem? hw)
  obtain⟨a,rfl⟩:=Int.eq_ofNat_of_zero_le hw0
  have ha:a<18446744073709551616:=by omega
  have hw':idx s.words (IntKind.wrap .i64 (Int.tdiv (k:Int) 64))=some (a:Int):=by
   rw[tdiv_nat,zz (by omega) (by omega)];exact zp hw
  by_cases hb:bH s k=true
  ·left
   refine⟨by simp[h,hb],?_⟩
   intro k' e _;have:k=k':=by omega
   subst this;exact hb
  ·right
   have hb':bH s k=false:=by simpa using hb
   have h2:2^(k%64)<18446744073709551616:=Nat.pow_lt_pow_right (n:=64) (by decide) (by omega)
   have hs:=shl_one (k:=k%64) (by omega)
   rw[←tmod_nat] at hs
   have hset:setI s.words (IntKind.wrap .i64 (Int.tdiv (k:Int) 64)) (bor .u64 (a:Int) ((2^(k%64):Nat):Int))=some (s.words.set (k/64) ((a|||2^(k%64):Nat):Int)):=by
    rw[tdiv_nat,zz (by omega) (by omega),bor_nat ha h2];exact kS (by rw[hV.2.1];omega)
   refine⟨k,⟨s.n,s.words.set (k/64) ((a|||2^(k%64):Nat):Int)⟩,rfl,hk,hb',?_,⟨hV.1,by simp[hV.2.1],?_⟩,?_⟩
   ·have hkn:((k:Int)<(n:Int)):=h.2
    have c0:(decide (0≤(k:Int)∧(k:Int)<(n:Int)))=true:=by simpa using h
    have c1:(true&&bH s ((k:Int)).toNat)=false:=by simpa using hb'
    simp only[Option.bind_some,c0,c1,Bool.not_true,Bool.false_eq_true,if_false]
    rw[hw']
    simp only[Option.bind_some]
    rw[hs]
    simp only[Option.bind_some]
    rw[hset]
    rfl
   ·intro w hwm
    rcases List.mem_or_eq_of_mem_set hwm with hwm|rfl
    ·exact hV.2.2 w hwm
    ·have:=Nat.or_lt_two_pow (n:=64) ha h2
     omega
   ·intro j
    unfold bH
    by_cases e:j/64=k/64
    ·have hl:k/64<s.words.length:=by rw[hV.2.1];omega
     simp only[e,List.getElem?_set_self hl,hw,Int.toNat_natCast,Nat.testBit_or,Nat.testBit_two_pow]
     congr 1
     simp only[decide_eq_decide]
     omega
    ·have:j≠k:=by intro c;subst c;exact e rfl
     rw[List.getElem?_set_ne (by omega)]
     simp[this]
 ·left
  refine⟨by simp[h],?_⟩
  intro k e hk;omega
theorem new_ok{n:Nat}(hn:n≤4294967296)(fuel:Nat): ∃s,pz29 fuel (n:Int)=some s∧bV s n∧ ∀j,bH s j=false:=by
 have h0:(if 0>(n:Int) then 0 else(n:Int))=n:=by rw[if_neg (by omega)]
 refine⟨⟨n,List.replicate ((n+63)/64) 0⟩,?_,⟨rfl,by simp,?_⟩,?_⟩
 ·unfold pz29
  rw[h0,zz (x:=(n:Int)+64) (by omega) (by omega),zz (x:=(n:Int)+64-1) (by omega) (by omega),show(n:Int)+64-1=((n+63:Nat):Int) by omega,tdiv_nat,zz (by omega) (by omega),mk_nat (by omega)]
  rfl
 ·intro w hw
  have:=(List.mem_replicate.1 hw).2
  subst this;omega
 ·intro j
  unfold bH
  simp only[List.getElem?_replicate]
  split
  ·rename_i h
   split at h
   ·cases h;simp
   ·cases h
  ·rfl
end Go.Proofs.YtmogcnnhbmaffaaGreat.PL
set_option linter.unusedVariables false
set_option linter.unusedSimpArgs false
namespace Go.Proofs.YtmogcnnhbmaffaaGreat.PL
open Go
def fOk(f:Fnc):Prop:=f.blocks.length≤1048576∧ ∀b∈f.blocks,b.code.length≤1048576∧ ∀i∈b.code,i.labels.length≤1048576
def fnd(f:Fnc)(l:ByteArray):Int:=(pz3s 0 f l).getD (-1)
theorem fnd_is{f:Fnc}(hn:fOk f)(l:ByteArray):isFnd f.blocks l (fnd f l):=by
 obtain⟨r,h1,h2⟩:=find_ref (f:=f) (by have:=hn.1;omega) 0 l
 unfold fnd;rw[h1];exact h2
theorem fnd_ir{f:Fnc}(hn:fOk f){fuel:Nat}(hf:1048576<fuel)(l:ByteArray):pzm fuel f l=some (fnd f l):=by
 obtain⟨r,h1,h2⟩:=find_ir (f:=f) (by have:=hn.1;omega) (fuel:=fuel) (by have:=hn.1;omega) l
 rw[h1,isFnd_same h2 (fnd_is hn l)]
theorem fnd_lt{f:Fnc}(hn:fOk f)(l:ByteArray): -1≤fnd f l∧fnd f l<(f.blocks.length:Int):=isFnd_lt (fnd_is hn l)
def addT(acc:List Int)(r:Int):List Int:=if 0≤r∧r∉acc then acc++[r] else acc
theorem addT_len(acc:List Int)(r:Int):(addT acc r).length≤acc.length+1:=by
 unfold addT;split<;>simp
def tgl(f:Fnc)(ls:List ByteArray):List Int:=ls.foldl (fun a l=>addT a (fnd f l)) []
theorem tgl_next(f:Fnc){ls:List ByteArray}{i:Nat}{l:ByteArray}(h:ls[i]?=some l):tgl f (ls.take (i+1))=addT (tgl f (ls.take i)) (fnd f l):=by
 unfold tgl
 rw[List.take_add_one,h]
 simp
theorem foldT_len(f:Fnc)(ls:List ByteArray): ∀acc:List Int,(ls.foldl (fun a l=>addT a (fnd f l)) acc).length≤acc.length+ls.length:=by
 induction ls with
 |nil=>intro acc;simp
 |cons l ls ih=>
  intro acc
  have h1:=ih (addT acc (fnd f l))
  have h2:=addT_len acc (fnd f l)
  simp only[List.foldl_cons,List.length_cons]
  omega
theorem tgl_len(f:Fnc)(ls:List ByteArray):(tgl f ls).length≤ls.length:=by simpa [tgl] using foldT_len f ls []
theorem foldT_in{f:Fnc}(hn:fOk f)(ls:List ByteArray): ∀acc:List Int,(∀r∈acc,0≤r∧r<(f.blocks.length:Int))→ ∀r∈ls.foldl (fun a l=>addT a (fnd f l)) acc,0≤r∧r<(f.blocks.length:Int):=by
 induction ls with
 |nil=>intro acc h;exact h
 |cons l ls ih=>
  intro acc h
  refine ih _ ?_
  intro r hr
  change r∈addT acc (fnd f l) at hr
  unfold addT at hr
  split at hr
  ·rename_i c
   rcases List.mem_append.1 hr with hr|hr
   ·exact h r hr
   ·have:=List.mem_singleton.1 hr
    subst this
    exact⟨c.1,(fnd_lt hn l).2⟩
  ·exact h r hr
theorem tgl_in{f:Fnc}(hn:fOk f)(ls:List ByteArray): ∀r∈tgl f ls,0≤r∧r<(f.blocks.length:Int):=foldT_in hn ls [] (by simp)
def lastB(b:Bl):Option Ins:=match b.code[b.code.length-1]? with|some i=>if 20≤i.op∧i.op≤23 then some i else none|none=>none
def tg(f:Fnc)(b:Bl):List Int:=match lastB b with|some i=>tgl f i.labels|none=>[]
theorem lastB_len{f:Fnc}(hn:fOk f){b:Bl}(hb:b∈f.blocks){i:Ins}(h:lastB b=some i):i.labels.length≤1048576:=by
 unfold lastB at h
 split at h
 ·rename_i j hj
  split at h
  ·cases h;exact(hn.2 b hb).2 _ (List.mem_of_getElem? hj)
  ·cases h
 ·cases h
theorem tg_in{f:Fnc}(hn:fOk f)(b:Bl): ∀r∈tg f b,0≤r∧r<(f.blocks.length:Int):=by
 unfold tg
 split
 ·exact tgl_in hn _
 ·simp
theorem tg_len{f:Fnc}(hn:fOk f){b:Bl}(hb:b∈f.blocks):(tg f b).length≤1048576:=by
 unfold tg
 split
 ·rename_i i h
  exact Nat.le_trans (tgl_len _ _) (lastB_len hn hb h)
 ·simp
theorem last_idx{b:Bl}(h:b.code.length≤1048576)(h0:b.code.length≠0): ∃i,b.code[b.code.length-1]?=some i∧idx b.code (IntKind.wrap .i64 ((b.code.length:Int)-1))=some i:=by
 obtain⟨i,hi⟩:=getAt (xs:=b.code) (i:=b.code.length-1) (by omega)
 refine⟨i,hi,?_⟩
 rw[zz (by omega) (by omega),show(b.code.length:Int)-1=((b.code.length-1:Nat):Int) by omega]
 exact zp hi
def TT(f:Fnc)(j:Nat):List Int:=match f.blocks[j]? with|some b=>tg f b|none=>[]
def PP(f:Fnc)(x j:Nat):List Int:=((List.range x).filter (fun k=>decide ((j:Int)∈TT f k))).map (fun(k:Nat)=>(k:Int))
theorem PP_len(f:Fnc)(x j:Nat):(PP f x j).length≤x:=by
 unfold PP
 rw[List.length_map]
 exact Nat.le_trans (List.length_filter_le _ _) (by simp)
theorem PP_next(f:Fnc)(x j:Nat):PP f (x+1) j=PP f x j++if(j:Int)∈TT f x then [(x:Int)] else []:=by
 unfold PP
 rw[List.range_succ,List.filter_append,List.map_append]
 congr 1
 by_cases c:(j:Int)∈TT f x<;>simp[c]
structure NI (f:Fnc) (x:Nat) (acc:List Int) (c9 c10:List (List Int)):Prop where
 l9:c9.length=f.blocks.length
 l10:c10.length=f.blocks.length
 g9: ∀j,j<f.blocks.length→c9[j]?=some (if j=x then acc else if j<x then TT f j else [])
 g10: ∀j:Nat,j<f.blocks.length→c10[j]?=some (PP f x j++if(j:Int)∈acc then [(x:Int)] else [])
theorem new_b2{f:Fnc}(hn:fOk f){fuel:Nat}(hf:1048577<fuel){x:Nat}(hx:x<f.blocks.length){i:Ins}(hi:i.labels.length≤1048576){c9 c10:List (List Int)}(h0:NI f x [] c9 c10):
  ∃d9 d10,NI f x (tgl f i.labels) d9 d10∧ ∃z,loopE fuel (fun s=>pz23 fuel f (x:Int) i s.1 s.2.1 s.2.2) (c9,c10,0)=some (.n (d9,d10,z)):=by
 have hn1:=hn.1
 refine Or.elim (yO (fun s:List (List Int)×List (List Int)×Int=> ∃y:Nat,s.2.2=y∧y≤i.labels.length∧NI f x (tgl f (i.labels.take y)) s.1 s.2.1) (fun s=>NI f x (tgl f i.labels) s.1 s.2.1) (fun _:List (List Int)×List (List Int)=>False) (fun s=>i.labels.length-s.2.2.toNat)
  (fun s=>pz23 fuel f (x:Int) i s.1 s.2.1 s.2.2) ?_ fuel (c9,c10,0) ⟨0,rfl,by omega,h0⟩ (by simp;omega)) ?_ ?_
 rotate_left
 ·rintro⟨⟨d9,d10,z⟩,h1,h2⟩
  exact⟨d9,d10,h2,z,h1⟩
 ·rintro⟨v,_,h⟩;exact h.elim
 ·rintro⟨a9,a10,q⟩ ⟨y,hq,hy,hI⟩
  simp only at hq hI
  subst hq
  show(∃s',pz23 fuel f (x:Int) i a9 a10 (y:Int)=some (.n s')∧_)∨(∃s',pz23 fuel f (x:Int) i a9 a10 (y:Int)=some (.b s')∧_)∨_
  unfold pz23
  by_cases hlt:y<i.labels.length
  ·left
   obtain⟨l,hl⟩:=getAt hlt
   have hlen:=tgl_len f (i.labels.take y)
   simp at hlen
   have h9:=hI.g9 x hx
   simp only[if_true] at h9
   have hlt':(y:Int)<(i.labels.length:Int):=by omega
   have hc:=in_sl (l:=tgl f (i.labels.take y)) (by omega) (fuel:=fuel) (by omega) (fnd f l)
   simp only[hlt',decide_true,if_true,zp hl,Option.bind_some,fnd_ir hn (by omega:1048576<fuel),zp h9,hc]
   by_cases c:0≤fnd f l
   ·by_cases d:fnd f l∈tgl f (i.labels.take y)
    ·simp only[c,d,decide_true,if_true,Bool.not_true,Bool.false_eq_true,if_false,Option.bind_some]
     refine⟨_,rfl,⟨y+1,wrap1 (by omega),by omega,?_⟩,?_⟩
     ·rw[tgl_next f hl,addT,if_neg (fun e=>e.2 d)];exact hI
     ·show i.labels.length-(IntKind.i64.wrap ((y:Int)+1)).toNat<i.labels.length-((y:Int)).toNat
      rw[wrap1 (by omega)];omega
    ·obtain⟨k,hk⟩:=Int.eq_ofNat_of_zero_le c
     have hkn:k<f.blocks.length:=by have:=(fnd_lt hn l).2;omega
     have h10:=hI.g10 k hkn
     rw[hk] at d
     have hpl:=PP_len f x k
     simp only[d,if_false,List.append_nil] at h10
     have ha1:app (tgl f (i.labels.take y)) [(k:Int)]=some (tgl f (i.labels.take y)++[(k:Int)]):=yf (by simp;omega)
     have ha2:app (PP f x k) [(x:Int)]=some (PP f x k++[(x:Int)]):=yf (by simp;omega)
     have hs1:setI a9 (x:Int) (tgl f (i.labels.take y)++[(k:Int)])=some (a9.set x (tgl f (i.labels.take y)++[(k:Int)])):=kS (by rw[hI.l9];exact hx)
     have hs2:setI a10 (k:Int) (PP f x k++[(x:Int)])=some (a10.set k (PP f x k++[(x:Int)])):=kS (by rw[hI.l10];exact hkn)
     have hk0:(0:Int)≤(k:Int):=by omega
     simp only[hk,hk0,d,decide_true,decide_false,if_true,Bool.not_false,Option.bind_some,ha1,hs1,zp h10,ha2,hs2]
     refine⟨_,rfl,⟨y+1,wrap1 (by omega),by omega,?_⟩,?_⟩
     ·rw[tgl_next f hl,addT,if_pos ⟨c,by rw[hk];exact d⟩,hk]
      refine⟨by simp[hI.l9],by simp[hI.l10],?_,?_⟩
      ·intro j hj
       by_cases e:j=x
       ·subst e;rw[List.getElem?_set_self (by rw[hI.l9];exact hx)];simp
       ·rw[List.getElem?_set_ne (by omega),hI.g9 j hj];simp[e]
      ·intro j hj
       by_cases e:j=k
       ·subst e;rw[List.getElem?_set_self (by rw[hI.l10];exact hj)];simp
       ·rw[List.getElem?_set_ne (by omega),hI.g10 j hj]
        have: ¬((j:Int)=(k:Int)):=by omega
        simp[this]
     ·show i.labels.length-(IntKind.i64.wrap ((y:Int)+1)).toNat<i.labels.length-((y:Int)).toNat
      rw[wrap1 (by omega)];omega
   ·simp only[c,decide_false,if_true,Bool.false_eq_true,if_false,Option.bind_some]
    refine⟨_,rfl,⟨y+1,wrap1 (by omega),by omega,?_⟩,?_⟩
    ·rw[tgl_next f hl,addT,if_neg (fun e=>c e.1)];exact hI
    ·show i.labels.length-(IntKind.i64.wrap ((y:Int)+1)).toNat<i.labels.length-((y:Int)).toNat
     rw[wrap1 (by omega)];omega
  ·right;left
   have hlt': ¬((y:Int)<(i.labels.length:Int)):=by omega
   simp only[hlt',decide_false,Bool.false_eq_true,if_false]
   refine⟨_,rfl,?_⟩
   have:y=i.labels.length:=by omega
   subst this
   simpa using hI
theorem NI_next{f:Fnc}{x:Nat}{d9 d10:List (List Int)}(h:NI f x (TT f x) d9 d10):NI f (x+1) [] d9 d10:=by
 refine⟨h.l9,h.l10,?_,?_⟩
 ·intro j hj
  rw[h.g9 j hj]
  by_cases e:j=x
  ·subst e;simp
  ·by_cases c:j<x
   ·have:j≠x+1:=by omega
    simp[e,c,this,show j<x+1 by omega]
   ·have: ¬j<x+1:=by omega
    simp[e,c,this]
 ·intro j hj
  rw[h.g10 j hj,PP_next]
  simp
theorem last_ok{f:Fnc}(hn:fOk f){b:Bl}(hb:b∈f.blocks)(fuel:Nat):(∃i,lastB b=some i∧pz22 fuel b=some (i,true))∨(lastB b=none∧ ∃z,pz22 fuel b=some (z,false)):=by
 have hc:=(hn.2 b hb).1
 unfold pz22 pzs
 by_cases h0:b.code.length=0
 ·right
  have:lastB b=none:=by
   unfold lastB
   have:b.code=[]:=List.eq_nil_of_length_eq_zero h0
   simp[this]
  exact⟨this,_,by simp[h0];rfl⟩
 ·obtain⟨x,hx,hx'⟩:=last_idx hc h0
  have hp: ¬((b.code.length:Int)=0):=by omega
  simp only[hp,decide_false,Bool.false_eq_true,if_false,hx',Option.bind_some]
  unfold lastB
  rw[hx]
  by_cases c:20≤x.op∧x.op≤23
  ·left;exact⟨x,by simp[c],by simp[c]⟩
  ·right;exact⟨by simp[c],x,by simp only[Option.some.injEq,Prod.mk.injEq,true_and,Bool.and_eq_false_iff,decide_eq_false_iff_not];omega⟩
theorem new_f{f:Fnc}(hn:fOk f){fuel:Nat}(hf:1048577<fuel): ∃g,pz25 fuel f=some g∧g.succ.length=f.blocks.length∧g.pred.length=f.blocks.length∧
  (∀j,j<f.blocks.length→g.succ[j]?=some (TT f j))∧ ∀j:Nat,j<f.blocks.length→g.pred[j]?=some (PP f f.blocks.length j):=by
 have hn1:=hn.1
 unfold pz25
 rw[mk_nat (by omega)]
 simp only[Option.bind_some]
 refine Or.elim (yO (fun s:Int×List (List Int)×List (List Int)=> ∃x:Nat,s.1=x∧x≤f.blocks.length∧NI f x [] s.2.1 s.2.2) (fun s=>NI f f.blocks.length [] s.2.1 s.2.2) (fun _:zo=>False) (fun s=>f.blocks.length-s.1.toNat)
  (fun s=>pz24 fuel f s.1 s.2.1 s.2.2) ?_ fuel (0,List.replicate f.blocks.length [],List.replicate f.blocks.length []) ⟨0,rfl,by omega,?_⟩ (by simp;omega)) ?_ ?_
 rotate_left
 ·refine⟨by simp,by simp,?_,?_⟩
  ·intro j hj;simp[List.getElem?_replicate,hj]
  ·intro j hj;simp[List.getElem?_replicate,hj,PP]
 ·rintro⟨⟨z,d9,d10⟩,h1,h2⟩
  rw[h1]
  refine⟨⟨d9,d10⟩,rfl,h2.l9,h2.l10,?_,?_⟩
  ·intro j hj
   have:=h2.g9 j hj
   simpa [hj,show j≠f.blocks.length by omega] using this
  ·intro j hj
   simpa using h2.g10 j hj
 ·rintro⟨v,_,h⟩;exact h.elim
 ·rintro⟨q,a9,a10⟩ ⟨x,hq,hx,hI⟩
  simp only at hq hI
  subst hq
  show(∃s',pz24 fuel f (x:Int) a9 a10=some (.n s')∧_)∨(∃s',pz24 fuel f (x:Int) a9 a10=some (.b s')∧_)∨_
  unfold pz24
  by_cases hlt:x<f.blocks.length
  ·left
   obtain⟨b,hb⟩:=getAt hlt
   have hm:=List.mem_of_getElem? hb
   have hlt':(x:Int)<(f.blocks.length:Int):=by omega
   have hT:TT f x=tg f b:=by unfold TT;rw[hb]
   have done: ∀d9 d10,NI f x (TT f x) d9 d10→((fun s:Int×List (List Int)×List (List Int)=> ∃x:Nat,s.1=x∧x≤f.blocks.length∧NI f x [] s.2.1 s.2.2) (IntKind.i64.wrap ((x:Int)+1),d9,d10)∧f.blocks.length-(IntKind.i64.wrap ((x:Int)+1)).toNat<f.blocks.length-((x:Int)).toNat):=by
    intro d9 d10 h
    rw[wrap1 (by omega)]
    exact⟨⟨x+1,rfl,by omega,NI_next h⟩,by omega⟩
   simp only[hlt',decide_true,if_true,zp hb,Option.bind_some]
   rcases last_ok hn hm fuel with ⟨i,h1,h2⟩|⟨h1,z,h2⟩
   ·obtain⟨d9,d10,h3,z,h4⟩:=new_b2 hn hf hlt (lastB_len hn hm h1) hI
    simp only[h2,Option.bind_some,Bool.not_true,Bool.false_eq_true,if_false,h4,bindE]
    have ht:TT f x=tgl f i.labels:=by rw[hT];unfold tg;rw[h1]
    rw[←ht] at h3
    exact⟨_,rfl,(done d9 d10 h3).1,(done d9 d10 h3).2⟩
   ·simp only[h2,Option.bind_some,Bool.not_false,if_true]
    have ht:TT f x=[]:=by rw[hT];unfold tg;rw[h1]
    have h3:=hI
    rw[←ht] at h3
    exact⟨_,rfl,(done a9 a10 h3).1,(done a9 a10 h3).2⟩
  ·right;left
   have hlt': ¬((x:Int)<(f.blocks.length:Int)):=by omega
   simp only[hlt',decide_false,Bool.false_eq_true,if_false]
   refine⟨_,rfl,?_⟩
   have:x=f.blocks.length:=by omega
   subst this
   exact hI
end Go.Proofs.YtmogcnnhbmaffaaGreat.PL
set_option linter.unusedVariables false
set_option linter.unusedSimpArgs false
namespace Go.Proofs.YtmogcnnhbmaffaaGreat.PL
open Go
inductive Path (E:Nat→Nat→Prop) (ok:Nat→Prop):Nat→Nat→Prop
 |one {a:Nat}:ok a→Path E ok a a
 |step {a b c:Nat}:ok a→E a b→Path E ok b c→Path E ok a c
theorem Path.fst{E:Nat→Nat→Prop}{ok:Nat→Prop}{a b:Nat}(h:Path E ok a b):ok a:=by cases h<;>assumption
theorem Path.snoc{E:Nat→Nat→Prop}{ok:Nat→Prop}{a b c:Nat}(h:Path E ok a b)(e:E b c)(k:ok c):Path E ok a c:=by
 induction h with
 |one h=>exact .step h e (.one k)
 |step h1 h2 _ ih=>exact .step h1 h2 (ih e)
theorem Path.closed{E:Nat→Nat→Prop}{ok:Nat→Prop}{C:Nat→Prop}(hC: ∀a b,C a→E a b→ok b→C b){a b:Nat}(h:Path E ok a b):C a→C b:=by
 induction h with
 |one h=>exact id
 |step h1 h2 h3 ih=>exact fun c=>ih (hC _ _ c h2 h3.fst)
section
variable {f:Fnc} (hn:fOk f) {fuel:Nat} (hf:1048577<fuel) {wo:Int}
def EE(f:Fnc)(a b:Nat):Prop:=(b:Int)∈TT f a
def okk(wo:Int)(a:Nat):Prop:=(a:Int)≠wo
theorem TT_lt(hn:fOk f){a b:Nat}(h:EE f a b):b<f.blocks.length:=by
 unfold EE TT at h
 split at h
 ·have:=(tg_in hn _ _ h).2;omega
 ·simp at h
theorem TT_fst{a b:Nat}(h:EE f a b):a<f.blocks.length:=by
 unfold EE TT at h
 split at h
 ·rename_i c;exact(List.getElem?_eq_some_iff.1 c).1
 ·simp at h
theorem TT_in(hn:fOk f){a:Nat}{r:Int}(h:r∈TT f a):0≤r∧r<(f.blocks.length:Int):=by
 unfold TT at h
 split at h
 ·exact tg_in hn _ _ h
 ·simp at h
theorem TT_len(hn:fOk f)(a:Nat):(TT f a).length≤1048576:=by
 unfold TT
 split
 ·rename_i c;exact tg_len hn (List.mem_of_getElem? c)
 ·simp
include hn hf in
include hn hf in
include hn hf in
end
end Go.Proofs.YtmogcnnhbmaffaaGreat.PL
set_option linter.unusedVariables false
set_option linter.unusedSectionVars false
set_option linter.unusedSimpArgs false
namespace Go.Proofs.YtmogcnnhbmaffaaGreat.PL
open Go
theorem top_wrap{α:Type}(st:List α)(a:α)(h:st.length≤4294967):IntKind.wrap .i64 (((st++[a]).length:Int)-1)=(st.length:Int):=by
 rw[zz (by simp) (by simp;omega)];simp
theorem top_idx{α:Type}(st:List α)(a:α):idx (st++[a]) (st.length:Int)=some a:=zp (by simp)
theorem top_set{α:Type}(st:List α)(a b:α):setI (st++[a]) (st.length:Int) b=some (st++[b]):=by
 rw[kS (by simp)]
 rw[List.set_append]
 simp
theorem top_cut{α:Type}(st:List α)(a:α):sli (st++[a]) 0 (st.length:Int)=some st:=by
 unfold sli
 rw[if_pos (by simp;omega)]
 simp
theorem reverse_ok{l:List Int}(hl:l.length≤1048576){fuel:Nat}(hf:1048577<fuel):pz2f fuel l=some l.reverse:=by
 unfold pz2f
 refine Or.elim (yO (fun q:List Int×Int×Int=> ∃i:Nat,q.2.1=i∧q.2.2=(l.length:Int)-1-i∧i≤l.length∧q.1.length=l.length∧ ∀k,k<l.length→q.1[k]?=if k<i∨l.length≤k+i then l[l.length-1-k]? else l[k]?) (fun q=>q.1=l.reverse) (fun _:List Int=>False) (fun q=>l.length-q.2.1.toNat)
  (fun s=>pz2e fuel s.1 s.2.1 s.2.2) ?_ fuel (l,0,IntKind.wrap .i64 ((l.length:Int)-1)) ⟨0,rfl,by simp only[zz (show-9223372036854775808≤(l.length:Int)-1 by omega) (show(l.length:Int)-1≤9223372036854775807 by omega)];omega,by omega,rfl,by
   intro k hk;rw[if_neg (by omega)]⟩ (by simp;omega)) ?_ ?_
 rotate_left
 ·rintro⟨⟨a,b,c⟩,k1,k2⟩
  rw[k1]
  simp only at k2
  rw[←k2]
  rfl
 ·rintro⟨v,_,h⟩;exact h.elim
 ·rintro⟨s,p,q⟩ ⟨i,hp,hq,hi,hs,hk⟩
  simp only at hp hq hs hk
  subst hp;subst hq
  show(∃s',pz2e fuel s (i:Int) ((l.length:Int)-1-i)=some (.n s')∧_)∨(∃s',pz2e fuel s (i:Int) ((l.length:Int)-1-i)=some (.b s')∧_)∨_
  unfold pz2e
  by_cases c:2*i+1<l.length
  ·left
   have hc:(i:Int)<(l.length:Int)-1-i:=by omega
   obtain⟨J,hJ⟩: ∃J,J+i+1=l.length:=⟨l.length-1-i,by omega⟩
   have hJ':(l.length:Int)-1-i=(J:Int):=by omega
   obtain⟨xJ,h1⟩:=getAt (xs:=s) (i:=J) (by omega)
   obtain⟨xi,h2⟩:=getAt (xs:=s) (i:=i) (by omega)
   obtain⟨xK,h3⟩:=getAt (xs:=s.set i xJ) (i:=J) (by simp;omega)
   have hs1:setI s (i:Int) xJ=some (s.set i xJ):=kS (by omega)
   have hs2:setI (s.set i xJ) (J:Int) xi=some ((s.set i xJ).set J xi):=kS (by simp;omega)
   have hJi:(i:Int)<(J:Int):=by omega
   simp only[hJ',hJi,decide_true,if_true,zp h1,zp h2,Option.bind_some,hs1,zp h3,hs2]
   refine⟨_,rfl,⟨i+1,wrap1 (by omega),?_,by omega,by simp;omega,?_⟩,?_⟩
   ·show IntKind.i64.wrap ((J:Int)-1)=_
    rw[zz (by omega) (by omega)];omega
   ·intro k hkl
    show((s.set i xJ).set J xi)[k]?=_
    by_cases e:k=J
    ·subst e
     rw[List.getElem?_set_self (by simp;omega),if_pos (by omega),show l.length-1-k=i by omega,←h2,hk i (by omega),if_neg (by omega)]
    ·rw[List.getElem?_set_ne (by omega)]
     by_cases e2:k=i
     ·subst e2
      rw[List.getElem?_set_self (by omega),if_pos (by omega),show l.length-1-k=J by omega,←h1,hk J (by omega),if_neg (by omega)]
     ·rw[List.getElem?_set_ne (by omega),hk k hkl]
      by_cases e3:k<i∨l.length≤k+i
      ·rw[if_pos e3,if_pos (by omega)]
      ·rw[if_neg e3,if_neg (by omega)]
   ·show l.length-(IntKind.i64.wrap ((i:Int)+1)).toNat<l.length-((i:Int)).toNat
    rw[wrap1 (by omega)];omega
  ·right;left
   have hc: ¬((i:Int)<(l.length:Int)-1-i):=by omega
   simp only[hc,decide_false,Bool.false_eq_true,if_false]
   refine⟨_,rfl,?_⟩
   show s=l.reverse
   apply List.ext_getElem?
   intro k
   by_cases hkl:k<l.length
   ·rw[List.getElem?_reverse hkl,hk k hkl]
    split
    ·rfl
    ·rw[show l.length-1-k=k by omega]
   ·rw[List.getElem?_eq_none (by omega),List.getElem?_eq_none (by simp;omega)]
theorem kY: ∀(n:Nat) (l:List Nat),l.Nodup→(∀x∈l,x<n)→l.length≤n
 |0,l,_,h=>by
  cases l with
  |nil=>simp
  |cons x l=>have:=h x (by simp);omega
 |n+1,l,hn,h=>by
  by_cases hm:n∈l
  ·have h1:=kY n (l.erase n) (hn.erase n) (fun x hx=>by
    have h2:=(hn.mem_erase_iff).1 hx
    have:=h x h2.2
    have:=h2.1
    omega)
   rw[List.length_erase_of_mem hm] at h1
   omega
  ·have h1:=kY n l hn (fun x hx=>by
    have:=h x hx
    have:x≠n:=fun e=>hm (e▸hx)
    omega)
   omega
def Bef(l:List Nat)(a b:Nat):Prop:= ∃i j:Nat,i<j∧l[i]?=some a∧l[j]?=some b
theorem Bef.snoc{l:List Nat}{a b x:Nat}(h:Bef l a b):Bef (l++[x]) a b:=by
 obtain⟨i,j,h1,h2,h3⟩:=h
 have hi:=(List.getElem?_eq_some_iff.1 h2).1
 have hj:=(List.getElem?_eq_some_iff.1 h3).1
 exact⟨i,j,h1,by rw[List.getElem?_append_left hi];exact h2,by rw[List.getElem?_append_left hj];exact h3⟩
theorem Bef.last{l:List Nat}{a x:Nat}(h:a∈l):Bef (l++[x]) a x:=by
 obtain⟨i,hi⟩:=List.getElem?_of_mem h
 have hl:=(List.getElem?_eq_some_iff.1 hi).1
 exact⟨i,l.length,hl,by rw[List.getElem?_append_left hl];exact hi,by simp⟩
def cS(h:Nat→Bool)(w:Nat→Nat):Nat→Nat
 |0=>0
 |n+1=>cS h w n+if h n=true then 0 else w n
theorem cS_le{h:Nat→Bool}{w:Nat→Nat}{W:Nat}(hw: ∀j,w j≤W): ∀n,cS h w n≤n*W
 |0=>by simp[cS]
 |n+1=>by
  have:=cS_le hw (h:=h) n
  have:=hw n
  rw[cS,Nat.succ_mul]
  split<;>omega
theorem cS_same{h h':Nat→Bool}{w:Nat→Nat}: ∀n,(∀j,j<n→h' j=h j)→cS h' w n=cS h w n
 |0,_=>rfl
 |n+1,hh=>by rw[cS,cS,cS_same n fun j hj=>hh j (by omega),hh n (by omega)]
theorem cS_add{h h':Nat→Bool}{w:Nat→Nat}{c:Nat}(hc:h c=false)(hh: ∀j,h' j=(h j||decide (j=c))): ∀n,c<n→cS h' w n+w c=cS h w n
 |0,hn=>by omega
 |n+1,hn=>by
  rw[cS,cS]
  by_cases e:c=n
  ·subst e
   have e:=cS_same (h:=h) (h':=h') (w:=w) c (fun j hj=>by
    rw[hh]
    have:j≠c:=by omega
    simp[this])
   rw[e,hh];simp[hc]
  ·have:=cS_add hc hh (w:=w) n (by omega)
   have hn2:h' n=h n:=by
    rw[hh]
    have:n≠c:=by omega
    simp[this]
   rw[hn2];omega
section post
variable {f:Fnc} (hn:fOk f) {fuel:Nat} {g:zo} (h2: ∀j:Nat,j<f.blocks.length→g.succ[j]?=some (TT f j))
def PT(f:Fnc)(a b:Nat):Prop:=Path (EE f) (okk (-1)) a b
theorem okk_all(a:Nat):okk (-1) a:=by unfold okk;omega
theorem PT.refl(f:Fnc)(a:Nat):PT f a a:= .one (okk_all _)
theorem PT.snoc'{a b c:Nat}(h:PT f a b)(e:EE f b c):PT f a c:=Path.snoc h e (okk_all _)
def emb(p:Nat×Nat):A2 Int:=⟨(p.1:Int),(p.2:Int)⟩
def embN(l:List Nat):List Int:=l.map fun(k:Nat)=>(k:Int)
structure PInv (f:Fnc) (w:List Nat) (st:List (Nat×Nat)) (s:zG):Prop where
 V:bV s f.blocks.length
 lt: ∀p∈st,p.1<f.blocks.length∧p.2≤(TT f p.1).length
 wlt: ∀v∈w,v<f.blocks.length
 nd:(w++st.map (·.1)).Nodup
 seen: ∀j,j<f.blocks.length→(bH s j=true↔j∈w∨j∈st.map (·.1))
 cnt: ∀p∈st,∀z,z<p.2→ ∀c:Nat,(TT f p.1)[z]?=some (c:Int)→bH s c=true
 edge: ∀(i:Nat) p q,st[i]?=some p→st[i+1]?=some q→EE f p.1 q.1
 bot:(∃p,st[0]?=some p∧p.1=0)∨(st=[]∧w.getLast?=some 0)
 par: ∀v∈w,v=0∨ ∃p,EE f p v∧(p∈st.map (·.1)∨Bef w v p)
 ed: ∀v∈w,∀c,EE f v c→Bef w c v∨PT f c v
 cl: ∀v∈w,∀c,EE f v c→bH s c=true
 rch: ∀j,j<f.blocks.length→bH s j=true→PT f 0 j
theorem PInv.path{w:List Nat}{st:List (Nat×Nat)}{s:zG}(h:PInv f w st s): ∀(d i:Nat) p q,st[i]?=some p→st[i+d]?=some q→PT f p.1 q.1
 |0,i,p,q,hp,hq=>by
  rw[Nat.add_zero,hp] at hq;cases hq;exact PT.refl _ _
 |d+1,i,p,q,hp,hq=>by
  have hl:i+d<st.length:=by have:=(List.getElem?_eq_some_iff.1 hq).1;omega
  have hr:st[i+d]?=some st[i+d]:=by simp[hl]
  exact(h.path d i p _ hp hr).snoc' (h.edge (i+d) _ q hr hq)
def pm(f:Fnc)(s:List Int×List (A2 Int)×zG):Nat:=cS (bH s.2.2) (fun j=>(TT f j).length+2) f.blocks.length+(s.2.1.map fun p=>(TT f p.a0.toNat).length-p.a1.toNat+1).sum
theorem zzL{α:Type}(l:List α)(x:α)(m:α→Nat):((l++[x]).map m).sum=(l.map m).sum+m x:=by simp
include hn h2 in
theorem post_step{w:List Nat}{st:List (Nat×Nat)}{s:zG}(hI:PInv f w st s):
  (∃w' st' s',pz2c fuel g (embN w) (st.map emb) s=some (.n (embN w',st'.map emb,s'))∧PInv f w' st' s'∧pm f (embN w',st'.map emb,s')<pm f (embN w,st.map emb,s))∨
   (st=[]∧pz2c fuel g (embN w) (st.map emb) s=some (.b (embN w,[],s))):=by
 have hn1:=hn.1
 have hsl:st.length≤f.blocks.length:=by
  have:=kY f.blocks.length (st.map (·.1)) (List.nodup_append.1 hI.nd).2.1 (fun x hx=>by obtain⟨p,hp,rfl⟩:=List.mem_map.1 hx;exact(hI.lt p hp).1)
  simpa using this
 have hwl:w.length≤f.blocks.length:=kY _ w (List.nodup_append.1 hI.nd).1 hI.wlt
 rcases List.eq_nil_or_concat st with rfl|⟨rho,⟨v,k⟩,rfl⟩
 ·right
  refine⟨rfl,?_⟩
  unfold pz2c
  simp
 ·left
  rw[List.concat_eq_append] at hI hsl ⊢
  obtain⟨hv,hk⟩:=hI.lt (v,k) (by simp)
  simp only at hv hk
  have hrl:(rho.map emb).length≤4294967:=by simp at hsl ⊢;omega
  have hmap:(rho++[(v,k)]).map emb=rho.map emb++[(⟨(v:Int),(k:Int)⟩:A2 Int)]:=by simp[emb]
  rw[hmap]
  unfold pz2c
  have hp:(0:Int)<((rho.map emb++[(⟨(v:Int),(k:Int)⟩:A2 Int)]).length:Int):=by simp
  have hT:=zp (h2 v hv)
  simp only[hp,decide_true,if_true,top_wrap _ _ hrl,top_idx,Option.bind_some,hT]
  by_cases hke:k=(TT f v).length
  ·-- it is left
   subst hke
   have ha:app (embN w) [(v:Int)]=some (embN (w++[v])):=by rw[yf (by simp[embN];omega)];simp[embN]
   simp only[decide_true,if_true,top_cut,Option.bind_some,ha]
   have hvw:v∉w:=by
    intro h
    exact(List.nodup_append.1 hI.nd).2.2 v h v (by simp) rfl
   have hnd:((w++[v])++rho.map (·.1)).Nodup:=by
    have h1:=hI.nd
    rw[List.map_append] at h1
    refine(List.Perm.nodup_iff ?_).1 h1
    rw[List.append_assoc]
    exact List.Perm.append_left w List.perm_append_comm
   have hseen: ∀j,j<f.blocks.length→(bH s j=true↔j∈w++[v]∨j∈rho.map (·.1)):=by
    intro j hj
    rw[hI.seen j hj]
    simp only[List.map_append,List.mem_append,List.map_cons,List.map_nil,List.mem_singleton]
    constructor
    ·rintro(h|h|h)
     ·exact .inl (.inl h)
     ·exact .inr h
     ·exact .inl (.inr h)
    ·rintro((h|h)|h)
     ·exact .inl h
     ·exact .inr (.inr h)
     ·exact .inr (.inl h)
   have hcv: ∀c,EE f v c→bH s c=true:=by
    intro c hc
    obtain⟨z,hz⟩:=List.getElem?_of_mem hc
    exact hI.cnt (v,_) (by simp) z (List.getElem?_eq_some_iff.1 hz).1 c hz
   refine⟨w++[v],rho,s,rfl,⟨hI.V,fun p hp=>hI.lt p (by simp[hp]),?_,hnd,hseen,fun p hp=>hI.cnt p (by simp[hp]),?_,?_,?_,?_,?_,hI.rch⟩,?_⟩
   ·intro x hx
    rcases List.mem_append.1 hx with hx|hx
    ·exact hI.wlt x hx
    ·rw[List.mem_singleton.1 hx];exact hv
   ·intro i p q hp hq
    have hp1:=(List.getElem?_eq_some_iff.1 hp).1
    have hq1:=(List.getElem?_eq_some_iff.1 hq).1
    exact hI.edge i p q (by rw[List.getElem?_append_left hp1];exact hp) (by rw[List.getElem?_append_left hq1];exact hq)
   ·rcases List.eq_nil_or_concat rho with rfl|⟨rho',p',rfl⟩
    ·right
     refine⟨rfl,?_⟩
     rcases hI.bot with ⟨p,h1,h2⟩|⟨h1,_⟩
     ·simp at h1
      subst h1
      simp at h2
      subst h2
      simp
     ·simp at h1
    ·left
     rcases hI.bot with ⟨p,h1,h2⟩|⟨h1,_⟩
     ·refine⟨p,?_,h2⟩
      rw[List.getElem?_append_left (by simp)] at h1
      exact h1
     ·simp at h1
   ·intro x hx
    rcases List.mem_append.1 hx with hx|hx
    ·rcases hI.par x hx with h|⟨p,hE,h⟩
     ·exact .inl h
     ·refine .inr ⟨p,hE,?_⟩
      rcases h with h|h
      ·simp only[List.map_append,List.mem_append,List.map_cons,List.map_nil,List.mem_singleton] at h
       rcases h with h|h
       ·exact .inl h
       ·rw[h];exact .inr (Bef.last hx)
      ·exact .inr h.snoc
    ·rw[List.mem_singleton.1 hx]
     rcases List.eq_nil_or_concat rho with rfl|⟨rho',p',e9⟩
     ·left
      rcases hI.bot with ⟨p,h1,h2⟩|⟨h1,_⟩
      ·simp at h1
       subst h1
       exact h2
      ·simp at h1
     ·right
      rw[List.concat_eq_append] at e9
      subst e9
      refine⟨p'.1,hI.edge rho'.length p' (v,(TT f v).length) (by simp) (by simp),.inl (by simp)⟩
   ·intro x hx c hc
    rcases List.mem_append.1 hx with hx|hx
    ·exact(hI.ed x hx c hc).imp (fun h=>h.snoc) id
    ·rw[List.mem_singleton.1 hx] at hc ⊢
     rcases (hI.seen c (TT_lt hn hc)).1 (hcv c hc) with h|h
     ·exact .inl (Bef.last h)
     ·right
      obtain⟨q,hq,rfl⟩:=List.mem_map.1 h
      obtain⟨i,hi⟩:=List.getElem?_of_mem hq
      have hil:=(List.getElem?_eq_some_iff.1 hi).1
      have hl2:i+(rho.length-i)=rho.length:=by simp at hil;omega
      exact hI.path (rho.length-i) i q (v,(TT f v).length) hi (by rw[hl2];simp)
   ·intro x hx c hc
    rcases List.mem_append.1 hx with hx|hx
    ·exact hI.cl x hx c hc
    ·rw[List.mem_singleton.1 hx] at hc
     exact hcv c hc
   ·show cS _ _ _+((rho.map emb).map _).sum<cS _ _ _+((rho.map emb++[_]).map _).sum
    rw[zzL]
    simp
  ·have hkl:k<(TT f v).length:=by omega
   obtain⟨r,hr⟩:=getAt hkl
   obtain⟨hr0,hr1⟩:=TT_in hn (List.mem_of_getElem? hr)
   obtain⟨c,rfl⟩:=Int.eq_ofNat_of_zero_le hr0
   have hc:c<f.blocks.length:=by omega
   have hE:EE f v c:=List.mem_of_getElem? hr
   have hne: ¬((k:Int)=((TT f v).length:Int)):=by omega
   have hlen:=TT_len hn v
   simp only[hne,decide_false,Bool.false_eq_true,if_false,top_set,zp hr,Option.bind_some,wrap1 (show k≤4294967296 by omega)]
   unfold pz2b
   have hmp:(rho++[(v,k)]).map (·.1)=(rho++[(v,k+1)]).map (·.1):=by simp
   have emb1:rho.map emb++[(⟨(v:Int),((k+1:Nat):Int)⟩:A2 Int)]=(rho++[(v,k+1)]).map emb:=by simp[emb]
   rcases yzI hI.V (by omega) fuel (c:Int) with ⟨k1,k2⟩|⟨c',s',e,hc',hb,k1,k3,k4⟩
   ·have hbc:=k2 c rfl hc
    simp only[k1,Option.bind_some,Bool.false_eq_true,if_false]
    refine⟨w,rho++[(v,k+1)],s,by rw[←emb1],⟨hI.V,?_,hI.wlt,by rw[←hmp];exact hI.nd,fun j hj=>by rw[←hmp];exact hI.seen j hj,?_,?_,?_,?_,hI.ed,hI.cl,hI.rch⟩,?_⟩
    ·intro p hp
     rcases List.mem_append.1 hp with hp|hp
     ·exact hI.lt p (by simp[hp])
     ·rw[List.mem_singleton.1 hp];exact⟨hv,by simp;omega⟩
    ·intro p hp z hz c' hc'
     rcases List.mem_append.1 hp with hp|hp
     ·exact hI.cnt p (by simp[hp]) z hz c' hc'
     ·rw[List.mem_singleton.1 hp] at hz hc'
      simp only at hz hc'
      by_cases e:z=k
      ·subst e;rw[hr] at hc';have:=Option.some.inj hc'
       have:c=c':=by omega
       subst this;exact hbc
      ·exact hI.cnt (v,k) (by simp) z (by simp only;omega) c' hc'
    ·intro i p q hp hq
     have hq1:=(List.getElem?_eq_some_iff.1 hq).1
     have key: ∀(j:Nat) (x:Nat×Nat),(rho++[(v,k+1)])[j]?=some x→ ∃y,(rho++[(v,k)])[j]?=some y∧y.1=x.1:=by
      intro j x hx
      by_cases hj:j<rho.length
      ·rw[List.getElem?_append_left hj] at hx;exact⟨x,by rw[List.getElem?_append_left hj];exact hx,rfl⟩
      ·have hj2:=(List.getElem?_eq_some_iff.1 hx).1
       have:j=rho.length:=by simp at hj2;omega
       subst this
       simp at hx;subst hx
       exact⟨(v,k),by simp,rfl⟩
     obtain⟨p',h1,e1⟩:=key i p hp
     obtain⟨q',h2,e2⟩:=key (i+1) q hq
     rw[←e1,←e2];exact hI.edge i p' q' h1 h2
    ·rcases hI.bot with ⟨p,h1,h2⟩|⟨h1,_⟩
     ·left
      by_cases hr0:rho=[]
      ·subst hr0;simp at h1;subst h1;exact⟨(v,k+1),by simp,h2⟩
      ·have hpos:0<rho.length:=List.length_pos_iff.2 hr0
       rw[List.getElem?_append_left hpos] at h1
       exact⟨p,by rw[List.getElem?_append_left hpos];exact h1,h2⟩
     ·simp at h1
    ·intro x hx
     rw[←hmp];exact hI.par x hx
    ·show cS _ _ _+(((rho++[(v,k+1)]).map emb).map _).sum<cS _ _ _+((rho.map emb++[_]).map _).sum
     rw[←emb1,zzL,zzL]
     simp
     omega
   ·have:c'=c:=by omega
    subst this
    have happ:app (rho.map emb++[(⟨(v:Int),((k+1:Nat):Int)⟩:A2 Int)]) [(⟨(c':Int),0⟩:A2 Int)]=some ((rho++[(v,k+1)]++[(c',0)]).map emb):=by
     rw[yf (by simp;simp at hrl;omega)];simp[emb]
    simp only[k1,Option.bind_some,if_true,happ]
    have hup: ∀j,bH s j=true→bH s' j=true:=fun j h=>by rw[k4 j,h];rfl
    have hcs:bH s' c'=true:=by rw[k4];simp
    have hcn:c'∉w∧c'∉(rho++[(v,k+1)]).map (·.1):=by
     have:=hI.seen c' hc
     rw[hb] at this
     constructor
     ·intro h;exact absurd (this.2 (.inl h)) (by simp)
     ·intro h;rw[←hmp] at h;exact absurd (this.2 (.inr h)) (by simp)
    refine⟨w,rho++[(v,k+1)]++[(c',0)],s',rfl,⟨k3,?_,hI.wlt,?_,?_,?_,?_,?_,?_,hI.ed,fun x hx c hc=>hup c (hI.cl x hx c hc),?_⟩,?_⟩
    ·intro p hp
     rcases List.mem_append.1 hp with hp|hp
     ·rcases List.mem_append.1 hp with hp|hp
      ·exact hI.lt p (by simp[hp])
      ·rw[List.mem_singleton.1 hp];exact⟨hv,by simp;omega⟩
     ·rw[List.mem_singleton.1 hp];exact⟨hc,by simp⟩
    ·rw[List.map_append,←hmp,←List.append_assoc]
     refine List.nodup_append.2 ⟨hI.nd,by simp,?_⟩
     intro a ha b hb2 e9
     rw[List.mem_singleton.1 hb2] at e9
     subst e9
     rcases List.mem_append.1 ha with h|h
     ·exact hcn.1 h
     ·exact hcn.2 (by rw[←hmp];exact h)
    ·intro j hj
     have key:(rho++[(v,k+1)]++[(c',0)]).map (fun p:Nat×Nat=>p.1)=(rho++[(v,k)]).map (fun p:Nat×Nat=>p.1)++[c']:=by simp
     rw[k4 j,Bool.or_eq_true,hI.seen j hj,key]
     simp only[List.mem_append,List.map_cons,List.map_nil,List.mem_singleton,decide_eq_true_eq]
     constructor
     ·rintro((h|h)|h)
      ·exact .inl h
      ·exact .inr (.inl h)
      ·exact .inr (.inr h)
     ·rintro(h|h|h)
      ·exact .inl (.inl h)
      ·exact .inl (.inr h)
      ·exact .inr h
    ·intro p hp z hz c2 hc2
     rcases List.mem_append.1 hp with hp|hp
     ·rcases List.mem_append.1 hp with hp|hp
      ·exact hup _ (hI.cnt p (by simp[hp]) z hz c2 hc2)
      ·rw[List.mem_singleton.1 hp] at hz hc2
       simp only at hz hc2
       by_cases e:z=k
       ·subst e;rw[hr] at hc2;have:=Option.some.inj hc2
        have:c'=c2:=by omega
        subst this;exact hcs
       ·exact hup _ (hI.cnt (v,k) (by simp) z (by simp only;omega) c2 hc2)
     ·rw[List.mem_singleton.1 hp] at hz;simp at hz
    ·intro i p q hp hq
     have key: ∀(j:Nat) (x:Nat×Nat),j<rho.length+1→(rho++[(v,k+1)]++[(c',0)])[j]?=some x→ ∃y,(rho++[(v,k)])[j]?=some y∧y.1=x.1:=by
      intro j x hj hx
      rw[List.getElem?_append_left (by simp;omega)] at hx
      by_cases hj:j<rho.length
      ·rw[List.getElem?_append_left hj] at hx;exact⟨x,by rw[List.getElem?_append_left hj];exact hx,rfl⟩
      ·have:j=rho.length:=by omega
       subst this
       simp at hx;subst hx
       exact⟨(v,k),by simp,rfl⟩
     have hq1:=(List.getElem?_eq_some_iff.1 hq).1
     by_cases hil:i+1<rho.length+1
     ·obtain⟨p',h1,e1⟩:=key i p (by omega) hp
      obtain⟨q',h2,e2⟩:=key (i+1) q hil hq
      rw[←e1,←e2];exact hI.edge i p' q' h1 h2
     ·have:i=rho.length:=by simp at hq1;omega
      subst this
      have e1:p=(v,k+1):=by simpa using hp.symm
      have e2:q=(c',0):=by
       rw[List.getElem?_append_right (by simp)] at hq
       simpa using hq.symm
      subst e1;subst e2
      exact hE
    ·rcases hI.bot with ⟨p,h1,h2⟩|⟨h1,_⟩
     ·left
      by_cases hr0:rho=[]
      ·subst hr0;simp at h1;subst h1;exact⟨(v,k+1),by simp,h2⟩
      ·have hpos:0<rho.length:=List.length_pos_iff.2 hr0
       rw[List.getElem?_append_left hpos] at h1
       exact⟨p,by rw[List.append_assoc,List.getElem?_append_left hpos];exact h1,h2⟩
     ·simp at h1
    ·intro x hx
     rcases hI.par x hx with h|⟨p,hE',h⟩
     ·exact .inl h
     ·refine .inr ⟨p,hE',h.imp (fun h=>?_) id⟩
      rw[List.map_append,←hmp]
      exact List.mem_append_left _ h
    ·intro j hj hbj
     rw[k4 j,Bool.or_eq_true] at hbj
     rcases hbj with h|h
     ·exact hI.rch j hj h
     ·have:j=c':=by simpa using h
      subst this
      refine(hI.rch v hv ?_).snoc' hE
      exact(hI.seen v hv).2 (.inr (by simp))
    ·have hcs2:=cS_add (w:=fun j=>(TT f j).length+2) hb k4 f.blocks.length hc
     show cS _ _ _+(((rho++[(v,k+1)]++[(c',0)]).map emb).map _).sum<cS _ _ _+((rho.map emb++[_]).map _).sum
     have e3:(rho++[(v,k+1)]++[(c',0)]).map emb=(rho.map emb++[(⟨(v:Int),((k+1:Nat):Int)⟩:A2 Int)])++[(⟨(c':Int),0⟩:A2 Int)]:=by simp[emb]
     rw[e3,zzL,zzL,zzL]
     simp at hcs2 ⊢
     omega
structure Post (f:Fnc) (w:List Nat):Prop where
 nd:w.Nodup
 mem: ∀j,j∈w↔PT f 0 j
 last:w.getLast?=some 0
 par: ∀v∈w,v=0∨ ∃p,EE f p v∧Bef w v p
 ed: ∀v∈w,∀c,EE f v c→Bef w c v∨PT f c v
include hn h2 in
theorem post_ok(hg:g.succ.length=f.blocks.length)(hf:17592186044416<fuel)(h0:0<f.blocks.length): ∃w,pz2d fuel g=some (embN w)∧Post f w:=by
 have hn1:=hn.1
 obtain⟨s0,e0,hV0,hB0⟩:=new_ok (n:=f.blocks.length) (by omega) fuel
 rcases yzI hV0 (by omega) fuel 0 with ⟨_,k2⟩|⟨k,s1,k1,_,k3,k4,k5,k6⟩
 ·have:=k2 0 rfl h0
  rw[hB0] at this;cases this
 ·have:k=0:=by omega
  subst this
  have hI0:PInv f [] [(0,0)] s1:=by
   refine⟨k5,?_,by simp,by simp,?_,?_,?_,.inl ⟨(0,0),rfl,rfl⟩,by simp,by simp,by simp,?_⟩
   ·intro p hp;rw[List.mem_singleton.1 hp];exact⟨h0,by simp⟩
   ·intro j hj;rw[k6 j,hB0 j];simp
   ·intro p hp z hz;rw[List.mem_singleton.1 hp] at hz;simp at hz
   ·intro i p q hp hq
    have:=(List.getElem?_eq_some_iff.1 hq).1
    simp at this
   ·intro j hj h
    rw[k6 j,hB0 j] at h
    have:j=0:=by simpa using h
    subst this;exact PT.refl _ _
  unfold pz2d pz26 pz2b
  have ha:app [] [(⟨0,0⟩:A2 Int)]=some ([(0,0)].map emb):=by rw[yf (by simp)];rfl
  simp only[hg,Option.bind_some,e0,k4,if_true,ha]
  refine Or.elim (yO (fun q:List Int×List (A2 Int)×zG=> ∃w st,q.1=embN w∧q.2.1=st.map emb∧PInv f w st q.2.2) (fun q=> ∃w s,q=(embN w,[],s)∧PInv f w [] s) (fun _:List Int=>False) (pm f)
   (fun s=>pz2c fuel g s.1 s.2.1 s.2.2) ?_ fuel ([],[(0,0)].map emb,s1) ⟨[],[(0,0)],rfl,rfl,hI0⟩ ?_) ?_ ?_
  rotate_right
  ·rintro⟨v,_,h⟩;exact h.elim
  ·rintro⟨w,st,s⟩ ⟨w',st',rfl,rfl,hI⟩
   rcases post_step hn h2 (fuel:=fuel) hI with ⟨w1,st1,s1,h1,h3,h4⟩|⟨rfl,h1⟩
   ·exact .inl ⟨_,h1,⟨w1,st1,rfl,rfl,h3⟩,h4⟩
   ·exact .inr (.inl ⟨_,h1,w',s,rfl,hI⟩)
  ·have hw: ∀j,(TT f j).length+2≤1048578:=fun j=>by have:=TT_len hn j;omega
   have h3:=cS_le (h:=bH s1) hw f.blocks.length
   have h4:=TT_len hn 0
   show cS _ _ _+_<fuel
   simp[emb]
   have:f.blocks.length*1048578≤1048576*1048578:=Nat.mul_le_mul_right _ hn1
   omega
  ·rintro⟨q,h1,w,s,rfl,hI⟩
   rw[h1]
   refine⟨w,rfl,by simpa using hI.nd,?_,?_,?_,hI.ed⟩
   ·intro j
    constructor
    ·intro h
     exact hI.rch j (hI.wlt j h) ((hI.seen j (hI.wlt j h)).2 (.inl h))
    ·intro h
     refine Path.closed (C:=fun j=>j∈w) ?_ h ?_
     ·intro a b ha hE _
      have hbl:=TT_lt hn hE
      have:=(hI.seen b hbl).1 (hI.cl a ha b hE)
      simpa using this
     ·rcases hI.bot with ⟨p,h1,_⟩|⟨_,h1⟩
      ·simp at h1
      ·exact List.mem_of_getLast? h1
   ·rcases hI.bot with ⟨p,h1,_⟩|⟨_,h1⟩
    ·simp at h1
    ·exact h1
   ·intro v hv
    rcases hI.par v hv with h|⟨p,hE,h⟩
    ·exact .inl h
    ·refine .inr ⟨p,hE,?_⟩
     simpa using h
include hn h2 in
theorem order_ok(hg:g.succ.length=f.blocks.length)(hf:17592186044416<fuel)(h0:0<f.blocks.length): ∃w,pz2g fuel g=some (embN w.reverse)∧Post f w∧w.length≤f.blocks.length:=by
 have hn1:=hn.1
 obtain⟨w,h1,h3⟩:=post_ok hn h2 hg hf h0
 have hwl:w.length≤f.blocks.length:=kY _ w h3.nd fun x hx=>by
  have:=(h3.mem x).1 hx
  cases this with
  |one _=>exact h0
  |step a b c=>
   have h5: ∀{a b:Nat},PT f a b→a<f.blocks.length→b<f.blocks.length:=by
    intro a b h ha
    exact Path.closed (C:=fun j=>j<f.blocks.length) (fun a b _ hE _=>TT_lt hn hE) h ha
   exact h5 (a:=0) (.step a b c) h0
 refine⟨w,?_,h3,hwl⟩
 unfold pz2g pz26
 have c0: ¬((f.blocks.length:Int)=0):=by omega
 have hr:=reverse_ok (l:=embN w) (by simp[embN];omega) (fuel:=fuel) (by omega)
 simp only[hg,Option.bind_some,c0,decide_false,Bool.false_eq_true,if_false,h1,hr]
 simp[embN]
include hn in
theorem gsucc_ok(hg:g.succ.length=f.blocks.length)(h2: ∀j:Nat,j<f.blocks.length→g.succ[j]?=some (TT f j)){x:Nat}(hx:x<f.blocks.length):pz33 fuel g x=some (TT f x):=by
 have hn1:=hn.1
 have hl:=TT_len hn x
 have ha:app [] (TT f x)=some (TT f x):=by rw[yf (by simp;omega)];rfl
 have c1: ¬((x:Int)<0):=by omega
 have c2: ¬((f.blocks.length:Int)≤(x:Int)):=by omega
 simp[pz33,pz32,pz26,pz31,ix2,A2.at,zp (h2 x hx),ha,hg,c1,c2]
end post
end Go.Proofs.YtmogcnnhbmaffaaGreat.PL
set_option linter.unusedVariables false
namespace Go.Proofs.YtmogcnnhbmaffaaGreat.PL
open Go
def fsc{ρ:Type}(n:Nat)(g:Nat→Option ρ):Option ρ:=(List.range n).findSome? g
def exS{σ ρ:Type}(s:σ):Option ρ→Ex σ ρ
 |some v=> .r v
 |none=> .n s
theorem fsc_none{ρ:Type}{n:Nat}{g:Nat→Option ρ}:fsc n g=none↔ ∀i,i<n→g i=none:=by
 simp[fsc,List.findSome?_eq_none_iff]
theorem range'_cons(i m:Nat):List.range' i (m+1)=i::List.range' (i+1) m:=by simp[List.range']
theorem loopE_fs'{ρ:Type}{F:Int→Option (Ex Int ρ)}{n:Nat}{g:Nat→Option ρ}(hs: ∀k,k<n→F (k:Int)=some (exS ((k+1:Nat):Int) (g k)))(he:F n=some (.b (n:Int))):
  ∀(m k fuel:Nat),k+m=n→m<fuel→loopE fuel F (k:Int)=some (exS (n:Int) ((List.range' k m).findSome? g)):=by
 intro m
 induction m with
 |zero=>
  intro k fuel h hf
  obtain⟨q,rfl⟩:=Nat.exists_eq_succ_of_ne_zero (show fuel≠0 by omega)
  have:k=n:=by omega
  subst this
  rw[loopE,he];rfl
 |succ m ih=>
  intro k fuel h hf
  obtain⟨q,rfl⟩:=Nat.exists_eq_succ_of_ne_zero (show fuel≠0 by omega)
  rw[loopE,hs k (by omega),range'_cons,List.findSome?_cons]
  cases e:g k with
  |some v=>rfl
  |none=>exact ih (k+1) q (by omega) (by omega)
theorem yk{ρ:Type}{F:Int→Option (Ex Int ρ)}{n:Nat}(g:Nat→Option ρ){fuel:Nat}(hf:n<fuel)(hs: ∀k,k<n→F (k:Int)=some (exS ((k+1:Nat):Int) (g k)))(he:F n=some (.b (n:Int))):loopE fuel F 0=some (exS (n:Int) (fsc n g)):=by
 have:=loopE_fs' hs he n 0 fuel (by omega) hf
 rw[←List.range_eq_range'] at this
 exact this
theorem yr{ρ:Type}{n:Nat}{g:Nat→Option ρ}{v:ρ}(h:fsc n g=some v): ∃i,i<n∧g i=some v:=by
 obtain⟨a,h1,h2⟩:=List.exists_of_findSome?_eq_some h
 exact⟨a,by simpa using h1,h2⟩
theorem fsc_at{ρ:Type}{n i:Nat}{g:Nat→Option ρ}{v:ρ}(hi:i<n)(h:g i=some v)(k: ∀j,j<i→g j=none):fsc n g=some v:=by
 unfold fsc
 rw[show n=i+(1+(n-i-1)) by omega,List.range_add,List.findSome?_append,List.range_add,List.map_append,List.findSome?_append]
 have:(List.range i).findSome? g=none:=by rw[List.findSome?_eq_none_iff];intro x hx;exact k x (by simpa using hx)
 rw[this]
 simp[h]
end Go.Proofs.YtmogcnnhbmaffaaGreat.PL
set_option linter.unusedVariables false
set_option linter.unusedSimpArgs false
namespace Go.Proofs.YtmogcnnhbmaffaaGreat.PL
open Go
def u8(z:Int):Prop:=0≤z∧z<256
def rI(x:DIns):Prop:=u8 x.op∧u8 x.d∧u8 x.a∧u8 x.b
def rB(x:DBl):Prop:=(∀y∈x.code,rI y)∧u8 x.term∧u8 x.a∧u8 x.b∧u8 x.v
def rD(x:Drf):Prop:=u8 x.g∧u8 x.x∧u8 x.params∧ ∀y∈x.blocks,rB y
theorem wrap_u8(z:Int):u8 (IntKind.wrap .u8 z):=by
 unfold u8
 simp[IntKind.wrap,IntKind.bits,IntKind.signed,IntKind.min,IntKind.max]
 omega
theorem zzZ{a b:Int}(ha:0≤a)(hb:0<b):0≤Int.tmod a b∧Int.tmod a b<b:=by
 rw[Int.tmod_eq_emod_of_nonneg ha]
 exact⟨Int.emod_nonneg _ (by omega),Int.emod_lt_of_pos _ hb⟩
theorem wrap8{z:Int}(h:u8 z):IntKind.wrap .i64 z=z:=zz (by have:=h.1;omega) (by have:=h.2;omega)
structure Mk (m:zH) (L:Nat):Prop where
 a0:1≤m.ids.a0.length∧m.ids.a0.length≤6
 a1:1≤m.ids.a1.length∧m.ids.a1.length≤3
 has:m.has.length≤L
theorem Mk.at{m:zH}{L:Nat}(h:Mk m L)(c:Bool):1≤(m.ids.at c).length∧(m.ids.at c).length≤6:=by
 cases c
 ·exact h.a0
 ·have:=h.a1;exact⟨this.1,by show m.ids.a1.length≤6;omega⟩
theorem Mk.mono{m:zH}{L L':Nat}(h:Mk m L)(k:L≤L'):Mk m L':=⟨h.a0,h.a1,by have:=h.has;omega⟩
theorem pick_idx{l:List Int}(h:1≤l.length)(h6:l.length≤6){k:Int}(hk:u8 k): ∃x1 x2,rem (IntKind.wrap .i64 k) (l.length:Int)=some x1∧idx l x1=some x2∧x2∈l:=by
 obtain⟨r0,r1⟩:=zzZ hk.1 (show(0:Int)<(l.length:Int) by omega)
 obtain⟨n,hn⟩:=Int.eq_ofNat_of_zero_le r0
 obtain⟨y,hy⟩:=getAt (xs:=l) (i:=n) (by omega)
 refine⟨Int.tmod k (l.length:Int),y,?_,?_,List.mem_of_getElem? hy⟩
 ·unfold rem
  rw[if_neg (by omega),wrap8 hk]
 ·rw[hn];exact zp hy
theorem mgive_ok{m:zH}{L:Nat}(h:Mk m L)(hL:L≤4000000)(fuel:Nat)(c:Bool){k:Int}(hk:u8 k): ∃v m',v∈m.ids.at c∧pz4b fuel m (if c=true then 1 else 0) k=some (⟨1,0,v,0⟩,m')∧Mk m' (L+1)∧m'.f=m.f∧m'.ids=m.ids∧(∀x,x∈m'.has↔x∈m.has∨x=v):=by
 obtain⟨b1,b2⟩:=h.at c
 obtain⟨x1,x2,e1,e2,e3⟩:=pick_idx b1 b2 hk
 have hc:ix2 (if c=true then 1 else 0)=some c:=by cases c<;>rfl
 have hin:=in_ref (l:=m.has) (by have:=h.has;omega) fuel x2
 have hh:=h.has
 unfold pz4b pz46
 simp only[hc,Option.bind_some,e1,e2,hin]
 by_cases hm:x2∈m.has
 ·refine⟨x2,⟨m.f,m.ids,m.has⟩,e3,by simp[hm],⟨h.a0,h.a1,by show m.has.length≤L+1;omega⟩,rfl,rfl,fun x=>⟨.inl,fun q=>q.elim id fun e=>e▸hm⟩⟩
 ·have ha:app m.has [x2]=some (m.has++[x2]):=yf (by simp;omega)
  refine⟨x2,⟨m.f,m.ids,m.has++[x2]⟩,e3,by simp[hm,ha],⟨h.a0,h.a1,by simp;omega⟩,rfl,rfl,fun x=>by simp⟩
def lab(i:Nat):ByteArray:=match i with
 |0=>⟨#[101,110,116,114,121]⟩
 |1=>⟨#[98,49]⟩|2=>⟨#[98,50]⟩|3=>⟨#[98,51]⟩|4=>⟨#[98,52]⟩|5=>⟨#[98,53]⟩|6=>⟨#[98,54]⟩|7=>⟨#[98,55]⟩|8=>⟨#[98,56]⟩
 |_=>⟨#[98,57]⟩
theorem lab_inj: ∀i,i<10→ ∀j,j<10→lab i=lab j→i=j:=by decide+kernel
theorem label_all: ∀i,i<10→ ∀fuel,pz49 fuel (i:Nat)=some (lab i):=by
 intro i hi fuel
 have:i=0∨i=1∨i=2∨i=3∨i=4∨i=5∨i=6∨i=7∨i=8∨i=9:=by omega
 rcases this with rfl|rfl|rfl|rfl|rfl|rfl|rfl|rfl|rfl|rfl<;>rfl
theorem goal_ok(fuel:Nat){k:Int}(hk:u8 k){n:Nat}(hn:2≤n)(hn9:n≤9): ∃j,1≤j∧j<n∧pz4a fuel k (n:Int)=some (lab j):=by
 obtain⟨r0,r1⟩:=zzZ hk.1 (show(0:Int)<(n:Int)-1 by omega)
 obtain⟨q,hq⟩:=Int.eq_ofNat_of_zero_le r0
 refine⟨1+q,by omega,by omega,?_⟩
 unfold pz4a rem
 rw[wrap8 hk,zz (x:=(n:Int)-1) (by omega) (by omega),if_neg (by omega)]
 simp only[Option.bind_some,hq]
 rw[zz (by omega) (by omega),show(1:Int)+(q:Int)=((1+q:Nat):Int) by omega,label_all (1+q) (by omega)]
 rfl
structure LOk (n i:Nat) (x:Ins):Prop where
 op:20≤x.op∧x.op≤23
 len:x.labels.length≤3
 to: ∀l∈x.labels,∃j,1≤j∧j<n∧l=lab j
 next:i+1<n→lab (i+1)∈x.labels
end Go.Proofs.YtmogcnnhbmaffaaGreat.PL
set_option linter.unusedVariables false
set_option linter.unusedSimpArgs false
namespace Go.Proofs.YtmogcnnhbmaffaaGreat.PL
open Go
def cntG(d:Drf):Nat:=1+d.g.toNat%6
def cntX(d:Drf):Nat:=1+d.x.toNat%3
def idsG(n:Nat):List Int:=(List.range n).map fun(i:Nat)=>2*(i:Int)
def idsX(n:Nat):List Int:=(List.range n).map fun(i:Nat)=>2*(i:Int)+1
theorem cnt_w{z:Int}(h:u8 z){k:Nat}(hk:0<k)(hk6:k≤6):IntKind.wrap .i64 (1+Int.tmod (IntKind.wrap .i64 z) (k:Int))=((1+z.toNat%k:Nat):Int):=by
 obtain⟨a,rfl⟩:=Int.eq_ofNat_of_zero_le h.1
 have:Int.tmod (a:Int) (k:Int)=((a%k:Nat):Int):=by rw[Int.tmod_eq_emod_of_nonneg (by omega)];omega
 have h2:a%k<k:=Nat.mod_lt _ hk
 rw[wrap8 h,this,zz (by omega) (by omega)]
 simp
theorem make_b1_0{d:Drf}(h:rD d){fuel:Nat}(hf:20<fuel):pz4g fuel d 0 [] []=some (idsG (cntG d),[]):=by
 have hg:=cnt_w h.1 (k:=6) (by decide) (by decide)
 have hg6:d.g.toNat%6<6:=Nat.mod_lt _ (by decide)
 unfold pz4g
 refine Or.elim (yO (fun s:List Int×List Int×Int=> ∃k:Nat,s.2.2=k∧k≤cntG d∧s.1=idsG k∧s.2.1=[]) (fun s=>s.1=idsG (cntG d)∧s.2.1=[]) (fun _:List Int×List Int=>False) (fun s=>cntG d-s.2.2.toNat)
  (fun s=>pz4f fuel d 0 s.1 s.2.1 s.2.2) ?_ fuel ([],[],0) ⟨0,rfl,by omega,rfl,rfl⟩ (by simp[cntG];omega)) ?_ ?_
 rotate_left
 ·rintro⟨⟨a,b,c⟩,h1,h2,h3⟩
  simp only at h2 h3
  subst h2;subst h3
  rw[h1];rfl
 ·rintro⟨v,_,h⟩;exact h.elim
 ·rintro⟨a,b,c⟩ ⟨k,hc,hk,ha,hb⟩
  simp only at hc ha hb
  subst hc;subst ha;subst hb
  have hl:(idsG k).length=k:=by simp[idsG]
  show(∃s',pz4f fuel d 0 (idsG k) [] (k:Int)=some (.n s')∧_)∨(∃s',pz4f fuel d 0 (idsG k) [] (k:Int)=some (.b s')∧_)∨_
  unfold pz4f
  have e0:ix2 0=some false:=rfl
  simp only[e0,Option.bind_some,A2.at,Bool.false_eq_true,if_false]
  rw[show((6:Nat):Int)=6 from rfl] at hg
  rw[hg]
  unfold cntG at hk ⊢
  by_cases c:k<1+d.g.toNat%6
  ·left
   have hw1:IntKind.wrap .i64 (2*(k:Int))=2*(k:Int):=zz (by omega) (by omega)
   have hw2:IntKind.wrap .i64 (2*(k:Int)+0)=2*(k:Int):=by rw[Int.add_zero];exact hw1
   have ha:app (idsG k) [2*(k:Int)]=some (idsG (k+1)):=by rw[yf (by simp[hl];omega)];simp[idsG,List.range_succ]
   have hlt:((k:Int)<((1+d.g.toNat%6:Nat):Int)):=by omega
   simp only[hlt,decide_true,if_true,hw1,hw2,ha,Option.bind_some,wrap1 (show k≤4294967296 by omega)]
   exact⟨_,rfl,⟨k+1,rfl,by omega,rfl,rfl⟩,by show _-((k+1:Nat):Int).toNat<_-((k:Nat):Int).toNat;omega⟩
  ·right;left
   have hlt: ¬((k:Int)<((1+d.g.toNat%6:Nat):Int)):=by omega
   simp only[hlt,decide_false,Bool.false_eq_true,if_false]
   have:k=1+d.g.toNat%6:=by omega
   subst this
   exact⟨_,rfl,rfl,rfl⟩
theorem make_b1_1{d:Drf}(h:rD d){fuel:Nat}(hf:20<fuel)(l:List Int):pz4g fuel d 1 l []=some (l,idsX (cntX d)):=by
 have hg:=cnt_w h.2.1 (k:=3) (by decide) (by decide)
 have hg6:d.x.toNat%3<3:=Nat.mod_lt _ (by decide)
 unfold pz4g
 refine Or.elim (yO (fun s:List Int×List Int×Int=> ∃k:Nat,s.2.2=k∧k≤cntX d∧s.1=l∧s.2.1=idsX k) (fun s=>s.1=l∧s.2.1=idsX (cntX d)) (fun _:List Int×List Int=>False) (fun s=>cntX d-s.2.2.toNat)
  (fun s=>pz4f fuel d 1 s.1 s.2.1 s.2.2) ?_ fuel (l,[],0) ⟨0,rfl,by omega,rfl,rfl⟩ (by simp[cntX];omega)) ?_ ?_
 rotate_left
 ·rintro⟨⟨a,b,c⟩,h1,h2,h3⟩
  simp only at h2 h3
  subst h2;subst h3
  rw[h1];rfl
 ·rintro⟨v,_,h⟩;exact h.elim
 ·rintro⟨a,b,c⟩ ⟨k,hc,hk,ha,hb⟩
  simp only at hc ha hb
  subst hc;subst ha;subst hb
  have hl:(idsX k).length=k:=by simp[idsX]
  show(∃s',pz4f fuel d 1 _ (idsX k) (k:Int)=some (.n s')∧_)∨(∃s',pz4f fuel d 1 _ (idsX k) (k:Int)=some (.b s')∧_)∨_
  unfold pz4f
  have e0:ix2 1=some true:=rfl
  simp only[e0,Option.bind_some,A2.at,if_true]
  rw[show((3:Nat):Int)=3 from rfl] at hg
  rw[hg]
  unfold cntX at hk ⊢
  by_cases c:k<1+d.x.toNat%3
  ·left
   have hw1:IntKind.wrap .i64 (2*(k:Int))=2*(k:Int):=zz (by omega) (by omega)
   have hw2:IntKind.wrap .i64 (2*(k:Int)+1)=2*(k:Int)+1:=zz (by omega) (by omega)
   have ha:app (idsX k) [2*(k:Int)+1]=some (idsX (k+1)):=by rw[yf (by simp[hl];omega)];simp[idsX,List.range_succ]
   have hlt:((k:Int)<((1+d.x.toNat%3:Nat):Int)):=by omega
   simp only[hlt,decide_true,if_true,hw1,hw2,ha,Option.bind_some,wrap1 (show k≤4294967296 by omega)]
   exact⟨_,rfl,⟨k+1,rfl,by omega,rfl,rfl⟩,by show _-((k+1:Nat):Int).toNat<_-((k:Nat):Int).toNat;omega⟩
  ·right;left
   have hlt: ¬((k:Int)<((1+d.x.toNat%3:Nat):Int)):=by omega
   simp only[hlt,decide_false,Bool.false_eq_true,if_false]
   have:k=1+d.x.toNat%3:=by omega
   subst this
   exact⟨_,rfl,rfl,rfl⟩
def rgs(d:Drf)(n:Nat):List Rg:=((List.range n).filter fun i=>decide (i/2<if i%2=0 then cntG d else cntX d)).map fun(i:Nat)=>⟨(i:Int),((i%2:Nat):Int)⟩
theorem rgs_len(d:Drf)(n:Nat):(rgs d n).length≤n:=by
 unfold rgs
 rw[List.length_map]
 exact Nat.le_trans (List.length_filter_le _ _) (by simp)
theorem make_b3{d:Drf}(h:rD d)(fuel:Nat){i:Nat}(hi:i<12):pz4h fuel d i (rgs d i)=some (rgs d (i+1)):=by
 have hg:=cnt_w h.1 (k:=6) (by decide) (by decide)
 have hx:=cnt_w h.2.1 (k:=3) (by decide) (by decide)
 rw[show((6:Nat):Int)=6 from rfl] at hg
 rw[show((3:Nat):Int)=3 from rfl] at hx
 have hl:=rgs_len d i
 have ht:Int.tmod (i:Int) 2=((i%2:Nat):Int):=by rw[Int.tmod_eq_emod_of_nonneg (by omega)];omega
 have hd:IntKind.wrap .i64 (Int.tdiv (i:Int) 2)=((i/2:Nat):Int):=by rw[Int.tdiv_eq_ediv_of_nonneg (by omega),zz (by omega) (by omega)];omega
 have hc:ix2 ((i%2:Nat):Int)=some (decide (i%2=1)):=by
  have:i%2=0∨i%2=1:=by omega
  rcases this with e|e<;>rw[e]<;>rfl
 have hnext:rgs d (i+1)=rgs d i++if i/2<(if i%2=0 then cntG d else cntX d) then [⟨(i:Int),((i%2:Nat):Int)⟩] else []:=by
  unfold rgs
  rw[List.range_succ,List.filter_append,List.map_append]
  congr 1
  by_cases c:i/2<(if i%2=0 then cntG d else cntX d)<;>simp[c]
 have hat:(⟨IntKind.wrap .i64 (1+Int.tmod (IntKind.wrap .i64 d.g) 6),IntKind.wrap .i64 (1+Int.tmod (IntKind.wrap .i64 d.x) 3)⟩:A2 Int).at (decide (i%2=1))=(((if i%2=0 then cntG d else cntX d):Nat):Int):=by
  rw[hg,hx]
  have:i%2=0∨i%2=1:=by omega
  rcases this with e|e<;>simp[e,A2.at,cntG,cntX]
 have ha:app (rgs d i) [(⟨(i:Int),((i%2:Nat):Int)⟩:Rg)]=some (rgs d i++[⟨(i:Int),((i%2:Nat):Int)⟩]):=yf (by simp;omega)
 unfold pz4h
 rw[ht,hd,hc]
 simp only[Option.bind_some,hat]
 rw[hnext]
 by_cases c:i/2<(if i%2=0 then cntG d else cntX d)
 ·have:(((i/2:Nat):Int)<(((if i%2=0 then cntG d else cntX d):Nat):Int)):=by omega
  simp only[this,decide_true,if_true,ha,Option.bind_some,c]
 ·have: ¬(((i/2:Nat):Int)<(((if i%2=0 then cntG d else cntX d):Nat):Int)):=by omega
  simp only[this,decide_false,Bool.false_eq_true,if_false,c,List.append_nil]
structure BOk (n i:Nat) (b:Bl):Prop where
 label:b.label=lab i
 len:b.code.length≤1000013
 last: ∃x,b.code[b.code.length-1]?=some x∧LOk n i x
 labels: ∀y∈b.code,y.labels.length≤3
structure MOk (n:Nat) (f:Fnc):Prop where
 len:f.blocks.length=n
 blk: ∀(i:Nat) b,f.blocks[i]?=some b→BOk n i b
end Go.Proofs.YtmogcnnhbmaffaaGreat.PL
set_option linter.unusedVariables false
set_option linter.unusedSimpArgs false
namespace Go.Proofs.YtmogcnnhbmaffaaGreat.PL
open Go
def mkM(n k:Nat):Nat:=if n<64*k+64 then 2^(n-64*k)-1 else 18446744073709551615
theorem mkM_lt(n k:Nat):mkM n k<18446744073709551616:=by
 unfold mkM
 split
 ·have h2:2^(n-64*k)<2^64:=Nat.pow_lt_pow_right (by decide) (by omega)
  have:(2:Nat)^64=18446744073709551616:=by decide
  omega
 ·omega
theorem mkM_bit(n k i:Nat)(hi:i<64):(mkM n k).testBit i=decide (64*k+i<n):=by
 unfold mkM
 split
 ·rw[Nat.testBit_two_pow_sub_one]
  simp only[decide_eq_decide];omega
 ·rw[show(18446744073709551615:Nat)=2^64-1 by decide,Nat.testBit_two_pow_sub_one]
  simp only[decide_eq_decide];omega
theorem mask_ok{s:zG}{n:Nat}(hs:s.n=(n:Int))(hn:n≤4294967296){k:Nat}(hk:k<(n+63)/64)(fuel:Nat):
  pz35 fuel s (k:Int)=some ((mkM n k:Nat):Int):=by
 unfold pz35
 rw[hs,zz (x:=(k:Int)*64) (by omega) (by omega),zz (x:=(n:Int)-(k:Int)*64) (by omega) (by omega)]
 unfold mkM
 by_cases c:n<64*k+64
 ·have hl:(n:Int)-(k:Int)*64=((n-64*k:Nat):Int):=by omega
  have hlt:n-64*k<64:=by omega
  have h2:2^(n-64*k)<2^64:=Nat.pow_lt_pow_right (by decide) hlt
  have h1:0<2^(n-64*k):=Nat.pow_pos (by decide)
  have h64:(2:Nat)^64=18446744073709551616:=by decide
  rw[hl,if_pos (by simp;omega),shl_one hlt,if_pos c]
  simp only[Option.bind_some]
  congr 1
  generalize 2^(n-64*k)=p at h1 h2
  rw[show((p:Nat):Int)-1=((p-1:Nat):Int) by omega]
  exact wrapu (by omega)
 ·rw[if_neg (by simp;omega),if_neg c];rfl
def nw(s o:zG)(n i:Nat):Nat:=((s.words[i]?.getD 0).toNat&&&(o.words[i]?.getD 0).toNat)&&&mkM n i
theorem nw_lt(s o:zG)(n i:Nat):nw s o n i<18446744073709551616:=Nat.and_lt_two_pow (n:=64) _ (mkM_lt n i)
theorem and_ok{s o:zG}{n:Nat}(hV:bV s n)(hO:bV o n)(hn:n≤4294967296){fuel:Nat}(hf:n+1<fuel):
  ∃b s',pz3a fuel s o=some (b,s')∧bV s' n∧(∀j,bH s' j=(bH s j&&bH o j&&decide (j<n)))∧(b=true→ ∃j,j<64*((n+63)/64)∧bH s' j≠bH s j)∧(b=false→s'=s):=by
 unfold pz3a pz39
 have hL:=hV.2.1
 have hM:=hO.2.1
 have key:=yO (ρ:=Bool×zG) (fun q:List Int×Int×Bool=> ∃k:Nat,q.2.1=k∧k≤(n+63)/64∧q.1.length=(n+63)/64∧(∀i,q.1[i]?=if i<k then some (nw s o n i:Int) else s.words[i]?)∧(q.2.2=true↔ ∃i,i<k∧some (nw s o n i:Int)≠s.words[i]?))
  (fun q=>q.1.length=(n+63)/64∧(∀i,i<(n+63)/64→q.1[i]?=some (nw s o n i:Int))∧(q.2.2=true↔ ∃i,i<(n+63)/64∧some (nw s o n i:Int)≠s.words[i]?)) (fun _=>False) (fun q=>(n+63)/64-q.2.1.toNat)
  (fun q=>pz38 fuel s o q.1 q.2.1 q.2.2) (by
   rintro⟨c,x,ch⟩ ⟨k,hx,hk,hlen,hc,hch⟩
   simp only at hx hlen hc hch
   subst hx
   show(∃s',pz38 fuel s o c (k:Int) ch=some (.n s')∧_)∨(∃s',pz38 fuel s o c (k:Int) ch=some (.b s')∧_)∨_
   unfold pz38
   rw[hL,hM]
   by_cases h:k<(n+63)/64
   ·left
    have hlt:(k:Int)<(((n+63)/64:Nat):Int):=by omega
    obtain⟨w,hw⟩:=getAt (xs:=s.words) (i:=k) (by omega)
    obtain⟨w0,w1⟩:=hV.2.2 w (List.mem_of_getElem? hw)
    obtain⟨a,rfl⟩:=Int.eq_ofNat_of_zero_le w0
    obtain⟨v,hv⟩:=getAt (xs:=o.words) (i:=k) (by omega)
    obtain⟨v0,v1⟩:=hO.2.2 v (List.mem_of_getElem? hv)
    obtain⟨b,rfl⟩:=Int.eq_ofNat_of_zero_le v0
    have ha:a<18446744073709551616:=by omega
    have hb:b<18446744073709551616:=by omega
    have hck:c[k]?=some (a:Int):=by rw[hc k,if_neg (by omega),hw]
    have hab:a&&&b<18446744073709551616:=Nat.and_lt_two_pow (n:=64) a hb
    have hnw:nw s o n k=a&&&b&&&mkM n k:=by simp[nw,hw,hv]
    have e1:=band_nat ha hb
    have e2:=band_nat hab (mkM_lt n k)
    rw[←hnw] at e2
    have hset:setI c (k:Int) ((nw s o n k:Nat):Int)=some (c.set k ((nw s o n k:Nat):Int)):=kS (by omega)
    simp only[hlt,decide_true,if_true,zp hck,Option.bind_some,zp hv,pz34,mask_ok (s:=⟨s.n,c⟩) hV.1 hn h fuel,e1,e2,hset]
    refine⟨_,rfl,⟨k+1,wrap1 (by omega),by omega,by simp;omega,?_,?_⟩,?_⟩
    ·intro i
     show(c.set k ((nw s o n k:Nat):Int))[i]?=_
     by_cases e:i=k
     ·subst e;rw[List.getElem?_set_self (by omega),if_pos (by omega)]
     ·rw[List.getElem?_set_ne (by omega),hc i]
      by_cases e2:i<k
      ·rw[if_pos e2,if_pos (by omega)]
      ·rw[if_neg e2,if_neg (by omega)]
    ·show(ch||decide (((nw s o n k:Nat):Int)≠(a:Int)))=true↔_
     rw[Bool.or_eq_true,hch,decide_eq_true_eq]
     constructor
     ·rintro(⟨i,h1,h2⟩|h1)
      ·exact⟨i,by omega,h2⟩
      ·exact⟨k,by omega,by rw[hw];simpa using h1⟩
     ·rintro⟨i,h1,h2⟩
      by_cases e:i=k
      ·subst e;rw[hw] at h2;exact .inr (by simpa using h2)
      ·exact .inl ⟨i,by omega,h2⟩
    ·show(n+63)/64-(IntKind.i64.wrap ((k:Int)+1)).toNat<(n+63)/64-((k:Int)).toNat
     rw[wrap1 (by omega)];omega
   ·right;left
    have hlt: ¬(k:Int)<(((n+63)/64:Nat):Int):=by omega
    simp only[hlt,decide_false,Bool.false_eq_true,if_false]
    have hkL:k=(n+63)/64:=by omega
    refine⟨_,rfl,hlen,fun i hi=>?_,?_⟩
    ·show c[i]?=_
     rw[hc i,if_pos (by omega)]
    ·show ch=true↔_
     rw[hch,hkL]) fuel (s.words,0,false) ⟨0,rfl,by omega,hL,fun i=>by simp,by simp⟩ (by simp;omega)
 rcases key with ⟨⟨c,x,ch⟩,k1,k2,k3,k4⟩|⟨v,_,h⟩
 ·simp only at k2 k3 k4
  refine⟨ch,⟨s.n,c⟩,by rw[k1];rfl,⟨hV.1,k2,?_⟩,?_,?_,?_⟩
  ·intro w hw
   obtain⟨i,hi⟩:=List.getElem?_of_mem hw
   have hi':=(List.getElem?_eq_some_iff.1 hi).1
   have hi2:i<c.length:=hi'
   have h2:c[i]?=some w:=hi
   rw[k3 i (by omega)] at h2
   have:=nw_lt s o n i
   cases h2
   omega
  ·intro j
   unfold bH
   show(match c[j/64]? with|some w=>w.toNat.testBit (j%64)|none=>false)=_
   by_cases hj:j/64<(n+63)/64
   ·obtain⟨w,hw⟩:=getAt (xs:=s.words) (i:=j/64) (by omega)
    obtain⟨v,hv⟩:=getAt (xs:=o.words) (i:=j/64) (by omega)
    rw[k3 _ hj]
    simp only[hw,hv,Int.toNat_natCast]
    unfold nw
    rw[hw,hv,Nat.testBit_and,Nat.testBit_and,mkM_bit _ _ _ (by omega),show 64*(j/64)+j%64=j by omega]
    rfl
   ·rw[List.getElem?_eq_none (by omega),List.getElem?_eq_none (by omega)]
    rfl
  ·intro h
   obtain⟨i,hi,h2⟩:=k4.1 h
   obtain⟨w,hw⟩:=getAt (xs:=s.words) (i:=i) (by omega)
   obtain⟨w0,w1⟩:=hV.2.2 w (List.mem_of_getElem? hw)
   obtain⟨a,rfl⟩:=Int.eq_ofNat_of_zero_le w0
   rw[hw] at h2
   have hne:nw s o n i≠a:=by
    intro e;rw[e] at h2;exact h2 rfl
   have: ∃b,(nw s o n i).testBit b≠a.testBit b:=by
    apply Classical.byContradiction
    intro hno
    exact hne (Nat.eq_of_testBit_eq fun b=>Classical.byContradiction fun hb=>hno ⟨b,hb⟩)
   obtain⟨b,hb⟩:=this
   have hb64:b<64:=by
    apply Classical.byContradiction
    intro hge
    have h64:(18446744073709551616:Nat)≤2^b:=by
     rw[show(18446744073709551616:Nat)=2^64 by decide]
     exact Nat.pow_le_pow_right (by decide) (by omega)
    have:=nw_lt s o n i
    rw[Nat.testBit_lt_two_pow (by omega),Nat.testBit_lt_two_pow (by omega)] at hb
    exact hb rfl
   refine⟨64*i+b,by omega,?_⟩
   unfold bH
   show(match c[(64*i+b)/64]? with|some w=>w.toNat.testBit ((64*i+b)%64)|none=>false)≠_
   rw[show(64*i+b)/64=i by omega,show(64*i+b)%64=b by omega,k3 i hi,hw]
   simpa using hb
  ·intro h
   have:c=s.words:=by
    apply List.ext_getElem?
    intro i
    by_cases hi:i<(n+63)/64
    ·rw[k3 i hi]
     apply Classical.byContradiction
     intro hne
     have:=k4.2 ⟨i,hi,hne⟩
     rw[h] at this;cases this
    ·rw[List.getElem?_eq_none (by omega),List.getElem?_eq_none (by omega)]
   rw[this]
 ·exact h.elim
theorem copy_ok{s:zG}{n:Nat}(hV:bV s n)(hn:n≤4294967296)(fuel:Nat):pz2z fuel s=some s:=by
 unfold pz2z pz2w
 rw[yf (by have:=hV.2.1;simp;omega)]
 rfl
theorem full_ok{n:Nat}(hn:n≤4294967){fuel:Nat}(hf:n+1<fuel): ∃s,pz2v fuel (n:Int)=some s∧bV s n∧ ∀j,bH s j=decide (j<n):=by
 unfold pz2v
 obtain⟨s0,h1,h2,h3⟩:=new_ok (n:=n) (by omega) fuel
 rw[h1]
 simp only[Option.bind_some]
 have key:=yO (ρ:=zG) (fun q:Int×zG=> ∃k:Nat,q.1=k∧k≤n∧bV q.2 n∧ ∀j,bH q.2 j=decide (j<k)) (fun q=>bV q.2 n∧ ∀j,bH q.2 j=decide (j<n)) (fun _=>False) (fun q=>n-q.1.toNat)
  (fun q=>pz2u fuel s0 q.1 q.2) (by
   rintro⟨x,s⟩ ⟨k,hx,hk,hv,hb⟩
   simp only at hx hv hb
   subst hx
   show(∃s',pz2u fuel s0 (k:Int) s=some (.n s')∧_)∨(∃s',pz2u fuel s0 (k:Int) s=some (.b s')∧_)∨_
   unfold pz2u
   rw[h2.1]
   by_cases h:k<n
   ·left
    have hlt:(k:Int)<(n:Int):=by omega
    rcases yzI hv (by omega) fuel (k:Int) with ⟨e,hno⟩|⟨k',s',e0,hk',hf',e,hv',hb'⟩
    ·have:=hno k rfl h
     rw[hb k] at this
     simp at this
    ·have:k'=k:=by omega
     subst this
     simp only[hlt,decide_true,if_true,e,Option.bind_some]
     refine⟨_,rfl,⟨k'+1,wrap1 (by omega),by omega,hv',fun j=>?_⟩,?_⟩
     ·show bH s' j=_
      rw[hb' j,hb j]
      by_cases c1:j<k'<;>by_cases c2:j=k'<;>simp[c1,c2]<;>omega
     ·show n-(IntKind.i64.wrap ((k':Int)+1)).toNat<n-((k':Int)).toNat
      rw[wrap1 (by omega)];omega
   ·right;left
    have hlt: ¬(k:Int)<(n:Int):=by omega
    simp only[hlt,decide_false,Bool.false_eq_true,if_false]
    have:k=n:=by omega
    subst this
    exact⟨_,rfl,hv,hb⟩) fuel (0,s0) ⟨0,rfl,by omega,h2,fun j=>by rw[h3 j];simp⟩ (by simp;omega)
 rcases key with ⟨⟨x,s⟩,k1,k2,k3⟩|⟨v,_,h⟩
 ·exact⟨s,by rw[k1];rfl,k2,k3⟩
 ·exact h.elim
theorem of_ok{n:Nat}(hn:n≤4294967){l:List Int}(hl:l.length≤4294967){fuel:Nat}(hf:l.length+1<fuel): ∃s,pz2i fuel (n:Int) l=some s∧bV s n∧ ∀j,bH s j=(decide (j<n)&&decide ((j:Int)∈l)):=by
 unfold pz2i
 obtain⟨s0,h1,h2,h3⟩:=new_ok (n:=n) (by omega) fuel
 rw[h1]
 simp only[Option.bind_some]
 have key:=yO (ρ:=zG) (fun q:Int×zG=> ∃k:Nat,q.1=k∧k≤l.length∧bV q.2 n∧ ∀j,bH q.2 j=(decide (j<n)&&decide ((j:Int)∈l.take k))) (fun q=>bV q.2 n∧ ∀j,bH q.2 j=(decide (j<n)&&decide ((j:Int)∈l))) (fun _=>False) (fun q=>l.length-q.1.toNat)
  (fun q=>pz2h fuel l q.1 q.2) (by
   rintro⟨x,s⟩ ⟨k,hx,hk,hv,hb⟩
   simp only at hx hv hb
   subst hx
   show(∃s',pz2h fuel l (k:Int) s=some (.n s')∧_)∨(∃s',pz2h fuel l (k:Int) s=some (.b s')∧_)∨_
   unfold pz2h
   by_cases h:k<l.length
   ·left
    have hlt:(k:Int)<(l.length:Int):=by omega
    obtain⟨z,hz⟩:=getAt (xs:=l) (i:=k) h
    have htk: ∀j:Nat,((j:Int)∈l.take (k+1))↔((j:Int)∈l.take k∨(j:Int)=z):=by
     intro j
     rw[List.take_add_one,hz]
     simp
    have hm:l.length-(IntKind.i64.wrap ((k:Int)+1)).toNat<l.length-((k:Int)).toNat:=by rw[wrap1 (by omega)];omega
    rcases yzI hv (by omega) fuel z with ⟨e,hno⟩|⟨k',s',e0,hk',hf',e,hv',hb'⟩
    ·simp only[hlt,decide_true,if_true,zp hz,e,Option.bind_some]
     refine⟨_,rfl,⟨k+1,wrap1 (by omega),by omega,hv,fun j=>?_⟩,hm⟩
     show bH s j=_
     by_cases c:(j:Int)=z
     ·by_cases c2:j<n
      ·rw[hno j c.symm c2,decide_eq_true c2,decide_eq_true ((htk j).2 (.inr c))];rfl
      ·rw[hb j];simp[c2]
     ·rw[hb j];simp[htk,c]
    ·subst e0
     simp only[hlt,decide_true,if_true,zp hz,e,Option.bind_some]
     refine⟨_,rfl,⟨k+1,wrap1 (by omega),by omega,hv',fun j=>?_⟩,hm⟩
     show bH s' j=_
     rw[hb' j,hb j]
     by_cases c2:j=k'
     ·subst c2;simp[hk',htk]
     ·have:(j:Int)≠(k':Int):=by omega
      simp[c2,htk,this]
   ·right;left
    have hlt: ¬(k:Int)<(l.length:Int):=by omega
    simp only[hlt,decide_false,Bool.false_eq_true,if_false]
    refine⟨_,rfl,hv,fun j=>?_⟩
    show bH s j=_
    rw[hb j,List.take_of_length_le (by omega)]) fuel (0,s0) ⟨0,rfl,by omega,h2,fun j=>by rw[h3 j];simp⟩ (by simp;omega)
 rcases key with ⟨⟨x,s⟩,k1,k2,k3⟩|⟨v,_,h⟩
 ·exact⟨s,by rw[k1];rfl,k2,k3⟩
 ·exact h.elim
end Go.Proofs.YtmogcnnhbmaffaaGreat.PL
set_option linter.unusedVariables false
set_option linter.unusedSimpArgs false
namespace Go.Proofs.YtmogcnnhbmaffaaGreat.PL
open Go
theorem less_ok(fuel:Nat)(x y:Int):pz2p fuel x y=some (decide (x<y)):=by
 simp[pz2p,pz2o]
abbrev Rise(l:List Int):Prop:=l.Pairwise (· < ·)
theorem Rise.lt{l:List Int}(h:Rise l){i j:Nat}{x y:Int}(hi:l[i]?=some x)(hj:l[j]?=some y)(hij:i<j):x<y:=by
 obtain⟨h1,e1⟩:=List.getElem?_eq_some_iff.1 hi
 obtain⟨h2,e2⟩:=List.getElem?_eq_some_iff.1 hj
 rw[←e1,←e2]
 exact List.pairwise_iff_getElem.1 h i j h1 h2 hij
theorem half_ok{i j:Nat}(hi:i≤4294967)(hj:j≤4294967):shr .u64 (IntKind.wrap .u64 (IntKind.wrap .i64 ((i:Int)+(j:Int)))) 1=some (((i+j)/2:Nat):Int):=by
 rw[zz (by omega) (by omega),show(i:Int)+(j:Int)=((i+j:Nat):Int) by omega,wrapu (by omega)]
 have:=shr_nat (a:=i+j) (k:=1) (by omega)
 simpa using this
theorem search_ok{l:List Int}(hl:l.length≤4294967)(hr:Rise l){fuel:Nat}(hf:2*l.length+1<fuel)(v:Int):
  ∃i:Nat,pz2s fuel l v=some ((i:Int),decide (v∈l))∧i≤l.length∧(v∈l→l[i]?=some v):=by
 unfold pz2s
 have key:=yO (ρ:=Int×Bool) (fun q:Int×Int=> ∃i j:Nat,q.1=i∧q.2=j∧i≤j∧j≤l.length∧(∀k x,k<i→l[k]?=some x→x<v)∧(∀k x,j≤k→l[k]?=some x→v≤x)) (fun q=> ∃i:Nat,q.1=i∧i≤l.length∧(∀k x,k<i→l[k]?=some x→x<v)∧(∀k x,i≤k→l[k]?=some x→v≤x)) (fun _=>False) (fun q=>q.2.toNat-q.1.toNat)
  (fun q=>pz2r fuel l v q.1 q.2) (by
   rintro⟨a,b⟩ ⟨i,j,ha,hb,hij,hj,h1,h2⟩
   simp only at ha hb
   subst ha;subst hb
   show(∃s',pz2r fuel l v (i:Int) (j:Int)=some (.n s')∧_)∨(∃s',pz2r fuel l v (i:Int) (j:Int)=some (.b s')∧_)∨_
   unfold pz2r
   by_cases h:i<j
   ·left
    have hlt:(i:Int)<(j:Int):=by omega
    obtain⟨x,hx⟩:=getAt (xs:=l) (i:=(i+j)/2) (by omega)
    simp only[hlt,decide_true,if_true,half_ok (i:=i) (j:=j) (by omega) (by omega),Option.bind_some,zz (x:=(((i+j)/2:Nat):Int)) (by omega) (by omega),zp hx,less_ok]
    by_cases c:x<v
    ·simp only[c,decide_true,if_true]
     refine⟨_,rfl,⟨(i+j)/2+1,j,wrap1 (by omega),rfl,by omega,hj,?_,h2⟩,?_⟩
     ·intro k y hk hy
      by_cases e:k=(i+j)/2
      ·subst e;rw[hx] at hy;cases hy;exact c
      ·have:=hr.lt hy hx (by omega);omega
     ·show((j:Int)).toNat-(IntKind.i64.wrap ((((i+j)/2:Nat):Int)+1)).toNat<((j:Int)).toNat-((i:Int)).toNat
      rw[wrap1 (by omega)];omega
    ·simp only[c,decide_false,Bool.false_eq_true,if_false]
     refine⟨_,rfl,⟨i,(i+j)/2,rfl,rfl,by omega,by omega,h1,?_⟩,?_⟩
     ·intro k y hk hy
      by_cases e:k=(i+j)/2
      ·subst e;rw[hx] at hy;cases hy;omega
      ·have:=hr.lt hx hy (by omega);omega
     ·show((((i+j)/2:Nat):Int)).toNat-((i:Int)).toNat<((j:Int)).toNat-((i:Int)).toNat
      omega
   ·right;left
    have hlt: ¬(i:Int)<(j:Int):=by omega
    simp only[hlt,decide_false,Bool.false_eq_true,if_false]
    have:i=j:=by omega
    subst this
    exact⟨_,rfl,i,rfl,hj,h1,h2⟩) fuel (0,(l.length:Int)) ⟨0,l.length,rfl,rfl,by omega,by omega,fun k x hk=>by omega,fun k x hk hx=>by have:=(List.getElem?_eq_some_iff.1 hx).1;omega⟩ (by simp;omega)
 rcases key with ⟨⟨a,b⟩,k1,i,ha,hi,h1,h2⟩|⟨_,_,h⟩
 ·simp only at ha
  subst ha
  rw[k1]
  have hmem:v∈l↔l[i]?=some v:=by
   constructor
   ·intro hv
    obtain⟨k,hk⟩:=List.getElem?_of_mem hv
    have hki: ¬k<i:=fun c=>by have:=h1 k v c hk;omega
    by_cases e:k=i
    ·subst e;exact hk
    ·obtain⟨y,hy⟩:=getAt (xs:=l) (i:=i) (by have:=(List.getElem?_eq_some_iff.1 hk).1;omega)
     have h3:=h2 i y (by omega) hy
     have h4:=hr.lt hy hk (by omega)
     omega
   ·exact fun h=>List.mem_of_getElem? h
  refine⟨i,?_,hi,fun hv=>hmem.1 hv⟩
  show(bindE (some (.n ((i:Int),b))) _ _)=_
  simp only[bindE]
  by_cases c:i<l.length
  ·obtain⟨y,hy⟩:=getAt (xs:=l) (i:=i) c
   have hlt:(i:Int)<(l.length:Int):=by omega
   by_cases e:y=v
   ·subst e
    have:y∈l:=hmem.2 hy
    simp[hlt,zp hy,this]
   ·have: ¬v∈l:=fun h=>e (by rw[hmem.1 h] at hy;cases hy;rfl)
    simp[hlt,zp hy,e,this,pz2q]
  ·have hlt: ¬(i:Int)<(l.length:Int):=by omega
   have: ¬v∈l:=fun h=>by have:=(List.getElem?_eq_some_iff.1 (hmem.1 h)).1;omega
   simp[hlt,this]
 ·exact h.elim
def plc(l:List Int)(v:Int):Int:=match l.findIdx? (fun x=>decide (x=v)) with|some i=>i|none=> -1
theorem plc_in{l:List Int}(hr:Rise l){v:Int}{i:Nat}(h:l[i]?=some v):plc l v=i:=by
 unfold plc
 have:l.findIdx? (fun x=>decide (x=v))=some i:=by
  rw[List.findIdx?_eq_some_iff_getElem]
  obtain⟨h1,e1⟩:=List.getElem?_eq_some_iff.1 h
  refine⟨h1,by simp[e1],fun j hj=>?_⟩
  have:l[j]?=some l[j]:=by simp
  have:=hr.lt this h hj
  simp;omega
 rw[this]
theorem plc_out{l:List Int}{v:Int}(h:v∉l):plc l v= -1:=by
 unfold plc
 have:l.findIdx? (fun x=>decide (x=v))=none:=by
  rw[List.findIdx?_eq_none_iff]
  intro x hx
  have:x≠v:=fun e=>h (e▸hx)
  simp[this]
 rw[this]
theorem place_ok{k:zL}(hl:k.ids.length≤4294967)(hr:Rise k.ids){fuel:Nat}(hf:2*k.ids.length+1<fuel)(v:Int):pz2t fuel k v=some (plc k.ids v):=by
 unfold pz2t
 obtain⟨i,h1,h2,h3⟩:=search_ok hl hr hf v
 rw[h1]
 by_cases c:v∈k.ids
 ·simp[c,plc_in hr (h3 c)]
 ·simp[c,plc_out c]
theorem plc_lt{l:List Int}(hr:Rise l)(v:Int):plc l v= -1∧v∉l∨ ∃i:Nat,plc l v=i∧i<l.length∧l[i]?=some v:=by
 by_cases c:v∈l
 ·obtain⟨i,hi⟩:=List.getElem?_of_mem c
  exact .inr ⟨i,plc_in hr hi,(List.getElem?_eq_some_iff.1 hi).1,hi⟩
 ·exact .inl ⟨plc_out c,c⟩
def gv(x:Ins):Option Int:=if x.dst.kind=1 then some x.dst.n else none
theorem give_ok{k:zL}(hl:k.ids.length≤4294967)(hr:Rise k.ids){s:zG}(hV:bV s k.ids.length){fuel:Nat}(hf:2*k.ids.length+1<fuel)(x:Ins):
  ∃s',pz30 fuel k s x=some s'∧bV s' k.ids.length∧ ∀j,bH s' j=(bH s j||decide (∃v,gv x=some v∧k.ids[j]?=some v)):=by
 unfold pz30 pz2y pz2x
 by_cases c:x.dst.kind=1
 ·have hp:=place_ok hl hr hf x.dst.n
  simp only[c,decide_true,if_true,bindE,Option.bind_some,Bool.and_true,hp]
  have hg:gv x=some x.dst.n:=by simp[gv,c]
  rcases plc_lt hr x.dst.n with ⟨e,hno⟩|⟨i,e,hi,hx⟩
  ·rw[e]
   rcases yzI hV (by omega) fuel (-1) with ⟨e2,_⟩|⟨i,_,hi,_⟩
   ·refine⟨s,by rw[e2];rfl,hV,fun j=>?_⟩
    have: ¬ ∃v,gv x=some v∧k.ids[j]?=some v:=by
     rintro⟨v,h1,h2⟩
     rw[hg] at h1;cases h1
     exact hno (List.mem_of_getElem? h2)
    simp[this]
   ·omega
  ·rw[e]
   rcases yzI hV (by omega) fuel (i:Int) with ⟨e2,h2⟩|⟨i',s',hi',hlt,hb,e2,hV',hb'⟩
   ·refine⟨s,by rw[e2];rfl,hV,fun j=>?_⟩
    by_cases c2: ∃v,gv x=some v∧k.ids[j]?=some v
    ·obtain⟨v,h3,h4⟩:=c2
     rw[hg] at h3;cases h3
     have hji:j=i:=by
      rcases Nat.lt_trichotomy j i with h|h|h
      ·have:=hr.lt h4 hx h;omega
      ·exact h
      ·have:=hr.lt hx h4 h;omega
     subst hji
     rw[h2 j rfl hi];rfl
    ·simp[c2]
   ·have:i'=i:=by omega
    subst this
    refine⟨s',by rw[e2];rfl,hV',fun j=>?_⟩
    rw[hb' j]
    congr 1
    rw[decide_eq_decide]
    constructor
    ·rintro rfl;exact⟨_,hg,hx⟩
    ·rintro⟨v,h3,h4⟩
     rw[hg] at h3;cases h3
     rcases Nat.lt_trichotomy j i' with h|h|h
     ·have:=hr.lt h4 hx h;omega
     ·exact h
     ·have:=hr.lt hx h4 h;omega
 ·have hg: ∀v,¬gv x=some v:=by intro v;simp[gv,c]
  refine⟨s,?_,hV,fun j=>by simp[hg]⟩
  by_cases c2:x.dst.kind=2
  ·simp[c,c2,bindE]
  ·by_cases c3:x.dst.kind=3
   ·simp[c,c2,c3,bindE]
   ·simp[c,c2,c3,bindE]
end Go.Proofs.YtmogcnnhbmaffaaGreat.PL
set_option linter.unusedVariables false
set_option linter.unusedSectionVars false
set_option linter.unusedSimpArgs false
namespace Go.Proofs.YtmogcnnhbmaffaaGreat.PL
open Go
theorem compactI_rising{zs:List Int}(h:zs.Pairwise (fun x y=>x≤y)):Rise (Lib.compact zs):=by
 unfold Rise Lib.compact Lib.compactUpTo
 rw[List.pairwise_map,List.pairwise_filter]
 have hg: ∀i j:Nat,i≤j→j<zs.length→zs.toArray[i]! ≤zs.toArray[j]! :=by
  intro i j hij hj
  by_cases e:i=j
  ·subst e;exact Int.le_refl _
  ·have:=List.pairwise_iff_getElem.1 h i j (by omega) hj (by omega)
   have hi:i<zs.length:=by omega
   simpa [hi,hj] using this
 refine List.Pairwise.imp_of_mem ?_ List.pairwise_lt_range
 intro i j hi hj hij ki kj
 rw[List.mem_range] at hi hj
 have hk:j=0∨zs.toArray[j]! ≠zs.toArray[j-1]! :=of_decide_eq_true kj
 have h1:zs.toArray[i]! ≤zs.toArray[j-1]! :=hg i (j-1) (by omega) (by omega)
 have h2:zs.toArray[j-1]! ≤zs.toArray[j]! :=hg (j-1) j (by omega) hj
 rcases hk with hk|hk
 ·omega
 ·show zs.toArray[i]! <zs.toArray[j]!
  omega
theorem memI_compact{zs:List Int}{x:Int}:x∈Lib.compact zs↔x∈zs:=by
 unfold Lib.compact Lib.compactUpTo
 constructor
 ·intro h
  obtain⟨k,h1,h2⟩:=List.mem_map.1 h
  have h3:=List.mem_range.1 (List.mem_filter.1 h1).1
  have:zs.toArray[k]! =zs[k]:=by simp[h3]
  rw[this] at h2
  subst h2;simp
 ·intro h
  obtain⟨j,hj,hx⟩:=List.getElem_of_mem h
  have: ∀(j:Nat),j<zs.length→zs.toArray[j]! =x→ ∃k,k<zs.length∧zs.toArray[k]! =x∧(k=0∨zs.toArray[k]! ≠zs.toArray[k-1]!):=by
   intro j
   induction j with
   |zero=>exact fun h1 h2=>⟨0,h1,h2,.inl rfl⟩
   |succ j ih=>
    intro h1 h2
    by_cases e:zs.toArray[j+1]! =zs.toArray[j]!
    ·exact ih (by omega) (by rw[←e];exact h2)
    ·exact⟨j+1,h1,h2,.inr e⟩
  obtain⟨k,h1,h2,h3⟩:=this j hj (by simpa [hj] using hx)
  exact List.mem_map.2 ⟨k,List.mem_filter.2 ⟨List.mem_range.2 h1,decide_eq_true h3⟩,h2⟩
def idl(f:Fnc):List Int:=Lib.compact (isort (f.regs.map fun r=>r.id))
theorem kg(f:Fnc):Rise (idl f):=compactI_rising (isort_sorted _)
theorem idl_mem(f:Fnc)(v:Int):v∈idl f↔ ∃r∈f.regs,r.id=v:=by
 unfold idl
 rw[memI_compact,(zzp _).mem_iff,List.mem_map]
theorem zzG(f:Fnc):(idl f).length≤f.regs.length:=by
 unfold idl
 have h1:=Lib.compact_length_le (isort (f.regs.map fun r=>r.id))
 have h2:=(zzp (f.regs.map fun r=>r.id)).length_eq
 rw[List.length_map] at h2
 omega
def cnt(s:zG):Nat→Nat
 |0=>0
 |m+1=>cnt s m+if bH s m=true then 1 else 0
theorem cnt_bd(s:zG): ∀m,cnt s m≤m
 |0=>Nat.le_refl _
 |m+1=>by have:=cnt_bd s m;unfold cnt;split<;>omega
theorem cnt_le{s t:zG}(h: ∀j,bH s j=true→bH t j=true): ∀m,cnt s m≤cnt t m
 |0=>Nat.le_refl _
 |m+1=>by
  have:=cnt_le h m
  unfold cnt
  by_cases c:bH s m=true
  ·rw[if_pos c,if_pos (h m c)];omega
  ·rw[if_neg c];split<;>omega
theorem cnt_lt{s t:zG}(h: ∀j,bH s j=true→bH t j=true){j:Nat}(hj:bH s j≠bH t j): ∀m,j<m→cnt s m<cnt t m
 |0,hm=>by omega
 |m+1,hm=>by
  unfold cnt
  by_cases e:j=m
  ·subst e
   have:=cnt_le h j
   have h2:bH s j=false:=by
    cases c:bH s j
    ·rfl
    ·rw[c,h j c] at hj;exact absurd rfl hj
   have h3:bH t j=true:=by
    cases c:bH t j
    ·rw[c,h2] at hj;exact absurd rfl hj
    ·rfl
   rw[h2,h3]
   simp;omega
  ·have:=cnt_lt h hj m (by omega)
   by_cases c:bH s m=true
   ·rw[if_pos c,if_pos (h m c)];omega
   ·rw[if_neg c];split<;>omega
def tot(n:Nat)(l:List zG):Nat:=(l.map fun s=>cnt s (64*((n+63)/64))).sum
theorem tot_set(n:Nat)(x:zG): ∀(l:List zG) (i:Nat) (y:zG),l[i]?=some y→tot n (l.set i x)+cnt y (64*((n+63)/64))=tot n l+cnt x (64*((n+63)/64))
 |[],i,y,h=>by simp at h
 |z::l,0,y,h=>by simp at h;subst h;simp[tot];omega
 |z::l,i+1,y,h=>by
  have:=tot_set n x l i y (by simpa using h)
  simp only[tot,List.set_cons_succ,List.map_cons,List.sum_cons] at this ⊢
  omega
theorem tot_bd(n:Nat): ∀l:List zG,tot n l≤l.length*(64*((n+63)/64))
 |[]=>by simp[tot]
 |z::l=>by
  have:=tot_bd n l
  have h2:=cnt_bd z (64*((n+63)/64))
  show(cnt z (64*((n+63)/64))+tot n l)≤(l.length+1)*(64*((n+63)/64))
  rw[Nat.add_mul,Nat.one_mul]
  generalize l.length*(64*((n+63)/64))=A at*
  omega
def fBk(f:Fnc):Prop:=fOk f∧f.regs.length≤1048576∧f.params.length≤1048576∧ ∀b∈f.blocks,∀i∈b.code,i.args.length≤1048576∧i.cases.length≤1048576
def gbN(f:Fnc)(b n:Nat)(v:Int):Prop:= ∃bl,f.blocks[b]?=some bl∧ ∃x∈bl.code.take n,gv x=some v
def gb(f:Fnc)(b:Nat)(v:Int):Prop:= ∃bl,f.blocks[b]?=some bl∧ ∃x∈bl.code,gv x=some v
def EG(f:Fnc)(v:Int)(a b:Nat):Prop:=EE f a b∧ ¬gb f a v
def isP(f:Fnc)(v:Int):Prop:= ∃p∈f.params,p.kind=1∧p.n=v
def Wo(f:Fnc)(v:Int)(b:Nat):Prop:= ¬isP f v∧Path (EG f v) (fun _=>True) 0 b
theorem fold_map{α β:Type}(h:α→β): ∀(l:List α) (a:List β),l.foldl (fun a r=>a++[h r]) a=a++l.map h
 |[],a=>by simp
 |x::l,a=>by rw[List.foldl_cons,fold_map h l];simp
section
variable {f:Fnc} (hn:fBk f) {fuel:Nat} (hf:17592186044416<fuel)
include hn hf
theorem asg_b1:loopE fuel (fun s=>pz3b fuel f s.1 s.2) (0,([]:List Int))=some (.n ((f.regs.length:Int),f.regs.map fun r=>r.id)):=by
 have hr:=hn.2.1
 have:=loop_fold (xs:=f.regs) (f:=fun s:Int×List Int=>pz3b fuel f s.1 s.2) (fun a r=>a++[r.id]) (fun _=>True) (by omega) (s0:=[]) trivial (by
  intro i x s hx hs _
  have hl:i<f.regs.length:=(List.getElem?_eq_some_iff.1 hx).1
  have hlt:(i:Int)<(f.regs.length:Int):=by omega
  have hsl:s.length≤1048576:=by
   rw[hs,fold_map]
   simp;omega
  have ha:app s [x.id]=some (s++[x.id]):=yf (by simp;omega)
  show pz3b fuel f (i:Int) s=_∧True
  unfold pz3b
  simp only[hlt,decide_true,if_true,zp hx,Option.bind_some,ha,wrap1 (show i≤4294967296 by omega)]
  exact⟨trivial,trivial⟩) (by
  intro s
  show pz3b fuel f (f.regs.length:Int) s=_
  unfold pz3b
  simp) (fuel:=fuel) (by omega)
 rw[this,fold_map]
 rfl
theorem asg_b2{S:zG}{r1:List Int}(hS:pz2v fuel (r1.length:Int)=some S):
  ∃x,loopE fuel (fun s=>pz3c fuel f r1 s.1 s.2) (([]:List zG),0)=some (.n (List.replicate f.blocks.length S,x)):=by
 have hb:=hn.1.1
 have key:=yO (ρ:=zL) (fun q:List zG×Int=> ∃k:Nat,q.2=k∧k≤f.blocks.length∧q.1=List.replicate k S) (fun q=>q.1=List.replicate f.blocks.length S) (fun _=>False) (fun q=>f.blocks.length-q.2.toNat)
  (fun s=>pz3c fuel f r1 s.1 s.2) (by
   rintro⟨c,x⟩ ⟨k,hx,hk,hc⟩
   simp only at hx hc
   subst hx;subst hc
   show(∃s',pz3c fuel f r1 _ (k:Int)=some (.n s')∧_)∨(∃s',pz3c fuel f r1 _ (k:Int)=some (.b s')∧_)∨_
   unfold pz3c
   by_cases h:k<f.blocks.length
   ·left
    have hlt:(k:Int)<(f.blocks.length:Int):=by omega
    have ha:app (List.replicate k S) [S]=some (List.replicate k S++[S]):=yf (by simp;omega)
    simp only[hlt,decide_true,if_true,hS,Option.bind_some,ha]
    refine⟨_,rfl,⟨k+1,wrap1 (by omega),by omega,?_⟩,?_⟩
    ·show List.replicate k S++[S]=_
     rw[List.replicate_succ']
    ·show f.blocks.length-(IntKind.i64.wrap ((k:Int)+1)).toNat<f.blocks.length-((k:Int)).toNat
     rw[wrap1 (by omega)];omega
   ·right;left
    have hlt: ¬(k:Int)<(f.blocks.length:Int):=by omega
    simp only[hlt,decide_false,Bool.false_eq_true,if_false]
    have:k=f.blocks.length:=by omega
    subst this
    exact⟨_,rfl,rfl⟩) fuel ([],0) ⟨0,rfl,by omega,by simp⟩ (by simp;omega)
 rcases key with ⟨⟨c,x⟩,k1,k2⟩|⟨v,_,h⟩
 ·simp only at k2
  subst k2
  exact⟨x,k1⟩
 ·exact h.elim
theorem asg_b3(c4:List zG){s0:zG}(hV:bV s0 (idl f).length)(h0: ∀j,bH s0 j=false):
  ∃s x,loopE fuel (fun s=>pz3d fuel f (idl f) c4 s.1 s.2) (s0,0)=some (.n (s,x))∧bV s (idl f).length∧ ∀j,bH s j=true↔ ∃v,(idl f)[j]?=some v∧isP f v:=by
 have hp:=hn.2.2.1
 have hil:=zzG f
 have hr:=hn.2.1
 have key:=yO (ρ:=zL) (fun q:zG×Int=> ∃k:Nat,q.2=k∧k≤f.params.length∧bV q.1 (idl f).length∧ ∀j,bH q.1 j=true↔ ∃v,(idl f)[j]?=some v∧ ∃p∈f.params.take k,p.kind=1∧p.n=v)
  (fun q=>bV q.1 (idl f).length∧ ∀j,bH q.1 j=true↔ ∃v,(idl f)[j]?=some v∧isP f v) (fun _=>False) (fun q=>f.params.length-q.2.toNat)
  (fun s=>pz3d fuel f (idl f) c4 s.1 s.2) (by
   rintro⟨s,x⟩ ⟨k,hx,hk,hv,hb⟩
   simp only at hx hv hb
   subst hx
   show(∃s',pz3d fuel f (idl f) c4 s (k:Int)=some (.n s')∧_)∨(∃s',pz3d fuel f (idl f) c4 s (k:Int)=some (.b s')∧_)∨_
   unfold pz3d
   by_cases h:k<f.params.length
   ·left
    have hlt:(k:Int)<(f.params.length:Int):=by omega
    obtain⟨p,hpk⟩:=getAt (xs:=f.params) (i:=k) h
    have htk: ∀q,q∈f.params.take (k+1)↔q∈f.params.take k∨q=p:=by
     intro q;rw[List.take_add_one,hpk];simp
    have hm:f.params.length-(IntKind.i64.wrap ((k:Int)+1)).toNat<f.params.length-((k:Int)).toNat:=by rw[wrap1 (by omega)];omega
    by_cases c:p.kind=1
    ·have hpl:=place_ok (k:=⟨f,idl f,c4⟩) (show(idl f).length≤4294967 by omega) (kg f) (fuel:=fuel) (by show 2*(idl f).length+1<fuel;omega) p.n
     simp only[hlt,decide_true,if_true,zp hpk,Option.bind_some,c,hpl]
     rcases plc_lt (kg f) p.n with ⟨e,hno⟩|⟨i,e,hi,hx⟩
     ·rcases yzI hv (by omega) fuel (plc (idl f) p.n) with ⟨e2,_⟩|⟨i,_,hi,_⟩
      ·rw[e2]
       refine⟨_,rfl,⟨k+1,wrap1 (by omega),by omega,hv,fun j=>?_⟩,hm⟩
       show bH s j=true↔_
       rw[hb j]
       constructor
       ·rintro⟨v,h1,q,h2,h3⟩;exact⟨v,h1,q,(htk q).2 (.inl h2),h3⟩
       ·rintro⟨v,h1,q,h2,h3,h4⟩
        rcases (htk q).1 h2 with h2|rfl
        ·exact⟨v,h1,q,h2,h3,h4⟩
        ·subst h4;exact absurd (List.mem_of_getElem? h1) hno
      ·omega
     ·rcases yzI hv (by omega) fuel (plc (idl f) p.n) with ⟨e2,h2⟩|⟨i',s',hi',hlt',hb0,e2,hV',hb'⟩
      ·rw[e2]
       refine⟨_,rfl,⟨k+1,wrap1 (by omega),by omega,hv,fun j=>?_⟩,hm⟩
       show bH s j=true↔_
       constructor
       ·intro hj
        obtain⟨v,h1,q,h3,h4⟩:=(hb j).1 hj
        exact⟨v,h1,q,(htk q).2 (.inl h3),h4⟩
       ·rintro⟨v,h1,q,h3,h4,h5⟩
        rcases (htk q).1 h3 with h3|rfl
        ·exact(hb j).2 ⟨v,h1,q,h3,h4,h5⟩
        ·subst h5
         have:=plc_in (kg f) h1
         exact h2 j this (List.getElem?_eq_some_iff.1 h1).1
      ·rw[e2]
       refine⟨_,rfl,⟨k+1,wrap1 (by omega),by omega,hV',fun j=>?_⟩,hm⟩
       show bH s' j=true↔_
       rw[hb' j,Bool.or_eq_true,hb j,decide_eq_true_eq]
       have:i'=i:=by omega
       subst this
       constructor
       ·rintro(⟨v,h1,q,h2,h3⟩|rfl)
        ·exact⟨v,h1,q,(htk q).2 (.inl h2),h3⟩
        ·exact⟨p.n,hx,p,(htk p).2 (.inr rfl),c,rfl⟩
       ·rintro⟨v,h1,q,h2,h3,h4⟩
        rcases (htk q).1 h2 with h2|rfl
        ·exact .inl ⟨v,h1,q,h2,h3,h4⟩
        ·subst h4
         have:=plc_in (kg f) h1
         right;omega
    ·simp only[hlt,decide_true,if_true,zp hpk,Option.bind_some,c,decide_false,Bool.false_eq_true,if_false]
     refine⟨_,rfl,⟨k+1,wrap1 (by omega),by omega,hv,fun j=>?_⟩,hm⟩
     show bH s j=true↔_
     rw[hb j]
     constructor
     ·rintro⟨v,h1,q,h2,h3⟩;exact⟨v,h1,q,(htk q).2 (.inl h2),h3⟩
     ·rintro⟨v,h1,q,h2,h3,h4⟩
      rcases (htk q).1 h2 with h2|rfl
      ·exact⟨v,h1,q,h2,h3,h4⟩
      ·exact absurd h3 c
   ·right;left
    have hlt: ¬(k:Int)<(f.params.length:Int):=by omega
    simp only[hlt,decide_false,Bool.false_eq_true,if_false]
    refine⟨_,rfl,hv,fun j=>?_⟩
    show bH s j=true↔_
    rw[hb j,List.take_of_length_le (by omega)]
    rfl) fuel (s0,0) ⟨0,rfl,by omega,hV,fun j=>by rw[h0 j];simp⟩ (by simp;omega)
 rcases key with ⟨⟨s,x⟩,k1,k2,k3⟩|⟨v,_,h⟩
 ·exact⟨s,x,k1,k2,k3⟩
 ·exact h.elim
end
end Go.Proofs.YtmogcnnhbmaffaaGreat.PL
set_option linter.unusedVariables false
set_option linter.unusedSectionVars false
set_option linter.unusedSimpArgs false
namespace Go.Proofs.YtmogcnnhbmaffaaGreat.PL
open Go
structure KInv (f:Fnc) (k:zL):Prop where
 hf:k.f=f
 hi:k.ids=idl f
 hl:k.in_.length=f.blocks.length
 hv: ∀s∈k.in_,bV s (idl f).length
 d1: ∀(b j:Nat) (s:zG) (v:Int),k.in_[b]?=some s→(idl f)[j]?=some v→bH s j=false→Wo f v b
 d0: ∀(j:Nat) (s:zG) (v:Int),k.in_[0]?=some s→(idl f)[j]?=some v→ ¬isP f v→bH s j=false
def clo(f:Fnc)(k:zL)(b:Nat):Prop:= ∀(s t:zG) (to j:Nat) (v:Int),k.in_[b]?=some s→(to:Int)∈TT f b→k.in_[to]?=some t→(idl f)[j]?=some v→bH t j=true→bH s j=true∨gb f b v
section
variable {f:Fnc} (hn:fBk f) {fuel:Nat} (hf:17592186044416<fuel)
include hn hf
theorem through_ok{k:zL}(hk:KInv f k){b:Nat}{bl:Bl}{s:zG}(hb:f.blocks[b]?=some bl)(hs:k.in_[b]?=some s){m:Nat}(hm:m≤bl.code.length):
  ∃o,pz37 fuel k (b:Int) (m:Int)=some o∧bV o (idl f).length∧ ∀j,bH o j=true↔(bH s j=true∨ ∃v,(idl f)[j]?=some v∧gbN f b m v):=by
 have hil:=zzG f
 have hr:=hn.2.1
 have hmem:bl∈f.blocks:=List.mem_of_getElem? hb
 have hc:=(hn.1.2 bl hmem).1
 have hV:=hk.hv s (List.mem_of_getElem? hs)
 unfold pz37
 have hsl:sli bl.code 0 (m:Int)=some (bl.code.take m):=by
  unfold sli
  rw[if_pos (by omega)]
  simp
 have hkf:idx k.f.blocks (b:Int)=some bl:=by rw[hk.hf];exact zp hb
 simp only[zp hs,Option.bind_some,copy_ok hV (by omega) fuel,hkf,hsl]
 have hlen:(bl.code.take m).length=m:=by simp;omega
 have key:=yO (ρ:=zG) (fun q:Int×zG=> ∃i:Nat,q.1=i∧i≤m∧bV q.2 (idl f).length∧ ∀j,bH q.2 j=true↔(bH s j=true∨ ∃v,(idl f)[j]?=some v∧gbN f b i v))
  (fun q=>bV q.2 (idl f).length∧ ∀j,bH q.2 j=true↔(bH s j=true∨ ∃v,(idl f)[j]?=some v∧gbN f b m v)) (fun _=>False) (fun q=>m-q.1.toNat)
  (fun s=>pz36 fuel k (bl.code.take m) s.1 s.2) (by
   rintro⟨x,q⟩ ⟨i,hx,hi,hv,hB⟩
   simp only at hx hv hB
   subst hx
   show(∃s',pz36 fuel k (bl.code.take m) (i:Int) q=some (.n s')∧_)∨(∃s',pz36 fuel k (bl.code.take m) (i:Int) q=some (.b s')∧_)∨_
   unfold pz36
   rw[hlen]
   by_cases h:i<m
   ·left
    have hlt:(i:Int)<(m:Int):=by omega
    obtain⟨z,hz⟩:=getAt (xs:=bl.code) (i:=i) (by omega)
    have hz2:(bl.code.take m)[i]?=some z:=by rw[List.getElem?_take,if_pos h,hz]
    obtain⟨q',e,hv',hB'⟩:=give_ok (k:=k) (by rw[hk.hi];omega) (by rw[hk.hi];exact kg f) (by rw[hk.hi];exact hv) (fuel:=fuel) (by rw[hk.hi];omega) z
    rw[hk.hi] at hv' hB'
    simp only[hlt,decide_true,if_true,zp hz2,Option.bind_some,e]
    refine⟨_,rfl,⟨i+1,wrap1 (by omega),by omega,hv',fun j=>?_⟩,?_⟩
    ·show bH q' j=true↔_
     rw[hB' j,Bool.or_eq_true,hB j,decide_eq_true_eq]
     have htk: ∀y,y∈bl.code.take (i+1)↔y∈bl.code.take i∨y=z:=by
      intro y;rw[List.take_add_one,hz];simp
     constructor
     ·rintro((h1|⟨v,h1,bl',h2,y,h3,h4⟩)|⟨v,h1,h2⟩)
      ·exact .inl h1
      ·rw[hb] at h2;cases h2
       exact .inr ⟨v,h1,bl,hb,y,(htk y).2 (.inl h3),h4⟩
      ·exact .inr ⟨v,h2,bl,hb,z,(htk z).2 (.inr rfl),h1⟩
     ·rintro(h1|⟨v,h1,bl',h2,y,h3,h4⟩)
      ·exact .inl (.inl h1)
      ·rw[hb] at h2;cases h2
       rcases (htk y).1 h3 with h3|rfl
       ·exact .inl (.inr ⟨v,h1,bl,hb,y,h3,h4⟩)
       ·exact .inr ⟨v,h4,h1⟩
    ·show m-(IntKind.i64.wrap ((i:Int)+1)).toNat<m-((i:Int)).toNat
     rw[wrap1 (by omega)];omega
   ·right;left
    have hlt: ¬(i:Int)<(m:Int):=by omega
    simp only[hlt,decide_false,Bool.false_eq_true,if_false]
    have:i=m:=by omega
    subst this
    exact⟨_,rfl,hv,hB⟩) fuel (0,s) ⟨0,rfl,by omega,hV,fun j=>by
     constructor
     ·exact .inl
     ·rintro(h|⟨v,_,bl',_,y,h,_⟩)
      ·exact h
      ·simp at h⟩ (by simp;omega)
 rcases key with ⟨⟨x,q⟩,k1,k2,k3⟩|⟨v,_,h⟩
 ·exact⟨q,by rw[k1];rfl,k2,k3⟩
 ·exact h.elim
theorem Wo_step{v:Int}{b to:Nat}(h:Wo f v b)(he:(to:Int)∈TT f b)(hg: ¬gb f b v):Wo f v to:=
 ⟨h.1,Path.snoc h.2 (⟨he,hg⟩:EG f v b to) trivial⟩
theorem gbN_all{b:Nat}{bl:Bl}(hb:f.blocks[b]?=some bl){v:Int}:gbN f b bl.code.length v↔gb f b v:=by
 constructor
 ·rintro⟨bl',h1,y,h2,h3⟩
  rw[hb] at h1;cases h1
  rw[List.take_length] at h2
  exact⟨bl,hb,y,h2,h3⟩
 ·rintro⟨bl',h1,y,h2,h3⟩
  rw[hb] at h1;cases h1
  exact⟨bl,hb,y,by rw[List.take_length];exact h2,h3⟩
theorem asg_b5{k:zL}(hk:KInv f k){b:Nat}(hbn:b<f.blocks.length){s0 o:zG}(hs0:k.in_[b]?=some s0)(hO:bV o (idl f).length)
  (ho: ∀j,bH o j=true↔(bH s0 j=true∨ ∃v,(idl f)[j]?=some v∧gb f b v)) {w:List Nat} (hw:w.Nodup) (hwl: ∀x∈w,x<f.blocks.length) (hbw:b∉w)
  (hc: ∀b'<f.blocks.length,b'≠b→b'∉w→clo f k b'):
  ∃w' x k',loopE fuel (fun s=>pz3e fuel o (TT f b) s.1 s.2.1 s.2.2) (embN w,0,k)=some (.n (embN w',x,k'))∧KInv f k'∧w'.Nodup∧(∀x∈w',x<f.blocks.length)∧(∀b'<f.blocks.length,b'∉w'→clo f k' b')∧tot (idl f).length k'.in_+w'.length≤tot (idl f).length k.in_+w.length:=by
 have hil:=zzG f
 have hr:=hn.2.1
 have hnb:=hn.1.1
 have hTl:=TT_len hn.1 b
 have hout: ∀(j:Nat) (v:Int),(idl f)[j]?=some v→bH o j=false→Wo f v b∧ ¬gb f b v:=by
  intro j v hj h
  have h1: ¬(bH s0 j=true∨ ∃v,(idl f)[j]?=some v∧gb f b v):=by rw[←ho j,h];simp
  refine⟨hk.d1 b j s0 v hs0 hj ?_,fun hg=>h1 (.inr ⟨v,hj,hg⟩)⟩
  cases c:bH s0 j
  ·rfl
  ·exact absurd (.inl c) h1
 have key:=yO (ρ:=Ex (List Int×zL) zL) (fun q:List Int×Int×zL=> ∃(i:Nat) (w1:List Nat),q.1=embN w1∧q.2.1=i∧i≤(TT f b).length∧KInv f q.2.2∧w1.Nodup∧(∀x∈w1,x<f.blocks.length)∧
   (∀b'<f.blocks.length,b'≠b→b'∉w1→clo f q.2.2 b')∧(b∉w1→q.2.2.in_[b]?=some s0)∧(∀t:Nat,(t:Int)∈(TT f b).take i→ ∀y,q.2.2.in_[t]?=some y→ ∀j,bH y j=true→bH o j=true)∧tot (idl f).length q.2.2.in_+w1.length≤tot (idl f).length k.in_+w.length)
  (fun q=> ∃w1:List Nat,q.1=embN w1∧KInv f q.2.2∧w1.Nodup∧(∀x∈w1,x<f.blocks.length)∧(∀b'<f.blocks.length,b'∉w1→clo f q.2.2 b')∧tot (idl f).length q.2.2.in_+w1.length≤tot (idl f).length k.in_+w.length) (fun _=>False) (fun q=>(TT f b).length-q.2.1.toNat)
  (fun s=>pz3e fuel o (TT f b) s.1 s.2.1 s.2.2) (by
   rintro⟨wt,x,k1⟩ ⟨i,w1,hwt,hx,hi,hK,hnd,hlt1,hcl,hbb,hE,hM⟩
   simp only at hwt hx hK hcl hbb hE hM
   subst hwt;subst hx
   show(∃s',pz3e fuel o (TT f b) (embN w1) (i:Int) k1=some (.n s')∧_)∨(∃s',pz3e fuel o (TT f b) (embN w1) (i:Int) k1=some (.b s')∧_)∨_
   unfold pz3e
   by_cases h:i<(TT f b).length
   ·left
    have hlt:(i:Int)<((TT f b).length:Int):=by omega
    obtain⟨z,hz⟩:=getAt (xs:=TT f b) (i:=i) h
    have hzm:z∈TT f b:=List.mem_of_getElem? hz
    obtain⟨hz0,hz1⟩:=TT_in hn.1 hzm
    obtain⟨to,rfl⟩:=Int.eq_ofNat_of_zero_le hz0
    have hto:to<f.blocks.length:=by omega
    obtain⟨y,hy⟩:=getAt (xs:=k1.in_) (i:=to) (by rw[hK.hl];exact hto)
    have hyV:=hK.hv y (List.mem_of_getElem? hy)
    obtain⟨ch,y',eA,hy'V,hy'b,hch,hsame⟩:=and_ok hyV hO (by omega) (fuel:=fuel) (by omega)
    have hwl1:w1.length≤f.blocks.length:=kY _ w1 hnd hlt1
    have hlen1:(embN w1).length=w1.length:=by simp[embN]
    have hin:=in_sl (l:=embN w1) (by omega) (fuel:=fuel) (by omega) (to:Int)
    have hmem:((to:Int)∈embN w1)↔to∈w1:=by
     unfold embN
     rw[List.mem_map]
     constructor
     ·rintro⟨a,h1,h2⟩
      have:a=to:=by omega
      subst this;exact h1
     ·exact fun h=>⟨to,h,rfl⟩
    have hset:setI k1.in_ (to:Int) y'=some (k1.in_.set to y'):=kS (by rw[hK.hl];exact hto)
    have happ:app (embN w1) ([(to:Int)]:List Int)=some (embN (w1++[to])):=by
     rw[yf (by simp;omega)];simp[embN]
    have htk: ∀t:Nat,(t:Int)∈(TT f b).take (i+1)↔(t:Int)∈(TT f b).take i∨t=to:=by
     intro t
     rw[List.take_add_one,hz,List.mem_append,Option.toList_some,List.mem_singleton]
     constructor
     ·rintro(h|h)
      ·exact .inl h
      ·exact .inr (by omega)
     ·rintro(h|rfl)
      ·exact .inl h
      ·exact .inr rfl
    have hm:(TT f b).length-(IntKind.i64.wrap ((i:Int)+1)).toNat<(TT f b).length-((i:Int)).toNat:=by rw[wrap1 (by omega)];omega
    have hkeq:(⟨(⟨k1.f.machine,k1.f.name,k1.f.regs,k1.f.params,k1.f.blocks⟩:Fnc),k1.ids,k1.in_.set to y'⟩:zL)=⟨k1.f,k1.ids,k1.in_.set to y'⟩:=rfl
    have hget: ∀t:Nat,(k1.in_.set to y')[t]?=if t=to then some y' else k1.in_[t]?:=by
     intro t
     by_cases e:t=to
     ·subst e;rw[List.getElem?_set_self (by rw[hK.hl];exact hto),if_pos rfl]
     ·rw[List.getElem?_set_ne (by omega),if_neg e]
    have hsub: ∀j,bH y' j=true→bH y j=true∧bH o j=true:=by
     intro j h
     rw[hy'b j,Bool.and_eq_true,Bool.and_eq_true] at h
     exact h.1
    have hK2:KInv f ⟨k1.f,k1.ids,k1.in_.set to y'⟩:=by
     refine⟨hK.hf,hK.hi,by simp[hK.hl],?_,?_,?_⟩
     ·intro s hs
      rcases List.mem_or_eq_of_mem_set hs with hs|rfl
      ·exact hK.hv s hs
      ·exact hy'V
     ·intro b1 j s v hs hj hb0
      have hs2:(k1.in_.set to y')[b1]?=some s:=hs
      rw[hget b1] at hs2
      by_cases e:b1=to
      ·subst e
       rw[if_pos rfl] at hs2;cases hs2
       have hjn:j<(idl f).length:=(List.getElem?_eq_some_iff.1 hj).1
       rw[hy'b j,decide_eq_true hjn,Bool.and_true,Bool.and_eq_false_iff] at hb0
       rcases hb0 with hb0|hb0
       ·exact hK.d1 b1 j y v hy hj hb0
       ·obtain⟨h1,h2⟩:=hout j v hj hb0
        exact Wo_step hn hf h1 hzm h2
      ·rw[if_neg e] at hs2
       exact hK.d1 b1 j s v hs2 hj hb0
     ·intro j s v hs hj hp
      have hs2:(k1.in_.set to y')[0]?=some s:=hs
      rw[hget 0] at hs2
      by_cases e:0=to
      ·subst e
       rw[if_pos rfl] at hs2;cases hs2
       rw[hy'b j,hK.d0 j y v hy hj hp];rfl
      ·rw[if_neg e] at hs2
       exact hK.d0 j s v hs2 hj hp
    have hE2: ∀t:Nat,(t:Int)∈(TT f b).take (i+1)→ ∀q,(k1.in_.set to y')[t]?=some q→ ∀j,bH q j=true→bH o j=true:=by
     intro t ht q hq j hj
     rw[hget t] at hq
     by_cases e:t=to
     ·rw[if_pos e] at hq;cases hq
      exact(hsub j hj).2
     ·rw[if_neg e] at hq
      rcases (htk t).1 ht with ht|ht
      ·exact hE t ht q hq j hj
      ·exact absurd ht e
    have hcl2: ∀b'<f.blocks.length,b'≠to→clo f k1 b'→clo f ⟨k1.f,k1.ids,k1.in_.set to y'⟩ b':=by
     intro b' _ hne hc s t to' j v hs hto' ht hj hb1
     have hs2:(k1.in_.set to y')[b']?=some s:=hs
     have ht2:(k1.in_.set to y')[to']?=some t:=ht
     rw[hget b',if_neg hne] at hs2
     rw[hget to'] at ht2
     by_cases e:to'=to
     ·subst e
      rw[if_pos rfl] at ht2;cases ht2
      exact hc s y to' j v hs2 hto' hy hj (hsub j hb1).1
     ·rw[if_neg e] at ht2
      exact hc s t to' j v hs2 hto' ht2 hj hb1
    have hts:=tot_set (idl f).length y' k1.in_ to y hy
    cases ch with
    |false=>
     have hyy:=hsame rfl
     have hsid:k1.in_.set to y'=k1.in_:=by
      apply List.ext_getElem?
      intro t
      rw[hget t]
      by_cases e:t=to
      ·subst e;rw[if_pos rfl,hyy,hy]
      ·rw[if_neg e]
     have hb1:(if(false:Bool)=true then(pz10 fuel (embN w1) (to:Int)).bind fun r13=>some (!r13) else some false)=some false:=by simp
     simp only[hlt,decide_true,if_true,zp hz,Option.bind_some,zp hy,eA,hb1,hset,Bool.false_eq_true,if_false]
     refine⟨_,rfl,⟨i+1,w1,rfl,wrap1 (by omega),by omega,hK2,hnd,hlt1,?_,?_,hE2,?_⟩,hm⟩
     ·intro b' h1 h2 h3
      show clo f ⟨k1.f,k1.ids,k1.in_.set to y'⟩ b'
      rw[hsid];exact hcl b' h1 h2 h3
     ·intro h1
      show(k1.in_.set to y')[b]?=some s0
      rw[hsid];exact hbb h1
     ·show tot _ (k1.in_.set to y')+_≤_
      rw[hsid];exact hM
    |true=>
     obtain⟨j0,hj0,hne0⟩:=hch rfl
     have hdec:=cnt_lt (s:=y') (t:=y) (fun j h=>(hsub j h).1) hne0 _ hj0
     by_cases hcw:to∈w1
     ·have hb1:(if(true:Bool)=true then(pz10 fuel (embN w1) (to:Int)).bind fun r13=>some (!r13) else some false)=some false:=by
       rw[if_pos rfl,hin,decide_eq_true (hmem.2 hcw)];rfl
      simp only[hlt,decide_true,if_true,zp hz,Option.bind_some,zp hy,eA]
      rw[show((pz10 fuel (embN w1) (to:Int)).bind fun r13=>some (!r13))=some false by rw[hin,decide_eq_true (hmem.2 hcw)];rfl]
      simp only[Option.bind_some,hset,Bool.false_eq_true,if_false]
      refine⟨_,rfl,⟨i+1,w1,rfl,wrap1 (by omega),by omega,hK2,hnd,hlt1,?_,?_,hE2,?_⟩,hm⟩
      ·intro b' h1 h2 h3
       exact hcl2 b' h1 (by intro e;subst e;exact h3 hcw) (hcl b' h1 h2 h3)
      ·intro h1
       show(k1.in_.set to y')[b]?=some s0
       rw[hget b,if_neg (by intro e;subst e;exact h1 hcw)];exact hbb h1
      ·show tot _ (k1.in_.set to y')+_≤_
       omega
     ·simp only[hlt,decide_true,if_true,zp hz,Option.bind_some,zp hy,eA]
      rw[show((pz10 fuel (embN w1) (to:Int)).bind fun r13=>some (!r13))=some true by rw[hin,decide_eq_false (fun h=>hcw (hmem.1 h))];rfl]
      simp only[Option.bind_some,hset,if_true,happ]
      refine⟨_,rfl,⟨i+1,w1++[to],rfl,wrap1 (by omega),by omega,hK2,?_,?_,?_,?_,hE2,?_⟩,hm⟩
      ·rw[List.nodup_append]
       exact⟨hnd,by simp,fun a ha b hb=>by rw[List.mem_singleton] at hb;subst hb;exact fun e=>hcw (e▸ha)⟩
      ·intro x hx
       rcases List.mem_append.1 hx with hx|hx
       ·exact hlt1 x hx
       ·rw[List.mem_singleton.1 hx];exact hto
      ·intro b' h1 h2 h3
       have h4:b'∉w1:=fun h=>h3 (List.mem_append.2 (.inl h))
       have h5:b'≠to:=fun e=>h3 (List.mem_append.2 (.inr (by simp[e])))
       exact hcl2 b' h1 h5 (hcl b' h1 h2 h4)
      ·intro h1
       have h4:b∉w1:=fun h=>h1 (List.mem_append.2 (.inl h))
       have h5:b≠to:=fun e=>h1 (List.mem_append.2 (.inr (by simp[e])))
       show(k1.in_.set to y')[b]?=some s0
       rw[hget b,if_neg h5];exact hbb h4
      ·show tot _ (k1.in_.set to y')+_≤_
       rw[List.length_append,List.length_singleton]
       omega
   ·right;left
    have hlt: ¬(i:Int)<((TT f b).length:Int):=by omega
    simp only[hlt,decide_false,Bool.false_eq_true,if_false]
    refine⟨_,rfl,w1,rfl,hK,hnd,hlt1,?_,hM⟩
    intro b' h1 h2
    by_cases e:b'=b
    ·subst e
     intro s t to j v hs hto ht hj hb1
     have hs:k1.in_[b']?=some s:=hs
     rw[hbb h2] at hs;cases hs
     have:=hE to (by rw[List.take_of_length_le (by omega)];exact hto) t ht j hb1
     rcases (ho j).1 this with h3|⟨v',h3,h4⟩
     ·exact .inl h3
     ·rw[hj] at h3;cases h3;exact .inr h4
    ·exact hcl b' h1 e h2) fuel (embN w,0,k) ⟨0,w,rfl,rfl,by omega,hk,hw,hwl,hc,fun _=>hs0,by simp,Nat.le_refl _⟩ (by simp;omega)
 rcases key with ⟨⟨wt,x,k'⟩,h1,w1,h2,h3⟩|⟨v,_,h⟩
 ·simp only at h2 h3
  subst h2
  exact⟨w1,x,k',h1,h3⟩
 ·exact h.elim
end
end Go.Proofs.YtmogcnnhbmaffaaGreat.PL
set_option linter.unusedVariables false
set_option linter.unusedSectionVars false
set_option linter.unusedSimpArgs false
namespace Go.Proofs.YtmogcnnhbmaffaaGreat.PL
open Go
theorem embN_cons(b:Nat)(w:List Nat):embN (b::w)=(b:Int)::embN w:=rfl
section
variable {f:Fnc} (hn:fBk f) {fuel:Nat} (hf:17592186044416<fuel)
include hn hf
theorem asg_loop{g:zo}(hg:g.succ.length=f.blocks.length)(h2: ∀j:Nat,j<f.blocks.length→g.succ[j]?=some (TT f j)){k:zL}(hk:KInv f k){w:List Nat}(hw:w.Nodup)(hwl: ∀x∈w,x<f.blocks.length)
  (hc: ∀b'<f.blocks.length,b'∉w→clo f k b'): ∃x k',loopE fuel (fun s=>pz3f fuel f g s.1 s.2) (embN w,k)=some (.n (x,k'))∧KInv f k'∧ ∀b'<f.blocks.length,clo f k' b':=by
 have hil:=zzG f
 have hr:=hn.2.1
 have hnb:=hn.1.1
 have key:=yO (ρ:=zL) (fun q:List Int×zL=> ∃w:List Nat,q.1=embN w∧KInv f q.2∧w.Nodup∧(∀x∈w,x<f.blocks.length)∧ ∀b'<f.blocks.length,b'∉w→clo f q.2 b')
  (fun q=>KInv f q.2∧ ∀b'<f.blocks.length,clo f q.2 b') (fun _=>False) (fun q=>tot (idl f).length q.2.in_+q.1.length)
  (fun s=>pz3f fuel f g s.1 s.2) (by
   rintro⟨wt,k⟩ ⟨w,hwt,hK,hnd,hlt,hcl⟩
   simp only at hwt hK hcl
   subst hwt
   show(∃s',pz3f fuel f g (embN w) k=some (.n s')∧_)∨(∃s',pz3f fuel f g (embN w) k=some (.b s')∧_)∨_
   unfold pz3f
   cases w with
   |nil=>
    right;left
    exact⟨_,rfl,hK,fun b' h=>hcl b' h (by simp)⟩
   |cons b w=>
    left
    obtain⟨hbw,hnd2⟩:=List.nodup_cons.1 hnd
    have hbn:=hlt b (by simp)
    obtain⟨bl,hbl⟩:=getAt (xs:=f.blocks) (i:=b) hbn
    obtain⟨s0,hs0⟩:=getAt (xs:=k.in_) (i:=b) (by rw[hK.hl];exact hbn)
    obtain⟨o,eo,hoV,hoB⟩:=through_ok hn hf hK hbl hs0 (Nat.le_refl _)
    have hsl:sli (embN (b::w)) 1 ((embN (b::w)).length:Int)=some (embN w):=by
     unfold sli
     rw[embN_cons,if_pos (by simp;omega)]
     simp
    have hlt0:(0:Int)<((embN (b::w)).length:Int):=by rw[embN_cons];simp
    have hi0:idx (embN (b::w)) 0=some (b:Int):=by rw[embN_cons];rfl
    have hsu:=gsucc_ok hn.1 (fuel:=fuel) hg h2 hbn
    obtain⟨w',x,k',e5,hK',hnd',hlt',hcl',hM'⟩:=asg_b5 hn hf hK hbn hs0 hoV (fun j=>by
     rw[hoB j]
     constructor
     ·rintro(h|⟨v,h1,h2⟩)
      ·exact .inl h
      ·exact .inr ⟨v,h1,(gbN_all hn hf hbl).1 h2⟩
     ·rintro(h|⟨v,h1,h2⟩)
      ·exact .inl h
      ·exact .inr ⟨v,h1,(gbN_all hn hf hbl).2 h2⟩) hnd2 (fun x hx=>hlt x (by simp[hx])) hbw (fun b' h1 h2 h3=>hcl b' h1 (by simp[h2,h3]))
    simp only[hlt0,decide_true,if_true,hi0,Option.bind_some,hsl,zp hbl,eo,hsu,e5,bindE]
    refine⟨_,rfl,⟨w',rfl,hK',hnd',hlt',hcl'⟩,?_⟩
    show tot _ k'.in_+(embN w').length<tot _ k.in_+(embN (b::w)).length
    have h1:(embN w').length=w'.length:=by simp[embN]
    have h2:(embN (b::w)).length=w.length+1:=by simp[embN]
    omega) fuel (embN w,k) ⟨w,rfl,hk,hw,hwl,hc⟩ (by
   show tot _ k.in_+(embN w).length<fuel
   have h1:=tot_bd (idl f).length k.in_
   have h2:=kY _ w hw hwl
   have h3:(embN w).length=w.length:=by simp[embN]
   have h4:k.in_.length*(64*(((idl f).length+63)/64))≤1048576*1048640:=Nat.mul_le_mul (by rw[hk.hl];exact hnb) (by omega)
   omega)
 rcases key with ⟨⟨x,k'⟩,h1,h2⟩|⟨v,_,h⟩
 ·exact⟨x,k',h1,h2⟩
 ·exact h.elim
theorem assign_ok: ∃k,pz3g fuel f=some k∧KInv f k∧ ∀b'<f.blocks.length,clo f k b':=by
 have hil:=zzG f
 have hr:=hn.2.1
 have hnb:=hn.1.1
 unfold pz3g
 rw[asg_b1 hn hf]
 have hsort:pz2m fuel (f.regs.map fun r=>r.id)=some (isort (f.regs.map fun r=>r.id)):=by
  unfold pz2m;rw[if_pos (by simp;omega)]
 have hcomp:pz2n fuel (isort (f.regs.map fun r=>r.id))=some (idl f):=by
  unfold pz2n
  have h2:=(zzp (f.regs.map fun r=>r.id)).length_eq
  rw[List.length_map] at h2
  rw[if_pos (by omega)];rfl
 obtain⟨S,hS,hSV,hSB⟩:=full_ok (n:=(idl f).length) (by omega) (fuel:=fuel) (by omega)
 obtain⟨x2,h2⟩:=asg_b2 hn hf hS
 simp only[bindE,hsort,hcomp,Option.bind_some,h2]
 by_cases c0:f.blocks.length=0
 ·rw[if_pos (by simp[c0])]
  refine⟨_,rfl,⟨rfl,rfl,by simp,?_,?_,?_⟩,fun b' h=>by omega⟩
  ·intro s hs;simp[c0] at hs
  ·intro b j s v hs;simp[c0] at hs
  ·intro j s v hs;simp[c0] at hs
 ·rw[if_neg (by rw[decide_eq_true_eq];omega)]
  obtain⟨s0,e3,hV0,hB0⟩:=new_ok (n:=(idl f).length) (by omega) fuel
  obtain⟨s1,x3,e4,hV1,hB1⟩:=asg_b3 hn hf (List.replicate f.blocks.length S) hV0 hB0
  obtain⟨g,eg,hg1,hg2,hg3,hg4⟩:=new_f hn.1 (fuel:=fuel) (by omega)
  obtain⟨w,eo,hP,hwl⟩:=order_ok hn.1 (fuel:=fuel) hg3 hg1 hf (by omega)
  have hi0:idx (List.replicate f.blocks.length S) 0=some S:=idx_ok (by omega) (by rw[show(0:Int).toNat=0 from rfl,List.getElem?_replicate,if_pos (by omega)])
  have hset:setI (List.replicate f.blocks.length S) 0 s1=some ((List.replicate f.blocks.length S).set 0 s1):=kS (i:=0) (by simp;omega)
  have hget: ∀t:Nat,((List.replicate f.blocks.length S).set 0 s1)[t]?=if t=0 then some s1 else if t<f.blocks.length then some S else none:=by
   intro t
   by_cases e:t=0
   ·subst e;rw[List.getElem?_set_self (by simp;omega),if_pos rfl]
   ·rw[List.getElem?_set_ne (by omega),if_neg e,List.getElem?_replicate]
  have hwlt: ∀x∈w.reverse,x<f.blocks.length:=by
   intro x hx
   have:=(hP.mem x).1 (List.mem_reverse.1 hx)
   exact Path.closed (C:=fun j=>j<f.blocks.length) (fun a b _ hE _=>TT_lt hn.1 hE) this (by omega)
  have hK:KInv f ⟨f,idl f,(List.replicate f.blocks.length S).set 0 s1⟩:=by
   refine⟨rfl,rfl,by simp,?_,?_,?_⟩
   ·intro s hs
    rcases List.mem_or_eq_of_mem_set hs with hs|rfl
    ·rw[(List.mem_replicate.1 hs).2];exact hSV
    ·exact hV1
   ·intro b j s v hs hj hb0
    have hs:((List.replicate f.blocks.length S).set 0 s1)[b]?=some s:=hs
    rw[hget b] at hs
    by_cases e:b=0
    ·subst e
     rw[if_pos rfl] at hs;cases hs
     refine⟨fun hp=>?_,.one trivial⟩
     rw[(hB1 j).2 ⟨v,hj,hp⟩] at hb0;cases hb0
    ·rw[if_neg e] at hs
     split at hs
     ·cases hs
      rw[hSB j,decide_eq_true (List.getElem?_eq_some_iff.1 hj).1] at hb0;cases hb0
     ·cases hs
   ·intro j s v hs hj hp
    have hs:((List.replicate f.blocks.length S).set 0 s1)[0]?=some s:=hs
    rw[hget 0,if_pos rfl] at hs;cases hs
    cases c:bH s1 j
    ·rfl
    ·obtain⟨v',h1,h2⟩:=(hB1 j).1 c
     rw[hj] at h1;cases h1;exact absurd h2 hp
  have h0w:0∈w.reverse:=List.mem_reverse.2 (List.mem_of_getLast? hP.last)
  obtain⟨x,k',e5,hK',hC'⟩:=asg_loop hn hf hg1 hg3 hK (w:=w.reverse) ((List.reverse_perm w).nodup_iff.2 hP.nd) hwlt (by
   intro b' hb' hno s t to j v hs _ _ hj _
   have hs:((List.replicate f.blocks.length S).set 0 s1)[b']?=some s:=hs
   rw[hget b',if_neg (by intro e;subst e;exact hno h0w),if_pos hb'] at hs
   cases hs
   left
   rw[hSB j,decide_eq_true (List.getElem?_eq_some_iff.1 hj).1])
  simp only[e3,Option.bind_some,e4,hi0,hset,eg,eo,e5]
  exact⟨k',rfl,hK',hC'⟩
theorem sure_iff{k:zL}(hK:KInv f k)(hC: ∀b'<f.blocks.length,clo f k b'){b j:Nat}{s:zG}{v:Int}(hs:k.in_[b]?=some s)(hj:(idl f)[j]?=some v):bH s j=true↔ ¬Wo f v b:=by
 constructor
 ·intro h hw
  have: ∀b,Wo f v b→ ∀s,k.in_[b]?=some s→bH s j=false:=by
   intro b hw
   refine Path.closed (C:=fun b=> ∀s,k.in_[b]?=some s→bH s j=false) ?_ hw.2 ?_
   ·intro a c ha hE _ t ht
    obtain⟨h1,h2⟩:=hE
    have ha2:a<f.blocks.length:=TT_fst h1
    obtain⟨q,hq⟩:=getAt (xs:=k.in_) (i:=a) (by rw[hK.hl];exact ha2)
    cases c2:bH t j
    ·rfl
    ·rcases hC a ha2 q t c j v hq h1 ht hj c2 with h3|h3
     ·rw[ha q hq] at h3;cases h3
     ·exact absurd h3 h2
   ·intro s hs
    exact hK.d0 j s v hs hj hw.1
  rw[this b hw s hs] at h;cases h
 ·intro h
  cases c:bH s j
  ·exact absurd (hK.d1 b j s v hs hj c) h
  ·rfl
end
end Go.Proofs.YtmogcnnhbmaffaaGreat.PL
set_option linter.unusedVariables false
set_option linter.unusedSectionVars false
set_option linter.unusedSimpArgs false
namespace Go.Proofs.YtmogcnnhbmaffaaGreat.PL
open Go
def sr(f:Fnc)(b i:Nat)(v:Int):Prop:=v∈idl f∧(¬Wo f v b∨gbN f b i v)
section
variable {f:Fnc} (hn:fBk f) {fuel:Nat} (hf:17592186044416<fuel) {k:zL} (hK:KInv f k) (hC: ∀b'<f.blocks.length,clo f k b')
include hn hf hK hC
def isSr(f:Fnc)(b i:Nat)(s:zG):Prop:=bV s (idl f).length∧ ∀(j:Nat) (v:Int),(idl f)[j]?=some v→(bH s j=true↔(¬Wo f v b∨gbN f b i v))
theorem fst_has{b i:Nat}{s:zG}(hs:isSr f b i s)(v:Int): ∃c:Bool,((pz2t fuel k v).bind fun r2=>(pz28 fuel s r2).bind fun r3=>some (!r3))=some (!c)∧(c=true↔sr f b i v):=by
 have hil:=zzG f
 have hr:=hn.2.1
 have hpl:=place_ok (k:=k) (by rw[hK.hi];omega) (by rw[hK.hi];exact kg f) (fuel:=fuel) (by rw[hK.hi];omega) v
 rw[hK.hi] at hpl
 rw[hpl]
 rcases plc_lt (kg f) v with ⟨e,hno⟩|⟨j,e,hj,hx⟩
 ·refine⟨false,?_,⟨fun h=>(by cases h),fun h=>absurd h.1 hno⟩⟩
  rw[e]
  simp only[Option.bind_some,has_ok hs.1 (show(idl f).length≤4294967296 by omega) fuel (-1)]
  simp
 ·refine⟨bH s j,?_,?_⟩
  ·rw[e]
   simp only[Option.bind_some,has_ok hs.1 (show(idl f).length≤4294967296 by omega) fuel (j:Int)]
   have:(decide (0≤(j:Int)∧(j:Int)<((idl f).length:Int)))=true:=by simp;omega
   rw[this]
   simp
  ·rw[hs.2 j v hx]
   exact⟨fun h=>⟨List.mem_of_getElem? hx,h⟩,fun h=>h.2⟩
end
end Go.Proofs.YtmogcnnhbmaffaaGreat.PL
set_option linter.unusedVariables false
set_option linter.unusedSectionVars false
set_option linter.unusedSimpArgs false
namespace Go.Proofs.YtmogcnnhbmaffaaGreat.PL
open Go
abbrev FU:Nat:=1152921504606846976
theorem bidx_nat{s:ByteArray}{k:Nat}(h:k<s.size): ∃c:Nat,bidx s (k:Int)=some (c:Int):=by
 unfold bidx
 rw[if_pos (by omega)]
 have h2:k<s.data.size:=h
 refine⟨(s.data[k]).toNat,?_⟩
 rw[show((k:Int)).toNat=k by omega,Array.getElem?_eq_getElem h2]
 rfl
def cls(f:Fnc)(v:Int):Option Int:=(f.regs.find? fun r=>decide (r.id=v)).map fun r=>r.cls
theorem find_take{α:Type}{p:α→Bool}{l:List α}{k:Nat}(h: ∀y∈l.take k,p y=false){x:α}(hx:l[k]?=some x)(hp:p x=true):l.find? p=some x:=by
 have e:l=l.take k++x::l.drop (k+1):=by
  have hk:=(List.getElem?_eq_some_iff.1 hx).1
  have:=(List.getElem?_eq_some_iff.1 hx).2
  rw[←this,←List.drop_eq_getElem_cons hk,List.take_append_drop]
 rw[e,List.find?_append]
 have:(l.take k).find? p=none:=by
  rw[List.find?_eq_none]
  intro y hy;rw[h y hy];simp
 rw[this]
 simp[hp]
theorem class_ok{f:Fnc}(hr:f.regs.length≤1048576){fuel:Nat}(hf:1048577<fuel)(v:Int):pzb fuel f v=some ((cls f v).getD 0,(cls f v).isSome):=by
 unfold pzb
 have key:=yO (ρ:=Int×Bool) (fun q:Int=> ∃k:Nat,q=k∧k≤f.regs.length∧ ∀r∈f.regs.take k,decide (r.id=v)=false) (fun _=> ∀r∈f.regs,decide (r.id=v)=false) (fun w=> ∃r,f.regs.find? (fun r=>decide (r.id=v))=some r∧w=(r.cls,true)) (fun q=>f.regs.length-q.toNat) (fun q=>pza fuel f v q) (by
  rintro q ⟨k,rfl,hk,hA⟩
  unfold pza
  by_cases h:k<f.regs.length
  ·have hlt:(k:Int)<(f.regs.length:Int):=by omega
   obtain⟨r,hx⟩:=getAt (xs:=f.regs) (i:=k) h
   simp only[hlt,decide_true,if_true,zp hx,Option.bind_some]
   by_cases c:r.id=v
   ·refine .inr (.inr ⟨_,by rw[if_pos (by simp[c])],r,find_take hA hx (by simp[c]),rfl⟩)
   ·refine .inl ⟨_,by rw[if_neg (by simp[c])],⟨k+1,wrap1 (by omega),by omega,fun y hy=>?_⟩,by rw[wrap1 (by omega)];omega⟩
    rw[List.take_add_one,hx] at hy
    rcases List.mem_append.1 hy with hy|hy
    ·exact hA y hy
    ·rw[Option.toList_some,List.mem_singleton] at hy
     subst hy;simp[c]
  ·have hlt: ¬(k:Int)<(f.regs.length:Int):=by omega
   simp only[hlt,decide_false,Bool.false_eq_true,if_false]
   rw[List.take_of_length_le (by omega)] at hA
   exact .inr (.inl ⟨_,rfl,hA⟩)) fuel 0 ⟨0,rfl,by omega,by simp⟩ (by simp;omega)
 rcases key with ⟨q,h1,h2⟩|⟨w,h1,r,h2,rfl⟩
 ·rw[h1]
  have:cls f v=none:=by
   unfold cls
   rw[List.find?_eq_none.2 (fun r hr=>by rw[h2 r hr];simp)];rfl
  rw[this];rfl
 ·rw[h1]
  have:cls f v=some r.cls:=by unfold cls;rw[h2];rfl
  rw[this];rfl
end Go.Proofs.YtmogcnnhbmaffaaGreat.PL
set_option linter.unusedVariables false
set_option linter.unusedSectionVars false
set_option linter.unusedSimpArgs false
set_option maxRecDepth 100000
namespace Go.Proofs.YtmogcnnhbmaffaaGreat.PL
open Go
end Go.Proofs.YtmogcnnhbmaffaaGreat.PL
set_option linter.unusedVariables false
set_option linter.unusedSectionVars false
set_option linter.unusedSimpArgs false
set_option maxRecDepth 100000
namespace Go.Proofs.YtmogcnnhbmaffaaGreat.PL
open Go
end Go.Proofs.YtmogcnnhbmaffaaGreat.PL
set_option linter.unusedVariables false
set_option linter.unusedSectionVars false
set_option linter.unusedSimpArgs false
set_option maxRecDepth 100000
namespace Go.Proofs.YtmogcnnhbmaffaaGreat.PL
open Go
section
variable {f:Fnc} (hn:fBk f)
include hn
end
end Go.Proofs.YtmogcnnhbmaffaaGreat.PL
set_option linter.unusedVariables false
set_option linter.unusedSectionVars false
set_option linter.unusedSimpArgs false
set_option maxRecDepth 100000
namespace Go.Proofs.YtmogcnnhbmaffaaGreat.PL
open Go
theorem works_ok:pz3q FU=some true:=by decide+kernel
section
variable {f:Fnc} (hn:fBk f)
include hn
end
end Go.Proofs.YtmogcnnhbmaffaaGreat.PL
set_option linter.unusedVariables false
set_option linter.unusedSimpArgs false
set_option maxRecDepth 100000
namespace Go.Proofs.YtmogcnnhbmaffaaGreat.PL
open Go
def bt(s:ByteArray)(k:Nat):Int:=(bidx s (k:Int)).getD 0
theorem bt_ok{s:ByteArray}{k:Nat}(h:k<s.size):bidx s (k:Int)=some (bt s k):=by
 obtain⟨c,e⟩:=bidx_nat h
 unfold bt
 rw[e];rfl
def lt8(c:Int):Bool:=((decide (97≤c))&&(decide (c≤122)))||(decide (c=95))
def sg8(c:Int):Bool:=lt8 c||((decide (48≤c))&&(decide (c≤57)))
def rightG(s:ByteArray)(k:Nat):Option Bool:=if sg8 (bt s k)=true then none else some false
def rightB(s:ByteArray):Bool:=if s.size<1∨24<s.size then false else if lt8 (bt s 0)=true then(fsc s.size (rightG s)).isNone else false
theorem size0{s:ByteArray}:s=(⟨#[]⟩:ByteArray)↔s.size<1:=by
 constructor
 ·rintro rfl;decide
 ·intro h
  have h1:s.data.size=0:=by have:s.size=s.data.size:=rfl;omega
  have:s.data= #[]:=Array.eq_empty_of_size_eq_zero h1
  cases s;simp_all
theorem fsc_isNone{s:ByteArray}{v:Bool}(h:fsc s.size (rightG s)=some v):v=false:=by
 obtain⟨i,_,h⟩:=yr h
 unfold rightG at h
 split at h
 ·cases h
 ·cases h;rfl
theorem right_code{fuel:Nat}(hf:100<fuel)(s:ByteArray):pz5 fuel s=some (rightB s):=by
 unfold pz5 rightB
 by_cases c:s.size<1∨24<s.size
 ·have hc:((decide (s=(⟨#[]⟩:ByteArray)))||(decide (24<(s.size:Int))))=true:=by
   rw[Bool.or_eq_true,decide_eq_true_eq,decide_eq_true_eq,size0];omega
  rw[if_pos hc,if_pos c];rfl
 ·have hc: ¬((decide (s=(⟨#[]⟩:ByteArray)))||(decide (24<(s.size:Int))))=true:=by
   rw[Bool.or_eq_true,decide_eq_true_eq,decide_eq_true_eq,size0];omega
  rw[if_neg hc,if_neg c]
  have e0:=bt_ok (s:=s) (k:=0) (by omega)
  rw[show((0:Nat):Int)=0 from rfl] at e0
  simp only[e0,Option.bind_some,pz2]
  show(if(!lt8 (bt s 0))=true then _ else _)=_
  cases hl:lt8 (bt s 0)
  ·rfl
  ·have key:=yk (F:=fun q=>pz4 fuel s q) (n:=s.size) (rightG s) (fuel:=fuel) (by omega) (by
    intro k hk
    have hlt:(k:Int)<(s.size:Int):=by omega
    simp only[pz4,hlt,decide_true,if_true,bt_ok hk,Option.bind_some,pz3,pz2]
    show(if(!sg8 (bt s k))=true then _ else _)=_
    unfold rightG
    cases sg8 (bt s k)
    ·rfl
    ·simp only[Bool.not_true,Bool.false_eq_true,if_false,if_true,wrap1 (show k≤4294967296 by omega)];rfl) (by
    simp only[pz4,Int.lt_irrefl,decide_false,Bool.false_eq_true,if_false])
   simp only[Bool.not_true,Bool.false_eq_true,if_false,if_true,key]
   cases h:fsc s.size (rightG s) with
   |none=>rfl
   |some v=>rw[fsc_isNone h];rfl
def inI(n:Int):Bool:=(decide (0≤n))&&(decide (n≤2147483647))
def plainB(o:Opd):Bool:=
 if o.kind=0 then decide (o=(⟨0,0,0,0⟩:Opd)) else
 if o.kind=1 then(inI o.n&&decide (o.cls=0))&&decide (o.tag=0) else
 if o.kind=4 then decide (o.cls=0)&&decide (o.tag=0) else
 if o.kind=2 then((decide (o.cls=0)||decide (o.cls=1))&&inI o.n)&&inI o.tag else
 if o.kind=3 then(decide (o.cls=0)&&inI o.n)&&inI o.tag else false
theorem class_canon(fuel:Nat)(c:Int):pz16 fuel c=some (decide (c=0)||decide (c=1)):=by
 unfold pz16 pz15
 by_cases h:((decide (c<0))||(decide (2≤c)))=true
 ·rw[if_pos h]
  simp only[Bool.or_eq_true,decide_eq_true_eq] at h
  have:c≠0∧c≠1:=by omega
  simp[this.1,this.2]
 ·rw[if_neg h]
  simp only[Bool.or_eq_true,decide_eq_true_eq] at h
  have:c=0∨c=1:=by omega
  rcases this with rfl|rfl<;>decide+kernel
theorem plain_code(fuel:Nat)(o:Opd):pz17 fuel o=some (plainB o):=by
 unfold pz17 plainB
 simp only[pz14,pz13,class_canon,Option.bind_some]
 have e: ∀n:Int,((decide (0≤n))&&(decide (n≤2147483647)))=inI n:=fun _=>rfl
 simp only[e,decide_eq_true_eq]
 by_cases k0:o.kind=0
 ·simp only[if_pos k0]
  congr 1
  obtain⟨a,b,c,d⟩:=o
  simp only at k0
  subst k0
  by_cases h1:b=0<;>by_cases h2:c=0<;>by_cases h3:d=0<;>simp[h1,h2,h3]
 ·simp only[if_neg k0]
  by_cases k1:o.kind=1
  ·simp only[if_pos k1]
   cases inI o.n<;>cases decide (o.cls=0)<;>cases decide (o.tag=0)<;>rfl
  ·simp only[if_neg k1]
   by_cases k4:o.kind=4
   ·simp only[if_pos k4]
   ·simp only[if_neg k4]
    by_cases k2:o.kind=2
    ·simp only[if_pos k2]
     cases (decide (o.cls=0)||decide (o.cls=1))<;>cases inI o.n<;>cases inI o.tag<;>rfl
    ·simp only[if_neg k2]
     by_cases k3:o.kind=3
     ·simp only[if_pos k3]
      by_cases h:o.cls=0<;>simp only[h,if_true,if_false,decide_true,decide_false]<;>cases inI o.n<;>cases inI o.tag<;>rfl
     ·simp only[if_neg k3]
theorem call_code{fuel:Nat}(hf:100<fuel)(o:Opd):pz1e fuel [o]=some (plainB o):=by
 unfold pz1e pz1d pz1c
 have h1:pz1a fuel o 115=some (!plainB o):=by unfold pz1a pz19;rw[if_pos rfl,plain_code];rfl
 have key:=yk (F:=fun q=>pz1b fuel [o] 115 q) (n:=1) (fun _=>if plainB o=true then none else some 0) (fuel:=fuel) (by omega) (by
  intro k hk
  have:k=0:=by omega
  subst this
  unfold pz1b
  have hi:idx [o] ((0:Nat):Int)=some o:=rfl
  have hlt:((0:Nat):Int)<(([o]:List Opd).length:Int):=by simp
  simp only[hlt,decide_true,if_true,hi,Option.bind_some,h1]
  cases plainB o<;>rfl) rfl
 have e:fsc 1 (fun _=>if plainB o=true then none else some (0:Int))=if plainB o=true then none else some 0:=by cases plainB o<;>rfl
 rw[e] at key
 simp only[key]
 cases plainB o<;>rfl
theorem canon_code(o:Opd):pz1p FU (⟨23,(⟨0,0,0,0⟩:Opd),([o]:List Opd),(⟨#[]⟩:ByteArray),0,[],[]⟩:Ins)=some (plainB o):=by
 have h1:pzu FU 23=some (1,1):=by decide+kernel
 have h2:pzq FU 23=some true:=by decide+kernel
 have h3:pz18 FU (⟨0,0,0,0⟩:Opd)=some true:=by decide+kernel
 have h4:pz1n FU (⟨23,(⟨0,0,0,0⟩:Opd),([o]:List Opd),(⟨#[]⟩:ByteArray),0,[],[]⟩:Ins)=some true:=by
  unfold pz1n
  have a1:pzw FU 23 0=some 0:=by decide+kernel
  have a2:pz1m FU ([]:List ByteArray)=some false:=by decide+kernel
  simp only[List.length_nil,a2,Option.bind_some]
  show(if _ then _ else(pzw FU 23 0).bind _)=_
  rw[a1];rfl
 have h5:pz1o FU (⟨23,(⟨0,0,0,0⟩:Opd),([o]:List Opd),(⟨#[]⟩:ByteArray),0,[],[]⟩:Ins)=some true:=by
  unfold pz1o
  simp
 unfold pz1p
 simp only[h1,h2,h3,h4,h5,Option.bind_some,call_code (show 100<FU by decide) o]
 cases plainB o<;>simp
end Go.Proofs.YtmogcnnhbmaffaaGreat.PL
set_option linter.unusedVariables false
set_option linter.unusedSimpArgs false
set_option maxRecDepth 100000
namespace Go.Proofs.YtmogcnnhbmaffaaGreat.PL
open Go
def takB(op i k:Int):Bool:=(pz42 FU op i k false).getD false
def fitB(op i c:Int):Bool:=(pz43 FU op i c).getD false
theorem tak_tab: ∀(o:Fin 28) (a:Fin 9) (k:Fin 5),((pz1r FU (o.val:Int) ((a.val:Int)-1) (k.val:Int) false==some (takB (o.val:Int) ((a.val:Int)-1) (k.val:Int)))&&(pz42 FU (o.val:Int) ((a.val:Int)-1) (k.val:Int) false==some (takB (o.val:Int) ((a.val:Int)-1) (k.val:Int))))=true:=by decide+kernel
theorem fit_tab: ∀(o:Fin 28) (a:Fin 9) (c:Fin 2),((pz1u FU (o.val:Int) ((a.val:Int)-1) (c.val:Int)==some (fitB (o.val:Int) ((a.val:Int)-1) (c.val:Int)))&&(pz43 FU (o.val:Int) ((a.val:Int)-1) (c.val:Int)==some (fitB (o.val:Int) ((a.val:Int)-1) (c.val:Int))))=true:=by decide+kernel
theorem yzE{n:Nat}{x:Int}(h0:0≤x)(h:x<n): ∃a:Fin n,x=(a.val:Int):=⟨⟨x.toNat,by omega⟩,by simp;omega⟩
theorem tak_ok{op i k:Int}(ho:1≤op∧op≤27)(hi: -1≤i∧i≤7)(hk:0≤k∧k≤4):pz1r FU op i k false=some (takB op i k)∧pz42 FU op i k false=some (takB op i k):=by
 obtain⟨o,rfl⟩:=yzE (n:=28) (x:=op) (by omega) (by omega)
 obtain⟨a,ha⟩:=yzE (n:=9) (x:=i+1) (by omega) (by omega)
 obtain⟨k',rfl⟩:=yzE (n:=5) (x:=k) (by omega) (by omega)
 have:i=(a.val:Int)-1:=by omega
 subst this
 have h:=tak_tab o a k'
 rw[Bool.and_eq_true,beq_iff_eq,beq_iff_eq] at h
 exact h
theorem fit_ok{op i c:Int}(ho:1≤op∧op≤27)(hi: -1≤i∧i≤7)(hc:0≤c∧c<2):pz1u FU op i c=some (fitB op i c)∧pz43 FU op i c=some (fitB op i c):=by
 obtain⟨o,rfl⟩:=yzE (n:=28) (x:=op) (by omega) (by omega)
 obtain⟨a,ha⟩:=yzE (n:=9) (x:=i+1) (by omega) (by omega)
 obtain⟨k',rfl⟩:=yzE (n:=2) (x:=c) (by omega) (by omega)
 have:i=(a.val:Int)-1:=by omega
 subst this
 have h:=fit_tab o a k'
 rw[Bool.and_eq_true,beq_iff_eq,beq_iff_eq] at h
 exact h
def rowOk(op:Int):Option (yN×Bool)→Option (zl×Bool)→Option (Int×Int)→Option (Bool×Bool)→Bool
 |some (a,true),some (r,true),some (l,m),some (g,h)=>decide (a.labels=r.labels)&&(a.machine==decide (24≤op))&&(r.alone==decide (24≤op))&&decide (l=if op=19 then 0 else(r.args.length:Int))&&decide (m=(r.args.length:Int))&&(g==(!decide (r.dst=(⟨#[]⟩:ByteArray))&&!decide (op=19)))&&(h==!decide (r.dst=(⟨#[]⟩:ByteArray)))&&decide (r.args.length≤8)
 |_,_,_,_=>false
theorem row_tab: ∀o:Fin 27,rowOk ((o.val:Int)+1) (pzp FU ((o.val:Int)+1)) (pz3v FU ((o.val:Int)+1)) (pzu FU ((o.val:Int)+1)) (pzv FU ((o.val:Int)+1))=true:=by decide+kernel
structure RowAt (op:Int) (a:yN) (r:zl):Prop where
 find:pzp FU op=some (a,true)
 row:pz3v FU op=some (r,true)
 args:pzu FU op=some (if op=19 then 0 else(r.args.length:Int),(r.args.length:Int))
 gives:pzv FU op=some (!decide (r.dst=(⟨#[]⟩:ByteArray))&&!decide (op=19),!decide (r.dst=(⟨#[]⟩:ByteArray)))
 lab:a.labels=r.labels
 mach:a.machine=decide (24≤op)
 alone:r.alone=decide (24≤op)
 len:r.args.length≤8
theorem row_at{op:Int}(h:1≤op∧op≤27): ∃a r,RowAt op a r:=by
 obtain⟨o,ho⟩:=yzE (n:=27) (x:=op-1) (by omega) (by omega)
 have e:op=(o.val:Int)+1:=by omega
 have t:=row_tab o
 rw[←e] at t
 generalize ea:pzp FU op=A at t
 generalize er:pz3v FU op=R at t
 generalize eg:pzu FU op=G at t
 generalize ei:pzv FU op=I at t
 rcases A with _|⟨a,_|_⟩<;>rcases R with _|⟨r,_|_⟩<;>rcases G with _|⟨l,m⟩<;>rcases I with _|⟨g,k⟩<;>try (exact absurd (show false=true from t) (by decide))
 simp only[rowOk,Bool.and_eq_true,decide_eq_true_eq,beq_iff_eq] at t
 obtain⟨⟨⟨⟨⟨⟨⟨t1,t2⟩,t3⟩,t4⟩,t5⟩,t6⟩,t7⟩,t8⟩:=t
 exact⟨a,r,ea,er,by rw[eg,t4,t5],by rw[ei,t6,t7],t1,t2,t3,t8⟩
theorem no_op{op:Int}(h: ¬(1≤op∧op≤27))(fuel:Nat):(∃a,pzp fuel op=some (a,false))∧ ∃r,pz3v FU op=some (r,false):=by
 constructor
 ·unfold pzp
  rw[if_neg (by simp only[Bool.and_eq_true,decide_eq_true_eq];omega)]
  repeat rw[if_neg (by rw[decide_eq_true_eq];omega)]
  exact⟨_,rfl⟩
 ·have h1:(pz3u FU).map List.length=some 27:=by decide+kernel
  unfold pz3v
  cases e:pz3u FU with
  |none=>rw[e] at h1;cases h1
  |some l=>
   rw[e] at h1
   have:l.length=27:=by simpa using h1
   rw[Option.bind_some,this,if_pos (by simp only[Bool.or_eq_true,decide_eq_true_eq];omega)]
   exact⟨_,rfl⟩
def arF(p q l d e c19 c22 cs nm o0 o17 o18:Bool):Bool:=(((((!p)&&(!q))&&(d||!((!e)&&!c19)))&&((!e)||!d))&&l)&&(c22||!cs)&&(c19||nm)&&((o17||o18)||o0)
theorem ar_ref: ∀p q l d e c19 c22 cs nm o0 o17 o18:Bool,(if((p||q)||!l)=true then some false else if((((!d)&&(!e))&&!c19)||(d&&e))=true then some false else if(((!c22)&&cs)||((!c19)&&!nm))=true then some false else some ((o0||o17)||o18))=some (arF p q l d e c19 c22 cs nm o0 o17 o18):=by decide+kernel
theorem ar_code: ∀p q l d e c19 c22 cs nm o0 o17 o18:Bool,((if((((!p)&&(!q))&&(d||(!((!e)&&!c19))))&&((!e)||(!d)))=true then some l else some false).bind fun b1=>some (((b1&&(c22||(!cs)))&&(c19||nm))&&((o17||o18)||o0)))=some (arF p q l d e c19 c22 cs nm o0 o17 o18):=by decide+kernel
theorem ar_q: ∀p q l d e c19 c22 cs nm o0 o17 o18:Bool,arF p q l d e c19 c22 cs nm o0 o17 o18=true→q=false:=by decide+kernel
def arX(x:Ins)(r:zl):Bool:=arF (decide ((x.args.length:Int)<if x.op=19 then 0 else(r.args.length:Int))) (decide ((r.args.length:Int)<(x.args.length:Int))) (decide ((x.labels.length:Int)=if r.labels<0 then IntKind.wrap .i64 ((x.cases.length:Int)+1) else r.labels)) (decide (x.dst.kind≠0)) (decide (r.dst=(⟨#[]⟩:ByteArray))) (decide (x.op=19)) (decide (x.op=22)) (decide (0<(x.cases.length:Int))) (decide (x.name=(⟨#[]⟩:ByteArray))) (decide (x.off=0)) (decide (x.op=17)) (decide (x.op=18))
theorem arity_eq{x:Ins}{a:yN}{r:zl}(h:RowAt x.op a r):pzx FU x=some (arX x r)∧pz3w FU x r=some (arX x r)∧(arX x r=true→x.args.length≤r.args.length):=by
 have hl: ∀c:Int,pzw FU x.op c=some (if r.labels<0 then IntKind.wrap .i64 (c+1) else r.labels):=by
  intro c
  unfold pzw
  rw[h.find,Option.bind_some]
  show(if decide (a.labels<0)=true then _ else some a.labels)=_
  rw[h.lab]
  by_cases k:r.labels<0<;>simp[k]
 have n1: ∀a b:Int,decide (a≤b)=!decide (b<a):=by intro a b;by_cases k:b<a<;>simp[k]<;>omega
 have n0:decide ((x.cases.length:Int)=0)=!decide (0<(x.cases.length:Int)):=by
  by_cases k:(x.cases.length:Int)=0
  ·have: ¬(0:Int)<(x.cases.length:Int):=by omega
   simp only[k,this,decide_true,decide_false,Bool.not_false];rfl
  ·have:(0:Int)<(x.cases.length:Int):=by omega
   simp only[k,this,decide_true,decide_false,Bool.not_true]
 refine⟨?_,?_,fun t=>?_⟩
 ·unfold pzx
  rw[h.args,h.gives,hl,n0]
  simp only[Option.bind_some,n1]
  exact ar_code _ _ _ _ _ _ _ _ _ _ _ _
 ·have l1:(if decide (x.op=19)=true then some 0 else some (r.args.length:Int):Option Int)=some (if x.op=19 then 0 else(r.args.length:Int)):=by by_cases k:x.op=19<;>simp[k]
  have l2:(if decide (r.labels<0)=true then some (IntKind.wrap .i64 ((x.cases.length:Int)+1)) else some r.labels:Option Int)=some (if r.labels<0 then IntKind.wrap .i64 ((x.cases.length:Int)+1) else r.labels):=by by_cases k:r.labels<0<;>simp[k]
  unfold pz3w
  rw[l1,l2]
  simp only[Option.bind_some]
  have m1: ∀(α:Type) [DecidableEq α] (a b:α),decide (a≠b)=!decide (a=b):=by intro α _ a b;by_cases k:a=b<;>simp[k]
  rw[m1 Int (x.labels.length:Int),m1 Int x.op 22,m1 Int x.op 19,m1 ByteArray x.name,m1 ByteArray r.dst]
  have m2:decide (x.dst.kind=0)=!decide (x.dst.kind≠0):=by by_cases k:x.dst.kind=0<;>simp[k]
  rw[m2]
  exact ar_ref _ _ _ _ _ _ _ _ _ _ _ _
 ·have:=ar_q _ _ _ _ _ _ _ _ _ _ _ _ t
  rw[decide_eq_false_iff_not] at this
  omega
end Go.Proofs.YtmogcnnhbmaffaaGreat.PL
set_option linter.unusedVariables false
set_option linter.unusedSimpArgs false
set_option maxRecDepth 100000
namespace Go.Proofs.YtmogcnnhbmaffaaGreat.PL
open Go
def opE(f:Fnc)(op i:Int)(o:Opd):Option Int:=
 if(plainB o&&takB op i o.kind)=true then(if o.kind=1 then(match cls f o.n with|none=>some 38|some d=>if fitB op i d=true then none else some 37) else none) else some 36
def opG(f:Fnc)(op:Int)(l:List Opd)(k:Nat):Option Int:=match l[k]? with|none=>none|some o=>opE f op ((k:Int)-1) o
def labG(f:Fnc)(l:List ByteArray)(k:Nat):Option Int:=match l[k]? with|none=>none|some s=>if fnd f s= -1 then some 32 else if fnd f s=0 then some 33 else none
def casG(l:List Int)(k:Nat):Option Int:=match l[k]? with|none=>none|some v=>if 16<l.length∨v∈l.take k then some 41 else none
def arB(x:Ins):Bool:=match pz3v FU x.op with|some (r,_)=>arX x r|none=>false
def goodOp(op:Int)(last:Bool):Prop:=(1≤op∧op≤23)∧last=((decide (20≤op))&&(decide (op≤23)))
instance (op:Int) (last:Bool):Decidable (goodOp op last):=by unfold goodOp;infer_instance
def insE(f:Fnc)(x:Ins)(last:Bool):Option Int:=
 if goodOp x.op last then(if arB x=true then(if 64<x.name.size then some 3 else(fsc x.cases.length (casG x.cases)).or ((fsc (x.args.length+1) (opG f x.op (x.dst::x.args))).or (fsc x.labels.length (labG f x.labels)))) else some 35) else some 34
theorem opE_ne{f:Fnc}{op i:Int}{o:Opd}{c:Int}(h:opE f op i o=some c):c≠0:=by
 unfold opE at h
 split at h
 ·split at h
  ·split at h
   ·cases h;decide
   ·split at h
    ·cases h
    ·cases h;decide
  ·cases h
 ·cases h;decide
theorem insE_ne{f:Fnc}{x:Ins}{last:Bool}{c:Int}(h:insE f x last=some c):c≠0:=by
 unfold insE at h
 split at h
 ·split at h
  ·split at h
   ·cases h;decide
   ·rw[Option.or_eq_some_iff,Option.or_eq_some_iff] at h
    rcases h with h|⟨_,h|⟨_,h⟩⟩
    ·obtain⟨i,_,h⟩:=yr h
     unfold casG at h
     split at h
     ·cases h
     ·split at h
      ·cases h;decide
      ·cases h
    ·obtain⟨i,_,h⟩:=yr h
     unfold opG at h
     split at h
     ·cases h
     ·exact opE_ne h
    ·obtain⟨i,_,h⟩:=yr h
     unfold labG at h
     split at h
     ·cases h
     ·split at h
      ·cases h;decide
      ·split at h
       ·cases h;decide
       ·cases h
  ·cases h;decide
 ·cases h;decide
theorem plain_kind{o:Opd}(h:plainB o=true):0≤o.kind∧o.kind≤4:=by
 unfold plainB at h
 by_cases h0:o.kind=0
 ·omega
 rw[if_neg h0] at h
 by_cases h1:o.kind=1
 ·omega
 rw[if_neg h1] at h
 by_cases h4:o.kind=4
 ·omega
 rw[if_neg h4] at h
 by_cases h2:o.kind=2
 ·omega
 rw[if_neg h2] at h
 by_cases h3:o.kind=3
 ·omega
 rw[if_neg h3] at h
 cases h
theorem cls_mem{f:Fnc}{v d:Int}(h:cls f v=some d): ∃g∈f.regs,g.id=v∧g.cls=d:=by
 unfold cls at h
 rw[Option.map_eq_some_iff] at h
 obtain⟨g,h1,h2⟩:=h
 have:=List.find?_some h1
 exact⟨g,List.mem_of_find?_eq_some h1,by simpa using this,h2⟩
section
variable {f:Fnc} (hn:fBk f) (hG: ∀g∈f.regs,0≤g.cls∧g.cls<2)
include hn hG
theorem operand_code{x:Ins}(ho:1≤x.op∧x.op≤27){i:Int}(hi: -1≤i∧i≤7)(o:Opd):pz1v FU ⟨f⟩ x i o=some ((opE f x.op i o).getD 0):=by
 unfold pz1v opE
 rw[canon_code]
 cases hp:plainB o
 ·rfl
 ·simp only[Option.bind_some,Bool.not_true,Bool.false_eq_true,if_false,Bool.true_and,(tak_ok ho hi (plain_kind hp)).1]
  cases takB x.op i o.kind
  ·rfl
  ·simp only[Bool.not_true,Bool.false_eq_true,if_false,if_true]
   by_cases k1:o.kind=1
   ·simp only[k1,ne_eq,not_true,decide_false,Bool.false_eq_true,if_false,if_true,class_ok hn.2.1 (show 1048577<FU by decide),Option.bind_some]
    cases h:cls f o.n with
    |none=>rfl
    |some d=>
     obtain⟨g,hg,_,rfl⟩:=cls_mem h
     simp only[Option.isSome_some,Bool.not_true,Bool.false_eq_true,if_false,Option.getD_some,(fit_ok ho hi (hG g hg)).1,Option.bind_some]
     cases fitB x.op i g.cls<;>rfl
   ·simp only[k1,ne_eq,not_false_eq_true,decide_true,if_true,if_false];rfl
theorem twice_code{x:Ins}(hc:x.cases.length≤1048576):(if(decide (16<(x.cases.length:Int)))=true then some true else(pz12 FU x.cases).bind fun r5=>some r5)=some (fsc x.cases.length (casG x.cases)).isSome:=by
 by_cases c:(16:Int)<(x.cases.length:Int)
 ·rw[if_pos (by simpa using c)]
  obtain⟨v,hv⟩:=getAt (xs:=x.cases) (i:=0) (by omega)
  have:casG x.cases 0=some 41:=by unfold casG;rw[hv];simp only;rw[if_pos (by left;omega)]
  rw[fsc_at (by omega) this fun j h=>by omega];rfl
 ·rw[if_neg (by simpa using c)]
  unfold pz12
  have key:=yk (F:=fun s=>pz11 FU x.cases s) (n:=x.cases.length) (fun k=>(casG x.cases k).map fun _=>true) (fuel:=FU) (by have:FU=1152921504606846976:=rfl;omega) (by
   intro k hk
   obtain⟨v,hv⟩:=getAt hk
   have hlt:(k:Int)<(x.cases.length:Int):=by omega
   have hs:sli x.cases 0 (k:Int)=some (x.cases.take k):=by unfold sli;rw[if_pos (by omega)];simp
   have h16: ¬16<x.cases.length:=by omega
   simp only[pz11,hlt,decide_true,if_true,zp hv,Option.bind_some,hs,in_sl (l:=x.cases.take k) (by simp;omega) (fuel:=FU) (by have:FU=1152921504606846976:=rfl;simp;omega),casG,hv,h16,false_or]
   by_cases m:v∈x.cases.take k
   ·simp only[m,decide_true,if_true];rfl
   ·simp only[m,decide_false,Bool.false_eq_true,if_false,wrap1 (show k≤4294967296 by omega)];rfl) (by
   simp[pz11])
  rw[key]
  cases h:fsc x.cases.length (casG x.cases) with
  |none=>
   have:fsc x.cases.length (fun k=>(casG x.cases k).map fun _=>true)=none:=by
    rw[fsc_none] at h ⊢
    intro i hi
    simp only[h i hi,Option.map_none]
   rw[this];rfl
  |some v=>
   cases h2:fsc x.cases.length (fun k=>(casG x.cases k).map fun _=>true) with
   |none=>
    exfalso
    obtain⟨i,hi,h⟩:=yr h
    rw[fsc_none] at h2
    have:=h2 i hi
    rw[h] at this
    cases this
   |some b=>
    obtain⟨i,_,h2⟩:=yr h2
    cases h3:casG x.cases i with
    |none=>rw[h3] at h2;cases h2
    |some w=>rw[h3] at h2;cases h2;rfl
theorem labels_code{l:List ByteArray}(hl:l.length≤1048576){x:Ins}(hx:x.labels=l):loopE FU (fun s=>pz1x FU ⟨f⟩ x s) 0=some (exS (l.length:Int) (fsc l.length (labG f l))):=by
 subst hx
 have hFU:FU=1152921504606846976:=rfl
 refine yk _ (by omega) ?_ (by simp[pz1x])
 intro k hk
 obtain⟨s,hv⟩:=getAt hk
 have hlt:(k:Int)<(x.labels.length:Int):=by omega
 simp only[pz1x,hlt,decide_true,if_true,zp hv,Option.bind_some,fnd_ir hn.1 (show 1048576<FU by decide),labG,hv]
 by_cases c:fnd f s= -1
 ·rw[if_pos (by simpa using c),if_pos c];rfl
 ·rw[if_neg (by simpa using c),if_neg c]
  by_cases c0:fnd f s=0
  ·rw[if_pos (by simpa using c0),if_pos c0];rfl
  ·rw[if_neg (by simpa using c0),if_neg c0,wrap1 (by omega)];rfl
theorem ops_code{x:Ins}(ho:1≤x.op∧x.op≤27)(hl:x.args.length≤8):loopE FU (fun s=>pz1w FU ⟨f⟩ x (x.dst::x.args) s) 0=some (exS ((x.args.length+1:Nat):Int) (fsc (x.args.length+1) (opG f x.op (x.dst::x.args)))):=by
 have hFU:FU=1152921504606846976:=rfl
 refine yk _ (by omega) ?_ (by simp[pz1w])
 intro k hk
 obtain⟨o,hg⟩:=getAt (xs:=x.dst::x.args) (i:=k) (by simp;omega)
 have hlt:(k:Int)<((x.dst::x.args).length:Int):=by simp;omega
 simp only[pz1w,hlt,decide_true,if_true,zp hg,Option.bind_some,zz (x:=(k:Int)-1) (by omega) (by omega),operand_code hn hG ho (i:=(k:Int)-1) (by omega),opG,hg]
 cases h:opE f x.op ((k:Int)-1) o with
 |none=>simp only[Option.getD_none,ne_eq,not_true,decide_false,Bool.false_eq_true,if_false,wrap1 (show k≤4294967296 by omega)];rfl
 |some c=>simp only[Option.getD_some,ne_eq,opE_ne h,not_false_eq_true,decide_true,if_true];rfl
theorem last_b(op:Int)(last:Bool):(((decide (20≤op))&&(decide (op≤23))) !=last)=!decide (last=((decide (20≤op))&&(decide (op≤23)))):=by
 generalize ((decide (20≤op))&&(decide (op≤23)))=b
 cases b<;>cases last<;>rfl
theorem instr_code{b:Bl}(hb:b∈f.blocks){x:Ins}(hx:x∈b.code)(last:Bool):pz1y FU ⟨f⟩ x last=some ((insE f x last).getD 0):=by
 have hi:=hn.2.2.2 b hb x hx
 have hlb:=(hn.1.2 b hb).2 x hx
 unfold pz1y insE pzq pzr pzs
 by_cases ho:1≤x.op∧x.op≤27
 ·obtain⟨a,r,R⟩:=row_at ho
  obtain⟨a1,a2,a3⟩:=arity_eq R
  have e:arB x=arX x r:=by unfold arB;rw[R.row]
  rw[R.find]
  simp only[Option.bind_some,Bool.not_true,Bool.false_eq_true,if_false,R.mach,last_b hn hG]
  by_cases h24:24≤x.op
  ·have: ¬goodOp x.op last:=fun h=>by have:=h.1;omega
   simp only[h24,decide_true,if_true,Option.bind_some,this,if_false];rfl
  ·simp only[h24,decide_false,Bool.false_eq_true,if_false,Option.bind_some]
   by_cases hl:last=((decide (20≤x.op))&&(decide (x.op≤23)))
   ·have g:goodOp x.op last:=⟨by omega,hl⟩
    rw[if_pos g]
    simp only[←hl,decide_true,Bool.not_true,Bool.false_eq_true,if_false,a1,Option.bind_some]
    rw[e]
    cases ha:arX x r
    ·rfl
    ·have hal:=a3 ha
     have hrl:=R.len
     simp only[Bool.not_true,Bool.false_eq_true,if_false,if_true]
     by_cases hm:64<x.name.size
     ·rw[if_pos (by simp;omega),if_pos hm];rfl
     ·rw[if_neg (by simp;omega),if_neg hm]
      have hap:app ([x.dst]:List Opd) x.args=some (x.dst::x.args):=by rw[yf (by simp;omega)];rfl
      simp only[twice_code hn hG hi.2,Option.bind_some,hap,ops_code hn hG ho (by omega),labels_code hn hG hlb rfl]
      cases hcs:fsc x.cases.length (casG x.cases) with
      |some c=>
       obtain⟨i,_,hc⟩:=yr hcs
       have:c=41:=by
        unfold casG at hc
        split at hc
        ·cases hc
        ·split at hc
         ·cases hc;rfl
         ·cases hc
       subst this;rfl
      |none=>
       simp only[Option.isSome_none,Bool.false_eq_true,if_false,Option.none_or]
       cases fsc (x.args.length+1) (opG f x.op (x.dst::x.args)) with
       |some c=>rfl
       |none=>
        cases fsc x.labels.length (labG f x.labels)<;>rfl
   ·have g: ¬goodOp x.op last:=fun h=>hl h.2
    rw[if_neg g]
    simp only[hl,decide_false,Bool.not_false,if_true];rfl
 ·obtain⟨⟨a,ha⟩,_⟩:=no_op ho FU
  have: ¬goodOp x.op last:=fun h=>by have:=h.1;omega
  rw[ha,if_neg this];rfl
end
end Go.Proofs.YtmogcnnhbmaffaaGreat.PL
set_option linter.unusedVariables false
set_option linter.unusedSectionVars false
set_option linter.unusedSimpArgs false
namespace Go.Proofs.YtmogcnnhbmaffaaGreat.PL
open Go
theorem ke{ρ τ:Type}{n:Nat}{g:Nat→Option ρ}(h:ρ→τ):fsc n (fun k=>(g k).map h)=(fsc n g).map h:=by
 unfold fsc
 induction List.range n with
 |nil=>rfl
 |cons a l ih=>
  rw[List.findSome?_cons,List.findSome?_cons]
  cases g a with
  |none=>exact ih
  |some v=>rfl
theorem loopE_fsI{σ ρ:Type}{F:σ→Option (Ex σ ρ)}{n:Nat}{g:Nat→Option ρ}(I:Nat→σ→Prop)
  (hs: ∀k s,k<n→I k s→(∃v,g k=some v∧F s=some (.r v))∨(g k=none∧ ∃s',F s=some (.n s')∧I (k+1) s'))
  (he: ∀s,I n s→ ∃s',F s=some (.b s')∧I n s'):
  ∀(m k fuel:Nat) (s:σ),k+m=n→m<fuel→I k s→(∃v,(List.range' k m).findSome? g=some v∧loopE fuel F s=some (.r v))∨((List.range' k m).findSome? g=none∧ ∃s',loopE fuel F s=some (.n s')∧I n s'):=by
 intro m
 induction m with
 |zero=>
  intro k fuel s h hf hI
  obtain⟨q,rfl⟩:=Nat.exists_eq_succ_of_ne_zero (show fuel≠0 by omega)
  have:k=n:=by omega
  subst this
  obtain⟨s',e,hI'⟩:=he s hI
  exact .inr ⟨rfl,s',by rw[loopE,e];rfl,hI'⟩
 |succ m ih=>
  intro k fuel s h hf hI
  obtain⟨q,rfl⟩:=Nat.exists_eq_succ_of_ne_zero (show fuel≠0 by omega)
  rw[range'_cons,List.findSome?_cons]
  rcases hs k s (by omega) hI with ⟨v,h1,h2⟩|⟨h1,s',h2,h3⟩
  ·left
   rw[h1,loopE,h2]
   exact⟨v,rfl,rfl⟩
  ·rw[h1,loopE,h2]
   exact ih (k+1) q s' (by omega) (by omega) h3
theorem loopE_fsJ{σ ρ:Type}{F:σ→Option (Ex σ ρ)}{n:Nat}{g:Nat→Option ρ}(I:Nat→σ→Prop)
  (hs: ∀k s,k<n→I k s→(∃v,g k=some v∧F s=some (.r v))∨(g k=none∧ ∃s',F s=some (.n s')∧I (k+1) s'))
  (he: ∀s,I n s→ ∃s',F s=some (.b s')∧I n s') {fuel:Nat} (hf:n<fuel) {s:σ} (h0:I 0 s):(∃v,fsc n g=some v∧loopE fuel F s=some (.r v))∨(fsc n g=none∧ ∃s',loopE fuel F s=some (.n s')∧I n s'):=by
 unfold fsc
 rw[List.range_eq_range']
 exact loopE_fsI I hs he n 0 fuel s (by omega) hf h0
section
variable {f:Fnc} (hn:fBk f) {fuel:Nat} (hf:17592186044416<fuel)
include hn hf
end
end Go.Proofs.YtmogcnnhbmaffaaGreat.PL
set_option linter.unusedVariables false
set_option linter.unusedSectionVars false
set_option linter.unusedSimpArgs false
namespace Go.Proofs.YtmogcnnhbmaffaaGreat.PL
open Go
open Classical in
noncomputable def argV(f:Fnc)(b i:Nat)(l:List Opd)(k:Nat):Option (Int×Int×Int):=match l[k]? with|none=>none|some a=>if a.kind=1∧ ¬sr f b i a.n then some ((b:Int),(i:Int),a.n) else none
noncomputable def codV(f:Fnc)(b:Nat)(c:List Ins)(i:Nat):Option (Int×Int×Int):=match c[i]? with|none=>none|some x=>fsc x.args.length (argV f b i x.args)
noncomputable def blkV(f:Fnc)(b:Nat):Option (Int×Int×Int):=match f.blocks[b]? with|none=>none|some bl=>fsc bl.code.length (codV f b bl.code)
noncomputable def valV(f:Fnc):Option (Int×Int×Int):=fsc f.blocks.length (blkV f)
theorem cls_known{f:Fnc}(v:Int):(cls f v).isSome=true↔v∈idl f:=by
 rw[idl_mem]
 unfold cls
 rw[Option.isSome_map,List.find?_isSome]
 simp
open Classical in
theorem argV_at{f:Fnc}{b i:Nat}{l:List Opd}{j:Nat}{a:Opd}(h:l[j]?=some a):(a.kind=1∧ ¬sr f b i a.n→argV f b i l j=some ((b:Int),(i:Int),a.n))∧(¬(a.kind=1∧ ¬sr f b i a.n)→argV f b i l j=none):=by
 unfold argV
 rw[h]
 exact⟨fun c=>if_pos c,fun c=>if_neg c⟩
section code
variable {f:Fnc} (hn:fBk f) {fuel:Nat} (hf:17592186044416<fuel) {k:zL} (hK:KInv f k) (hC: ∀b'<f.blocks.length,clo f k b')
include hn hf hK hC
theorem val_b3{b i:Nat}{s:zG}(hs:isSr f b i s){x:Ins}(hx:x.args.length≤1048576):
  loopE fuel (fun s'=>pz3h fuel k (b:Int) (i:Int) s x s') 0=some (exS (x.args.length:Int) ((fsc x.args.length (argV f b i x.args)).map fun v=>(.r (.r (v.1,v.2.1,v.2.2,true)):Ex (Int×zG) (Ex Int (Int×Int×Int×Bool))))):=by
 rw[←ke]
 refine yk _ (by omega) ?_ (by simp[pz3h])
 intro j hj
 have hlt:(j:Int)<(x.args.length:Int):=by omega
 obtain⟨a,ha⟩:=getAt (xs:=x.args) (i:=j) hj
 obtain⟨c,e,hc⟩:=fst_has hn hf hK hC hs a.n
 obtain⟨pos,neg⟩:=argV_at (f:=f) (b:=b) (i:=i) ha
 simp only[pz3h,hlt,decide_true,if_true,zp ha,Option.bind_some]
 by_cases ck:a.kind=1
 ·simp only[ck,decide_true,if_true,e,Option.bind_some]
  cases c with
  |true=>
   rw[neg fun h=>h.2 (hc.1 rfl)]
   simp only[Bool.not_true,Bool.false_eq_true,if_false,wrap1 (show j≤4294967296 by omega)];rfl
  |false=>
   rw[pos ⟨ck,fun h=>by have:=hc.2 h;cases this⟩]
   rfl
 ·rw[neg fun h=>ck h.1]
  simp only[ck,decide_false,Bool.false_eq_true,if_false,Option.bind_some,wrap1 (show j≤4294967296 by omega)];rfl
theorem val_b2{b:Nat}{bl:Bl}(hb:f.blocks[b]?=some bl){s0:zG}(hs0:isSr f b 0 s0):
  (∃v,fsc bl.code.length (codV f b bl.code)=some v∧loopE fuel (fun s'=>pz3i fuel k (b:Int) bl s'.1 s'.2) (0,s0)=some (.r (.r (v.1,v.2.1,v.2.2,true))))∨
  (fsc bl.code.length (codV f b bl.code)=none∧ ∃q,loopE fuel (fun s'=>pz3i fuel k (b:Int) bl s'.1 s'.2) (0,s0)=some (.n q)):=by
 have hil:=zzG f
 have hr:=hn.2.1
 have hmem:bl∈f.blocks:=List.mem_of_getElem? hb
 have hcl:=(hn.1.2 bl hmem).1
 rcases loopE_fsJ (F:=fun s':Int×zG=>pz3i fuel k (b:Int) bl s'.1 s'.2) (n:=bl.code.length) (g:=fun i=>(codV f b bl.code i).map fun v=>(.r (v.1,v.2.1,v.2.2,true):Ex Int (Int×Int×Int×Bool)))
  (fun j q=>q.1=j∧isSr f b j q.2) (by
   rintro j ⟨q,s⟩ h ⟨hq,hs⟩
   simp only at hq hs
   subst hq
   obtain⟨x,hx⟩:=getAt (xs:=bl.code) (i:=j) h
   have hxm:x∈bl.code:=List.mem_of_getElem? hx
   have hxa:=(hn.2.2.2 bl hmem x hxm).1
   have hlt:(j:Int)<(bl.code.length:Int):=by omega
   have hcv:codV f b bl.code j=fsc x.args.length (argV f b j x.args):=by unfold codV;rw[hx]
   have hstep:pz3i fuel k (b:Int) bl (j:Int) s=bindE (loopE fuel (fun s'=>pz3h fuel k (b:Int) (j:Int) s x s') 0) (fun _=>(pz30 fuel k s x).bind fun r=>some (.n (IntKind.wrap .i64 ((j:Int)+1),r))) some:=by
    unfold pz3i
    simp only[hlt,decide_true,if_true,zp hx,Option.bind_some]
   rw[val_b3 hn hf hK hC hs hxa] at hstep
   rw[hcv]
   cases hg:fsc x.args.length (argV f b j x.args) with
   |some v=>
    left
    rw[hg] at hstep
    exact⟨_,rfl,hstep⟩
   |none=>
    right
    rw[hg] at hstep
    obtain⟨s',eg,hV',hB'⟩:=give_ok (k:=k) (by rw[hK.hi];omega) (by rw[hK.hi];exact kg f) (by rw[hK.hi];exact hs.1) (fuel:=fuel) (by rw[hK.hi];omega) x
    rw[hK.hi] at hV' hB'
    refine⟨rfl,(((j+1:Nat):Int),s'),?_,rfl,hV',fun jj v hv=>?_⟩
    ·show pz3i fuel k (b:Int) bl (j:Int) s=_
     rw[hstep]
     simp only[Option.map_none,exS,bindE,eg,Option.bind_some,wrap1 (show j≤4294967296 by omega)]
    ·show bH s' jj=true↔_
     rw[hB' jj,Bool.or_eq_true,hs.2 jj v hv,decide_eq_true_eq]
     have htk: ∀y,y∈bl.code.take (j+1)↔y∈bl.code.take j∨y=x:=by
      intro y;rw[List.take_add_one,hx];simp
     constructor
     ·rintro((h|⟨bl',h1,y,h2,h3⟩)|⟨v',h1,h2⟩)
      ·exact .inl h
      ·rw[hb] at h1;cases h1
       exact .inr ⟨bl,hb,y,(htk y).2 (.inl h2),h3⟩
      ·rw[hv] at h2;cases h2
       exact .inr ⟨bl,hb,x,(htk x).2 (.inr rfl),h1⟩
     ·rintro(h|⟨bl',h1,y,h2,h3⟩)
      ·exact .inl (.inl h)
      ·rw[hb] at h1;cases h1
       rcases (htk y).1 h2 with h2|rfl
       ·exact .inl (.inr ⟨bl,hb,y,h2,h3⟩)
       ·exact .inr ⟨v,h3,hv⟩) (by
   rintro⟨q,s⟩ ⟨hq,hs⟩
   simp only at hq hs
   subst hq
   refine⟨((bl.code.length:Int),s),?_,rfl,hs⟩
   show pz3i fuel k (b:Int) bl (bl.code.length:Int) s=_
   unfold pz3i
   rw[if_neg (by simp)]) (fuel:=fuel) (by omega) (s:=(0,s0)) ⟨rfl,hs0⟩ with ⟨w,h1,h2⟩|⟨h1,q,h2,_⟩
 ·left
  rw[ke,Option.map_eq_some_iff] at h1
  obtain⟨v,h1,rfl⟩:=h1
  exact⟨v,h1,h2⟩
 ·right
  rw[ke,Option.map_eq_none_iff] at h1
  exact⟨h1,q,h2⟩
theorem first_val:pz3k fuel k=some (match valV f with|some v=>(v.1,v.2.1,v.2.2,true)|none=>(0,0,0,false)):=by
 have hnb:=hn.1.1
 unfold pz3k
 have key:=yk (F:=fun s=>pz3j fuel k s) (n:=f.blocks.length) (fun b=>(blkV f b).map fun v=>(v.1,v.2.1,v.2.2,true)) (fuel:=fuel) (by omega) (by
  intro b h
  have hlt:(b:Int)<(f.blocks.length:Int):=by omega
  obtain⟨bl,hbl⟩:=getAt (xs:=f.blocks) (i:=b) h
  obtain⟨s,hs⟩:=getAt (xs:=k.in_) (i:=b) (by rw[hK.hl];exact h)
  have hV:=hK.hv s (List.mem_of_getElem? hs)
  have hil:=zzG f
  have hr:=hn.2.1
  have hbk:idx k.f.blocks (b:Int)=some bl:=by rw[hK.hf];exact zp hbl
  have hS:isSr f b 0 s:=⟨hV,fun j v hj=>by
   rw[sure_iff hn hf hK hC hs hj]
   constructor
   ·exact .inl
   ·rintro(h|⟨bl',_,y,h,_⟩)
    ·exact h
    ·simp at h⟩
  simp only[pz3j,hK.hl,hlt,decide_true,if_true,zp hs,Option.bind_some,copy_ok hV (by omega) fuel,hbk,blkV,hbl]
  rcases val_b2 hn hf hK hC hbl hS with ⟨v,h1,e⟩|⟨h1,q,e⟩
  ·rw[e,h1];rfl
  ·rw[e,h1]
   simp only[bindE,wrap1 (show b≤4294967296 by omega)];rfl) (by
  simp only[pz3j,hK.hl,Int.lt_irrefl,decide_false,Bool.false_eq_true,if_false])
 rw[key,ke]
 unfold valV
 cases fsc f.blocks.length (blkV f)<;>rfl
end code
section ref
variable {f:Fnc} (hn:fBk f) {fuel:Nat} (hf:17592186044416<fuel)
include hn hf
end ref
end Go.Proofs.YtmogcnnhbmaffaaGreat.PL
set_option linter.unusedVariables false
set_option linter.unusedSectionVars false
set_option linter.unusedSimpArgs false
set_option maxRecDepth 100000
namespace Go.Proofs.YtmogcnnhbmaffaaGreat.PL
open Go
def w3(c:Int):Int×Int×Int:=(c,-1,-1)
def kindE(f:Fnc):Option Int:=if f.machine=true then some 1 else if rightB f.name=true then none else some 42
def prevLe(l:List Rg)(k:Nat)(g:Rg):Bool:=match l[k-1]? with|some y=>decide (0<k)&&decide (g.id≤y.id)|none=>false
def regG(l:List Rg)(k:Nat):Option Int:=match l[k]? with|none=>none|some g=>if(g.id<0∨2147483647<g.id)∨ ¬(g.cls=0∨g.cls=1)∨prevLe l k g=true then some 38 else none
def regsE(f:Fnc):Option Int:=if 1024<f.regs.length then some 4 else fsc f.regs.length (regG f.regs)
def parG(f:Fnc)(k:Nat):Option Int:=match f.params[k]? with|none=>none|some p=>if p=(⟨1,0,p.n,0⟩:Opd) then(if(cls f p.n).isSome=true then(if p∈f.params.take k then some 31 else none) else some 38) else some 36
def parsE(f:Fnc):Option Int:=fsc f.params.length (parG f)
def cntF(f:Fnc):Int:=f.blocks.foldl (fun n b=>IntKind.wrap .i64 (n+(b.code.length:Int))) 0
def blksE(f:Fnc):Option Int:=if f.blocks.length=0∨64<f.blocks.length then some 30 else if 4096<cntF f then some 4 else none
def namG(f:Fnc)(k:Nat):Option (Int×Int×Int):=match f.blocks[k]? with|none=>none|some b=>if rightB b.label=false∨b.edge=true∨0<b.ins.length then some (42,(k:Int),-1) else if fnd f b.label≠k then some (31,(k:Int),-1) else none
def insG(f:Fnc)(b:Nat)(c:List Ins)(i:Nat):Option (Int×Int×Int):=match c[i]? with|none=>none|some x=>(insE f x (decide ((i:Int)=(c.length:Int)-1))).map fun e=>(e,(b:Int),(i:Int))
def codG(f:Fnc)(b:Nat):Option (Int×Int×Int):=match f.blocks[b]? with|none=>none|some bl=>if bl.code.length=0 then some (34,(b:Int),-1) else fsc bl.code.length (insG f b bl.code)
open Classical in
noncomputable def reaG(f:Fnc)(b:Nat):Option (Int×Int×Int):=if PT f 0 b then none else some (39,(b:Int),-1)
noncomputable def valE(f:Fnc):Option (Int×Int×Int):=(valV f).map fun v=>(40,v.1,v.2.1)
def namE(f:Fnc):Option (Int×Int×Int):=fsc f.blocks.length (namG f)
def codE(f:Fnc):Option (Int×Int×Int):=fsc f.blocks.length (codG f)
noncomputable def reaE(f:Fnc):Option (Int×Int×Int):=fsc f.blocks.length (reaG f)
def headE(f:Fnc):Option Int:=(kindE f).or ((regsE f).or ((parsE f).or (blksE f)))
noncomputable def chkE(f:Fnc):Option (Int×Int×Int):=((headE f).map w3).or ((namE f).or ((codE f).or ((reaE f).or (valE f))))
def flt:Option (Int×Int×Int)→zW
 |none=>⟨0,-1,-1⟩
 |some v=>⟨v.1,v.2.1,v.2.2⟩
def nz(e:Option (Int×Int×Int)):Prop:= ∀v,e=some v→v.1≠0
theorem nz_or{a b:Option (Int×Int×Int)}(h:nz a)(k:nz b):nz (a.or b):=by
 intro v e
 rw[Option.or_eq_some_iff] at e
 rcases e with e|⟨_,e⟩
 ·exact h v e
 ·exact k v e
theorem nz_fsc{n:Nat}{g:Nat→Option (Int×Int×Int)}(h: ∀i,nz (g i)):nz (fsc n g):=by
 intro v e
 obtain⟨i,_,e⟩:=yr e
 exact h i v e
theorem nz_w3{e:Option Int}(h: ∀c,e=some c→c≠0):nz (e.map w3):=by
 intro v k
 rw[Option.map_eq_some_iff] at k
 obtain⟨c,h1,rfl⟩:=k
 exact h c h1
theorem kind_nz{f:Fnc}: ∀c,kindE f=some c→c≠0:=by
 intro c h
 unfold kindE at h
 split at h
 ·cases h;decide
 ·split at h
  ·cases h
  ·cases h;decide
theorem regs_nz{f:Fnc}: ∀c,regsE f=some c→c≠0:=by
 intro c h
 unfold regsE at h
 split at h
 ·cases h;decide
 ·obtain⟨i,_,h⟩:=yr h
  unfold regG at h
  split at h
  ·cases h
  ·split at h
   ·cases h;decide
   ·cases h
theorem pars_nz{f:Fnc}: ∀c,parsE f=some c→c≠0:=by
 intro c h
 obtain⟨i,_,h⟩:=yr h
 unfold parG at h
 split at h
 ·cases h
 ·split at h
  ·split at h
   ·split at h
    ·cases h;decide
    ·cases h
   ·cases h;decide
  ·cases h;decide
theorem blks_nz{f:Fnc}: ∀c,blksE f=some c→c≠0:=by
 intro c h
 unfold blksE at h
 split at h
 ·cases h;decide
 ·split at h
  ·cases h;decide
  ·cases h
theorem nam_nz{f:Fnc}:nz (namE f):=nz_fsc fun i v h=>by
 unfold namG at h
 split at h
 ·cases h
 ·split at h
  ·cases h;show(42:Int)≠0;decide
  ·split at h
   ·cases h;show(31:Int)≠0;decide
   ·cases h
theorem cod_nz{f:Fnc}:nz (codE f):=nz_fsc fun i v h=>by
 unfold codG at h
 split at h
 ·cases h
 ·split at h
  ·cases h;show(34:Int)≠0;decide
  ·obtain⟨j,_,h⟩:=yr h
   unfold insG at h
   split at h
   ·cases h
   ·rw[Option.map_eq_some_iff] at h
    obtain⟨c,h1,rfl⟩:=h
    exact insE_ne h1
theorem rea_nz{f:Fnc}:nz (reaE f):=nz_fsc fun i v h=>by
 unfold reaG at h
 split at h
 ·cases h
 ·cases h;show(39:Int)≠0;decide
theorem val_nz{f:Fnc}:nz (valE f):=by
 intro v h
 unfold valE at h
 rw[Option.map_eq_some_iff] at h
 obtain⟨c,h1,rfl⟩:=h
 show(40:Int)≠0
 decide
theorem regs_cls{f:Fnc}(h:regsE f=none): ∀g∈f.regs,0≤g.cls∧g.cls<2:=by
 intro g hg
 unfold regsE at h
 split at h
 ·cases h
 ·obtain⟨i,hi,e⟩:=List.getElem_of_mem hg
  rw[fsc_none] at h
  have:=h i hi
  unfold regG at this
  rw[List.getElem?_eq_getElem hi,e] at this
  simp only at this
  split at this
  ·cases this
  ·rename_i c
   have:g.cls=0∨g.cls=1:=Decidable.byContradiction fun q=>c (.inr (.inl q))
   omega
section
variable {f:Fnc} (hn:fBk f)
include hn
theorem kind_code:pz7 FU ⟨f⟩=some (flt ((kindE f).map w3)):=by
 unfold pz7 kindE
 by_cases c:f.machine=true
 ·rw[if_pos c,if_pos c];rfl
 ·rw[if_neg c,if_neg c,right_code (by decide)]
  cases rightB f.name<;>rfl
theorem regs_code:pz9 FU ⟨f⟩=some (flt ((regsE f).map w3)):=by
 have hFU:FU=1152921504606846976:=rfl
 have hr:=hn.2.1
 unfold pz9 regsE
 by_cases c:(1024:Int)<(f.regs.length:Int)
 ·rw[if_pos (by simpa using c),if_pos (by omega)];rfl
 ·rw[if_neg (by simpa using c),if_neg (by omega)]
  have key:=yk (F:=fun s=>pz8 FU ⟨f⟩ s) (n:=f.regs.length) (fun k=>(regG f.regs k).map fun e=>flt (some (w3 e))) (fuel:=FU) (by omega) (by
   intro k h
   have hlt:(k:Int)<(f.regs.length:Int):=by omega
   obtain⟨g,hg⟩:=getAt (xs:=f.regs) (i:=k) h
   have hb:(if((((decide (g.id<0))||(decide (2147483647<g.id)))||(decide (g.cls<0)))||(decide (2≤g.cls)))=true then some true else(if(decide (0<(k:Int)))=true then(idx f.regs (IntKind.wrap .i64 ((k:Int)-1))).bind fun x2=>some (decide (g.id≤x2.id)) else some false).bind fun b1=>some b1)=some (decide ((g.id<0∨2147483647<g.id)∨ ¬(g.cls=0∨g.cls=1)∨prevLe f.regs k g=true)):=by
    by_cases c:((((decide (g.id<0))||(decide (2147483647<g.id)))||(decide (g.cls<0)))||(decide (2≤g.cls)))=true
    ·rw[if_pos c]
     simp only[Bool.or_eq_true,decide_eq_true_eq] at c
     congr 1
     symm
     rw[decide_eq_true_eq]
     omega
    ·rw[if_neg c]
     simp only[Bool.or_eq_true,decide_eq_true_eq,not_or] at c
     have hiff:((g.id<0∨2147483647<g.id)∨ ¬(g.cls=0∨g.cls=1)∨prevLe f.regs k g=true)↔prevLe f.regs k g=true:=by
      constructor
      ·rintro(h|h|h)
       ·omega
       ·omega
       ·exact h
      ·exact fun h=> .inr (.inr h)
     have hde:decide ((g.id<0∨2147483647<g.id)∨ ¬(g.cls=0∨g.cls=1)∨prevLe f.regs k g=true)=prevLe f.regs k g:=by
      cases hq:prevLe f.regs k g
      ·rw[hq] at hiff
       exact decide_eq_false fun h=>by have:=hiff.1 h;cases this
      ·rw[hq] at hiff
       exact decide_eq_true (hiff.2 rfl)
     rw[hde]
     unfold prevLe
     by_cases c0:(0:Int)<(k:Int)
     ·obtain⟨m,hm⟩: ∃m:Nat,(k:Int)-1=m:=⟨k-1,by omega⟩
      obtain⟨y,hy⟩:=getAt (xs:=f.regs) (i:=m) (by omega)
      rw[if_pos (by simpa using c0),hm,zz (by omega) (by omega),zp hy,show k-1=m by omega,hy]
      have:0<k:=by omega
      simp[this]
     ·rw[if_neg (by simpa using c0)]
      have: ¬0<k:=by omega
      simp only[this,decide_false,Bool.false_and]
      split<;>rfl
   simp only[pz8,hlt,decide_true,if_true,zp hg,Option.bind_some,regG,hg]
   rw[hb]
   by_cases q:(g.id<0∨2147483647<g.id)∨ ¬(g.cls=0∨g.cls=1)∨prevLe f.regs k g=true
   ·rw[if_pos q];simp only[q,decide_true,Option.bind_some,if_true];rfl
   ·rw[if_neg q];simp only[q,decide_false,Option.bind_some,Bool.false_eq_true,if_false,wrap1 (show k≤4294967296 by omega)];rfl) (by
   simp[pz8])
  rw[key,ke]
  cases fsc f.regs.length (regG f.regs)<;>rfl
theorem conO_code{l:List Opd}(hl:l.length≤1048576)(o:Opd):pze FU l o=some (decide (o∈l)):=by
 have hFU:FU=1152921504606846976:=rfl
 unfold pze pzd
 have key:=yk (F:=fun q=>pzc FU l o q) (n:=l.length) (fun k=>match l[k]? with|none=>none|some v=>if o=v then some (k:Int) else none) (fuel:=FU) (by omega) (by
  intro k h
  have hlt:(k:Int)<(l.length:Int):=by omega
  obtain⟨v,hv⟩:=getAt (xs:=l) (i:=k) h
  simp only[pzc,hlt,decide_true,if_true,zp hv,Option.bind_some,hv]
  by_cases c:o=v
  ·rw[if_pos (by simpa using c),if_pos c];rfl
  ·rw[if_neg (by simpa using c),if_neg c,wrap1 (by omega)];rfl) (by simp[pzc])
 rw[key]
 cases h:fsc l.length (fun k=>match l[k]? with|none=>none|some v=>if o=v then some (k:Int) else none) with
 |none=>
  have:o∉l:=by
   intro hm
   obtain⟨i,hi,e⟩:=List.getElem_of_mem hm
   rw[fsc_none] at h
   have:=h i hi
   rw[List.getElem?_eq_getElem hi,e] at this
   simp at this
  simp only[exS,bindE,Option.bind_some,this,decide_false];rfl
 |some v=>
  obtain⟨i,hi,h⟩:=yr h
  obtain⟨y,hy⟩:=getAt hi
  rw[hy] at h
  simp only at h
  split at h
  ·rename_i e
   cases h
   have:o∈l:=e▸List.mem_of_getElem? hy
   have h0:(0:Int)≤(i:Int):=by omega
   simp only[exS,bindE,Option.bind_some,this,decide_true,h0]
  ·cases h
theorem pars_code:pzg FU ⟨f⟩=some (flt ((parsE f).map w3)):=by
 have hFU:FU=1152921504606846976:=rfl
 have hr:=hn.2.1
 have hp:=hn.2.2.1
 unfold pzg parsE
 have key:=yk (F:=fun s=>pzf FU ⟨f⟩ s) (n:=f.params.length) (fun k=>(parG f k).map fun e=>flt (some (w3 e))) (fuel:=FU) (by omega) (by
  intro k h
  have hlt:(k:Int)<(f.params.length:Int):=by omega
  obtain⟨p,hg⟩:=getAt (xs:=f.params) (i:=k) h
  have hs:sli f.params 0 (k:Int)=some (f.params.take k):=by
   unfold sli;rw[if_pos (by omega)];simp
  simp only[pzf,hlt,decide_true,if_true,zp hg,Option.bind_some,class_ok hr (fuel:=FU) (by decide),hs,conO_code hn (l:=f.params.take k) (by simp;omega),parG,hg]
  by_cases c:p=(⟨1,0,p.n,0⟩:Opd)
  ·rw[if_neg (by simp only[decide_eq_true c];decide),if_pos c]
   cases hc:(cls f p.n).isSome
   ·rfl
   ·rw[if_neg (by decide),if_pos rfl]
    by_cases m:p∈f.params.take k
    ·rw[if_pos (by simpa using m),if_pos m];rfl
    ·rw[if_neg (by simpa using m),if_neg m,wrap1 (by omega)];rfl
  ·rw[if_pos (by simp only[decide_eq_false c];decide),if_neg c];rfl) (by simp[pzf])
 rw[key,ke]
 cases fsc f.params.length (parG f)<;>rfl
theorem count_code:pzi FU f=some (cntF f):=by
 have hFU:FU=1152921504606846976:=rfl
 have hb:=hn.1.1
 unfold pzi cntF
 rcases loopE_fsJ (F:=fun s:Int×Int=>pzh FU f s.1 s.2) (n:=f.blocks.length) (g:=fun _=>(none:Option Int)) (fun k s=>s.2=k∧s.1=(f.blocks.take k).foldl (fun n b=>IntKind.wrap .i64 (n+(b.code.length:Int))) 0) (by
  rintro k ⟨n,q⟩ h ⟨hq,hs⟩
  simp only at hq hs
  subst hq
  have hlt:(k:Int)<(f.blocks.length:Int):=by omega
  obtain⟨b,hg⟩:=getAt (xs:=f.blocks) (i:=k) h
  refine .inr ⟨rfl,(IntKind.wrap .i64 (n+(b.code.length:Int)),((k+1:Nat):Int)),?_,rfl,?_⟩
  ·show pzh FU f n (k:Int)=_
   simp only[pzh,hlt,decide_true,if_true,zp hg,Option.bind_some,wrap1 (show k≤4294967296 by omega)]
  ·show _=_
   rw[List.take_add_one,hg,Option.toList_some,List.foldl_append,←hs];rfl) (by
  rintro⟨n,q⟩ ⟨hq,hs⟩
  simp only at hq hs
  subst hq
  refine⟨(n,(f.blocks.length:Int)),?_,rfl,hs⟩
  show pzh FU f n (f.blocks.length:Int)=_
  simp[pzh]) (fuel:=FU) (by omega) (s:=(0,0)) ⟨rfl,by simp⟩ with ⟨w,h,_⟩|⟨_,⟨n,q⟩,h1,h2,h3⟩
 ·obtain⟨_,_,h⟩:=yr h
  cases h
 ·rw[h1]
  rw[List.take_length] at h3
  simp only at h3
  rw[h3];rfl
theorem fnd_le{k:Nat}{b:Bl}(h:f.blocks[k]?=some b):fnd f b.label≤(k:Int):=by
 rcases fnd_is hn.1 b.label with ⟨m,e,_,h2⟩|⟨e,h2⟩
 ·rw[e]
  by_cases c:k<m
  ·exact absurd rfl (h2 k c b h)
  ·omega
 ·exact absurd rfl (h2 k b h)
theorem blks_code:pzo FU ⟨f⟩=some (flt (((blksE f).map w3).or (namE f))):=by
 have hFU:FU=1152921504606846976:=rfl
 have hb:=hn.1.1
 unfold pzo blksE
 by_cases c:f.blocks.length=0∨64<f.blocks.length
 ·have c':((decide ((f.blocks.length:Int)=0))||(decide (64<(f.blocks.length:Int))))=true:=by simp only[Bool.or_eq_true,decide_eq_true_eq];omega
  rw[if_pos c',if_pos c];rfl
 ·have c': ¬((decide ((f.blocks.length:Int)=0))||(decide (64<(f.blocks.length:Int))))=true:=by simp only[Bool.or_eq_true,decide_eq_true_eq];omega
  rw[if_neg c',if_neg c,count_code hn]
  simp only[Option.bind_some]
  by_cases c2:(4096:Int)<cntF f
  ·rw[if_pos (by simpa using c2),if_pos c2];rfl
  ·rw[if_neg (by simpa using c2),if_neg c2]
   have key:=yk (F:=fun s=>pzn FU ⟨f⟩ s) (n:=f.blocks.length) (fun k=>(namG f k).map fun e=>flt (some e)) (fuel:=FU) (by omega) (by
    intro k h
    have hlt:(k:Int)<(f.blocks.length:Int):=by omega
    obtain⟨b,hg⟩:=getAt (xs:=f.blocks) (i:=k) h
    have hle:=fnd_le hn hg
    simp only[pzn,hlt,decide_true,if_true,zp hg,Option.bind_some,right_code (show 100<FU by decide),fnd_ir hn.1 (show 1048576<FU by decide),namG,hg]
    have hq:(((!rightB b.label)||b.edge)||(decide (0<(b.ins.length:Int))))=true↔(rightB b.label=false∨b.edge=true∨0<b.ins.length):=by
     rw[Bool.or_eq_true,Bool.or_eq_true,Bool.not_eq_true',decide_eq_true_eq,or_assoc]
     constructor
     ·rintro(h|h|h)
      ·exact .inl h
      ·exact .inr (.inl h)
      ·exact .inr (.inr (by omega))
     ·rintro(h|h|h)
      ·exact .inl h
      ·exact .inr (.inl h)
      ·exact .inr (.inr (by omega))
    by_cases q:rightB b.label=false∨b.edge=true∨0<b.ins.length
    ·rw[if_pos q,if_pos (hq.2 q)];rfl
    ·rw[if_neg q,if_neg fun h=>q (hq.1 h)]
     by_cases r:fnd f b.label=k
     ·rw[if_neg (by rw[r];simp),if_neg (by simpa using r),wrap1 (by omega)];rfl
     ·rw[if_pos (by rw[decide_eq_true_eq];omega),if_pos r];rfl) (by simp[pzn])
   rw[key,ke]
   unfold namE
   cases fsc f.blocks.length (namG f)<;>rfl
theorem code_code(hG: ∀g∈f.regs,0≤g.cls∧g.cls<2):pz21 FU ⟨f⟩=some (flt (codE f)):=by
 have hFU:FU=1152921504606846976:=rfl
 have hb:=hn.1.1
 unfold pz21 codE
 have key:=yk (F:=fun s=>pz20 FU ⟨f⟩ s) (n:=f.blocks.length) (fun k=>(codG f k).map fun e=>flt (some e)) (fuel:=FU) (by omega) (by
  intro k h
  have hlt:(k:Int)<(f.blocks.length:Int):=by omega
  obtain⟨b,hbk⟩:=getAt (xs:=f.blocks) (i:=k) h
  have hbm:b∈f.blocks:=List.mem_of_getElem? hbk
  have hcl:=(hn.1.2 b hbm).1
  simp only[pz20,hlt,decide_true,if_true,zp hbk,Option.bind_some,codG,hbk]
  by_cases c0:b.code.length=0
  ·rw[if_pos (by simpa using c0),if_pos c0];rfl
  ·rw[if_neg (by simpa using c0),if_neg c0]
   have key2:=yk (F:=fun s=>pz1z FU ⟨f⟩ (k:Int) b s) (n:=b.code.length) (fun i=>(insG f k b.code i).map fun e=>(.r (flt (some e)):Ex Int zW)) (fuel:=FU) (by omega) (by
    intro i hi
    have hlt2:(i:Int)<(b.code.length:Int):=by omega
    obtain⟨x,hx⟩:=getAt (xs:=b.code) (i:=i) hi
    simp only[pz1z,hlt2,decide_true,if_true,zp hx,Option.bind_some,zz (x:=(b.code.length:Int)-1) (by omega) (by omega),instr_code hn hG hbm (List.mem_of_getElem? hx),insG,hx]
    cases hE:insE f x (decide ((i:Int)=(b.code.length:Int)-1)) with
    |none=>simp only[Option.getD_none,ne_eq,not_true,decide_false,Bool.false_eq_true,if_false,wrap1 (show i≤4294967296 by omega)];rfl
    |some e=>simp only[Option.getD_some,ne_eq,insE_ne hE,not_false_eq_true,decide_true,if_true];rfl) (by simp[pz1z])
   rw[key2,ke]
   cases fsc b.code.length (insG f k b.code) with
   |none=>simp only[Option.map_none,exS,bindE,wrap1 (show k≤4294967296 by omega)]
   |some e=>rfl) (by simp[pz20])
 rw[key,ke]
 cases fsc f.blocks.length (codG f)<;>rfl
theorem reaG_pos{b:Nat}(h:PT f 0 b):reaG f b=none:=by unfold reaG;rw[if_pos h]
theorem reaG_neg{b:Nat}(h: ¬PT f 0 b):reaG f b=some (39,(b:Int),-1):=by unfold reaG;rw[if_neg h]
theorem reach_code:pz2l FU ⟨f⟩=some (flt (reaE f)):=by
 have hFU:FU=1152921504606846976:=rfl
 have hb:=hn.1.1
 unfold pz2l reaE
 obtain⟨g,eg,hg1,hg2,hg3,hg4⟩:=new_f hn.1 (fuel:=FU) (by decide)
 rw[eg]
 have hR: ∃s,pz2j FU g=some s∧bV s f.blocks.length∧ ∀j,j<f.blocks.length→(bH s j=true↔PT f 0 j):=by
  unfold pz2j pz26
  by_cases h0:f.blocks.length=0
  ·have ho:pz2g FU g=some []:=by
    unfold pz2g pz26
    simp[hg1,h0]
   obtain⟨s,es,hV,hB⟩:=of_ok (n:=f.blocks.length) (by omega) (l:=[]) (by simp) (fuel:=FU) (by decide)
   refine⟨s,?_,hV,fun j hj=>by omega⟩
   simp only[Option.bind_some,ho,hg1,es]
  ·obtain⟨w,eo,hP,hwl⟩:=order_ok hn.1 (fuel:=FU) hg3 hg1 (by decide) (by omega)
   have hl:(embN w.reverse).length=w.length:=by simp[embN]
   obtain⟨s,es,hV,hB⟩:=of_ok (n:=f.blocks.length) (by omega) (l:=embN w.reverse) (by omega) (fuel:=FU) (by omega)
   refine⟨s,?_,hV,fun j hj=>?_⟩
   ·simp only[Option.bind_some,eo,hg1,es]
   ·rw[hB j,Bool.and_eq_true,decide_eq_true_eq,decide_eq_true_eq,←hP.mem j]
    constructor
    ·rintro⟨_,h⟩
     obtain⟨a,ha,e⟩:=List.mem_map.1 (show(j:Int)∈embN w.reverse from h)
     have:a=j:=by omega
     subst this
     exact List.mem_reverse.1 ha
    ·intro h
     exact⟨hj,List.mem_map.2 ⟨j,List.mem_reverse.2 h,rfl⟩⟩
 obtain⟨s,es,hV,hS⟩:=hR
 simp only[Option.bind_some,es]
 have key:=yk (F:=fun q=>pz2k FU ⟨f⟩ s q) (n:=f.blocks.length) (fun k=>(reaG f k).map fun e=>flt (some e)) (fuel:=FU) (by omega) (by
  intro k h
  have hlt:(k:Int)<(f.blocks.length:Int):=by omega
  have hd:(decide (0≤(k:Int)∧(k:Int)<(f.blocks.length:Int)))=true:=by simp;omega
  have hkk:((k:Int)).toNat=k:=by omega
  simp only[pz2k,hlt,decide_true,if_true,has_ok hV (show f.blocks.length≤4294967296 by omega) FU (k:Int),hd,Bool.true_and,Option.bind_some,hkk]
  cases c:bH s k
  ·rw[reaG_neg hn fun q=>by have:=(hS k h).2 q;rw[c] at this;cases this];rfl
  ·rw[reaG_pos hn ((hS k h).1 c)]
   simp only[Bool.not_true,Bool.false_eq_true,if_false,wrap1 (show k≤4294967296 by omega)];rfl) (by simp[pz2k])
 rw[key,ke]
 cases fsc f.blocks.length (reaG f)<;>rfl
theorem vals_code:pz3l FU ⟨f⟩=some (flt (valE f)):=by
 unfold pz3l valE
 obtain⟨k,ek,hK,hC⟩:=assign_ok hn (fuel:=FU) (by decide)
 rw[ek]
 simp only[Option.bind_some]
 rw[first_val hn (fuel:=FU) (by decide) hK hC]
 cases valV f<;>rfl
def goE(e:Option (Int×Int×Int))(k:Option (Ex Int (Int×Int×Int))):Option (Ex Int (Int×Int×Int)):=match e with|some v=>some (.r v)|none=>k
theorem yzi{F:Int→Option (Ex Int (Int×Int×Int))}{m:Nat}{j j':Int}{e:Option (Int×Int×Int)}(h:F j=if decide ((flt e).code≠0)=true then some (.r ((flt e).code,(flt e).block,(flt e).i)) else some (.n j'))(he:nz e):
  loopE (m+1) F j=goE e (loopE m F j'):=by
 cases e with
 |none=>
  rw[if_neg (by simp[flt])] at h
  rw[loopE,h];rfl
 |some v=>
  rw[if_pos (by rw[decide_eq_true_eq];exact he v rfl)] at h
  rw[loopE,h];rfl
theorem check_code:pz3o FU f=some ((chkE f).getD (0,-1,-1)):=by
 have n0:=nz_w3 (kind_nz (f:=f))
 have n1:=nz_w3 (regs_nz (f:=f))
 have n2:=nz_w3 (pars_nz (f:=f))
 have n3:=nz_or (nz_w3 (blks_nz (f:=f))) (nam_nz (f:=f))
 have s0:pz3n FU f 0=if decide ((flt ((kindE f).map w3)).code≠0)=true then some (.r ((flt ((kindE f).map w3)).code,(flt ((kindE f).map w3)).block,(flt ((kindE f).map w3)).i)) else some (.n 1):=by
  show((pz7 FU ⟨f⟩).bind fun r1=>(if decide (r1.code≠0)=true then some (Ex.r (r1.code,r1.block,r1.i)) else some (Ex.n (IntKind.wrap .i64 ((0:Int)+1))):Option (Ex Int (Int×Int×Int))))=_
  rw[kind_code hn,zz (by omega) (by omega)];rfl
 have s1:pz3n FU f 1=if decide ((flt ((regsE f).map w3)).code≠0)=true then some (.r ((flt ((regsE f).map w3)).code,(flt ((regsE f).map w3)).block,(flt ((regsE f).map w3)).i)) else some (.n 2):=by
  show((pz9 FU ⟨f⟩).bind fun r1=>(if decide (r1.code≠0)=true then some (Ex.r (r1.code,r1.block,r1.i)) else some (Ex.n (IntKind.wrap .i64 ((1:Int)+1))):Option (Ex Int (Int×Int×Int))))=_
  rw[regs_code hn,zz (by omega) (by omega)];rfl
 have s2:pz3n FU f 2=if decide ((flt ((parsE f).map w3)).code≠0)=true then some (.r ((flt ((parsE f).map w3)).code,(flt ((parsE f).map w3)).block,(flt ((parsE f).map w3)).i)) else some (.n 3):=by
  show((pzg FU ⟨f⟩).bind fun r1=>(if decide (r1.code≠0)=true then some (Ex.r (r1.code,r1.block,r1.i)) else some (Ex.n (IntKind.wrap .i64 ((2:Int)+1))):Option (Ex Int (Int×Int×Int))))=_
  rw[pars_code hn,zz (by omega) (by omega)];rfl
 have s3:pz3n FU f 3=if decide ((flt (((blksE f).map w3).or (namE f))).code≠0)=true then some (.r ((flt (((blksE f).map w3).or (namE f))).code,(flt (((blksE f).map w3).or (namE f))).block,(flt (((blksE f).map w3).or (namE f))).i)) else some (.n 4):=by
  show((pzo FU ⟨f⟩).bind fun r1=>(if decide (r1.code≠0)=true then some (Ex.r (r1.code,r1.block,r1.i)) else some (Ex.n (IntKind.wrap .i64 ((3:Int)+1))):Option (Ex Int (Int×Int×Int))))=_
  rw[blks_code hn,zz (by omega) (by omega)];rfl
 have s4:(∀g∈f.regs,0≤g.cls∧g.cls<2)→pz3n FU f 4=if decide ((flt (codE f)).code≠0)=true then some (.r ((flt (codE f)).code,(flt (codE f)).block,(flt (codE f)).i)) else some (.n 5):=by
  intro hG
  show((pz21 FU ⟨f⟩).bind fun r1=>(if decide (r1.code≠0)=true then some (Ex.r (r1.code,r1.block,r1.i)) else some (Ex.n (IntKind.wrap .i64 ((4:Int)+1))):Option (Ex Int (Int×Int×Int))))=_
  rw[code_code hn hG,zz (by omega) (by omega)];rfl
 have s5:pz3n FU f 5=if decide ((flt (reaE f)).code≠0)=true then some (.r ((flt (reaE f)).code,(flt (reaE f)).block,(flt (reaE f)).i)) else some (.n 6):=by
  show((pz2l FU ⟨f⟩).bind fun r1=>(if decide (r1.code≠0)=true then some (Ex.r (r1.code,r1.block,r1.i)) else some (Ex.n (IntKind.wrap .i64 ((5:Int)+1))):Option (Ex Int (Int×Int×Int))))=_
  rw[reach_code hn,zz (by omega) (by omega)];rfl
 have s6:pz3n FU f 6=if decide ((flt (valE f)).code≠0)=true then some (.r ((flt (valE f)).code,(flt (valE f)).block,(flt (valE f)).i)) else some (.n 7):=by
  show((pz3l FU ⟨f⟩).bind fun r1=>(if decide (r1.code≠0)=true then some (Ex.r (r1.code,r1.block,r1.i)) else some (Ex.n (IntKind.wrap .i64 ((6:Int)+1))):Option (Ex Int (Int×Int×Int))))=_
  rw[vals_code hn,zz (by omega) (by omega)];rfl
 have s7:pz3n FU f 7=some (.b 7):=rfl
 have q0:=fun m=>yzi (F:=fun s=>pz3n FU f s) hn (m:=m) s0 n0
 have q1:=fun m=>yzi (F:=fun s=>pz3n FU f s) hn (m:=m) s1 n1
 have q2:=fun m=>yzi (F:=fun s=>pz3n FU f s) hn (m:=m) s2 n2
 have q3:=fun m=>yzi (F:=fun s=>pz3n FU f s) hn (m:=m) s3 n3
 have q4:=fun m hG=>yzi (F:=fun s=>pz3n FU f s) hn (m:=m) (s4 hG) cod_nz
 have q5:=fun m=>yzi (F:=fun s=>pz3n FU f s) hn (m:=m) s5 rea_nz
 have q6:=fun m=>yzi (F:=fun s=>pz3n FU f s) hn (m:=m) s6 val_nz
 have q7: ∀m,loopE (m+1) (fun s=>pz3n FU f s) 7=some (.n 7):=by
  intro m
  rw[loopE,s7];rfl
 have hFU:FU=(1152921504606846968+1)+1+1+1+1+1+1+1:=by decide
 have go: ∀a b:Nat,a=b→loopE a (fun s=>pz3n FU f s) 0=loopE b (fun s=>pz3n FU f s) 0:=fun a b h=>by rw[h]
 unfold pz3o chkE headE
 rw[go _ _ hFU,q0]
 cases kindE f with
 |some c=>rfl
 |none=>
  simp only[Option.map_none,Option.none_or]
  rw[q1]
  cases h1:regsE f with
  |some c=>rfl
  |none=>
   simp only[Option.map_none,Option.none_or]
   rw[q2]
   cases parsE f with
   |some c=>rfl
   |none=>
    simp only[Option.map_none,Option.none_or]
    rw[q3]
    cases blksE f with
    |some c=>rfl
    |none=>
     simp only[Option.map_none,Option.none_or]
     cases namE f with
     |some c=>rfl
     |none=>
      simp only[Option.none_or]
      rw[q4 _ (regs_cls h1)]
      cases codE f with
      |some c=>rfl
      |none=>
       simp only[Option.none_or]
       rw[q5]
       cases reaE f with
       |some c=>rfl
       |none=>
        simp only[Option.none_or]
        rw[q6]
        cases valE f with
        |some c=>rfl
        |none=>
         show bindE (loopE _ _ 7) _ _=_
         rw[q7];rfl
end
end Go.Proofs.YtmogcnnhbmaffaaGreat.PL
set_option linter.unusedVariables false
set_option linter.unusedSectionVars false
set_option linter.unusedSimpArgs false
namespace Go.Proofs.YtmogcnnhbmaffaaGreat.PL
open Go
theorem foldT_sub(f:Fnc)(ls:List ByteArray): ∀acc:List Int,∀r∈acc,r∈ls.foldl (fun a l=>addT a (fnd f l)) acc:=by
 induction ls with
 |nil=>intro acc r h;exact h
 |cons l ls ih=>
  intro acc r h
  refine ih _ r ?_
  show r∈addT acc (fnd f l)
  unfold addT
  split
  ·exact List.mem_append_left _ h
  ·exact h
theorem foldT_mem(f:Fnc)(ls:List ByteArray): ∀acc:List Int,∀l∈ls,0≤fnd f l→fnd f l∈ls.foldl (fun a l=>addT a (fnd f l)) acc:=by
 induction ls with
 |nil=>intro acc l h;cases h
 |cons x ls ih=>
  intro acc l h h0
  rcases List.mem_cons.1 h with rfl|h
  ·refine foldT_sub f ls _ _ ?_
   show fnd f l∈addT acc (fnd f l)
   unfold addT
   split
   ·simp
   ·rename_i c
    exact Classical.byContradiction fun h=>c ⟨h0,h⟩
  ·exact ih _ l h h0
theorem tgl_mem{f:Fnc}{ls:List ByteArray}{l:ByteArray}(h:l∈ls)(h0:0≤fnd f l):fnd f l∈tgl f ls:=foldT_mem f ls [] l h h0
section mok
variable {f:Fnc} {n:Nat} (hM:MOk n f) (hn9:n≤9)
include hM hn9
theorem mok_fOk:fOk f:=by
 refine⟨by rw[hM.len];omega,fun b hb=>?_⟩
 obtain⟨i,hi⟩:=List.getElem?_of_mem hb
 have:=hM.blk i b hi
 exact⟨by have:=this.len;omega,fun y hy=>by have:=this.labels y hy;omega⟩
theorem mok_fnd{j:Nat}(hj:j<n):fnd f (lab j)=(j:Int):=by
 refine isFnd_same (fnd_is (mok_fOk hM hn9) _) (.inl ⟨j,rfl,?_,?_⟩)
 ·obtain⟨b,hb⟩:=getAt (xs:=f.blocks) (i:=j) (by rw[hM.len];exact hj)
  exact⟨b,hb,(hM.blk j b hb).label⟩
 ·intro k hk b hb e
  have h1:=(hM.blk k b hb).label
  rw[h1] at e
  have:=lab_inj k (by omega) j (by omega) e
  omega
theorem mok_TT{i:Nat}(hi:i<n): ∃x:Ins,LOk n i x∧TT f i=tgl f x.labels:=by
 obtain⟨b,hb⟩:=getAt (xs:=f.blocks) (i:=i) (by rw[hM.len];exact hi)
 obtain⟨x,hx,hL⟩:=(hM.blk i b hb).last
 refine⟨x,hL,?_⟩
 unfold TT
 rw[hb]
 show tg f b=_
 unfold tg lastB
 rw[hx]
 simp only[hL.op,and_self,if_true]
theorem mok_next{i:Nat}(hi:i+1<n):EE f i (i+1):=by
 obtain⟨x,hL,hT⟩:=mok_TT hM hn9 (i:=i) (by omega)
 have h1:=hL.next hi
 have h2:=mok_fnd hM hn9 hi
 have:=tgl_mem (f:=f) h1 (by rw[h2];omega)
 unfold EE
 rw[hT,←h2]
 exact this
theorem mok_reach: ∀{i:Nat},i<n→PT f 0 i
 |0,h=>PT.refl _ _
 |i+1,h=>(mok_reach (i:=i) (by omega)).snoc' (mok_next hM hn9 h)
end mok
theorem many_ok{d:Drf}(h:(d.blocks.map fun b=>1+b.code.length).sum≤1048576)(fuel:Nat): ∃r,pz45 fuel d=some r∧(r=false→d.blocks.length≤9∧ ∀b∈d.blocks,b.code.length≤60):=by
 have hlen: ∀l:List DBl,l.length≤(l.map fun b=>1+b.code.length).sum:=by
  intro l
  induction l with
  |nil=>simp
  |cons b l ih=>simp;omega
 have hmem: ∀(l:List DBl),∀b∈l,b.code.length≤(l.map fun b=>1+b.code.length).sum:=by
  intro l
  induction l with
  |nil=>intro b h;cases h
  |cons x l ih=>
   intro b hb
   rcases List.mem_cons.1 hb with rfl|hb
   ·simp;omega
   ·have:=ih b hb;simp;omega
 have hl:=hlen d.blocks
 have htake: ∀k,((d.blocks.take k).map fun b=>1+b.code.length).sum≤(d.blocks.map fun b=>1+b.code.length).sum:=by
  intro k
  have key: ∀(l:List Nat) (k:Nat),(l.take k).sum≤l.sum:=by
   intro l
   induction l with
   |nil=>simp
   |cons x l ih=>
    intro k
    cases k with
    |zero=>simp
    |succ k=>have:=ih k;simp;omega
  rw[List.map_take]
  exact key _ k
 obtain⟨s,e1,e2⟩:=toN_inv (fun i (s:Int)=>s=((((d.blocks.take i).map fun b=>1+b.code.length).sum:Nat):Int)) (fun i s=>pz44 fuel d i s) d.blocks.length (by omega) (s:=0) (by simp) (by
  rintro i s hi rfl
  obtain⟨b,hb⟩:=getAt hi
  have h1:=htake i
  have h2:=hmem _ b (List.mem_of_getElem? hb)
  unfold pz44
  simp only[zp hb,Option.bind_some]
  refine⟨_,rfl,?_⟩
  rw[List.take_add_one,hb]
  rw[zz (x:=((((d.blocks.take i).map fun b=>1+b.code.length).sum:Nat):Int)+1) (by omega) (by omega),zz (by omega) (by omega)]
  simp
  omega)
 rw[List.take_length] at e2
 unfold pz45
 rw[e1]
 refine⟨_,rfl,fun hr=>?_⟩
 subst e2
 simp at hr
 refine⟨by omega,fun b hb=>?_⟩
 have:=hmem _ b hb
 have h3:(d.blocks.map fun b=>1+b.code.length).sum≤60:=by
  have:=hr.2
  simp at this ⊢
  omega
 omega
end Go.Proofs.YtmogcnnhbmaffaaGreat.PL
set_option linter.unusedVariables false
set_option linter.unusedSimpArgs false
set_option maxRecDepth 100000
namespace Go.Proofs.YtmogcnnhbmaffaaGreat.PL
open Go
def arD(op:Int)(la ll lc:Nat)(dk nm o0:Bool):Bool:=match pz3v FU op with
 |some (r,_)=>arF (decide ((la:Int)<if op=19 then 0 else(r.args.length:Int))) (decide ((r.args.length:Int)<(la:Int))) (decide ((ll:Int)=if r.labels<0 then IntKind.wrap .i64 ((lc:Int)+1) else r.labels)) dk (decide (r.dst=(⟨#[]⟩:ByteArray))) (decide (op=19)) (decide (op=22)) (decide (0<(lc:Int))) nm o0 (decide (op=17)) (decide (op=18))
 |none=>false
theorem ar_two: ∀o:Fin 15,arD ((o.val:Int)+1) 2 0 0 true true true=true:=by decide+kernel
theorem ar_copy:arD 16 1 0 0 true true true=true:=by decide+kernel
theorem ar_load: ∀b,arD 17 1 0 0 true true b=true:=by decide+kernel
theorem ar_store: ∀b,arD 18 2 0 0 false true b=true:=by decide+kernel
theorem ar_call: ∀(n:Fin 4) (b c:Bool),arD 19 n.val 0 0 b c true=true:=by decide+kernel
theorem ar_br:arD 20 0 1 0 false true true=true:=by decide+kernel
theorem ar_brif:arD 21 1 2 0 false true true=true:=by decide+kernel
theorem ar_sw: ∀n:Fin 2,arD 22 1 (n.val+2) (n.val+1) false true true=true:=by decide+kernel
theorem ar_ret:arD 23 1 0 0 false true true=true:=by decide+kernel
def mayV(op i c:Int):Bool:=takB op i 1&&fitB op i c
theorem may_two: ∀o:Fin 15,(mayV ((o.val:Int)+1) (-1) 0&&mayV ((o.val:Int)+1) 0 0&&mayV ((o.val:Int)+1) 1 0&&takB ((o.val:Int)+1) 1 4)=true:=by decide+kernel
theorem may_copy:(mayV 16 (-1) 0&&mayV 16 (-1) 1&&mayV 16 0 0&&mayV 16 0 1&&takB 16 0 4)=true:=by decide+kernel
theorem may_load:(mayV 17 (-1) 0&&mayV 17 0 1)=true:=by decide+kernel
theorem may_store:(takB 18 (-1) 0&&mayV 18 0 0&&mayV 18 1 1)=true:=by decide+kernel
theorem may_call:(mayV 19 (-1) 0&&takB 19 (-1) 0)=true:=by decide+kernel
theorem may_calls: ∀n:Fin 4,(mayV 19 (n.val:Int) 0&&takB 19 (n.val:Int) 4)=true:=by decide+kernel
theorem may_br:takB 20 (-1) 0=true:=by decide+kernel
theorem may_brif:(takB 21 (-1) 0&&mayV 21 0 0)=true:=by decide+kernel
theorem may_sw:(takB 22 (-1) 0&&mayV 22 0 0)=true:=by decide+kernel
theorem may_ret:(takB 23 (-1) 0&&mayV 23 0 0&&takB 23 0 4)=true:=by decide+kernel
def Has(f:Fnc)(ids:A2 (List Int)):Prop:= ∀(c:Bool) v,v∈ids.at c→cls f v=some (if c=true then 1 else 0)∧0≤v∧v≤2147483647
theorem zzv{f:Fnc}{ids:A2 (List Int)}(h:Has f ids){c:Bool}{v:Int}(hv:v∈ids.at c){op i:Int}(hm:mayV op i (if c=true then 1 else 0)=true):opE f op i ⟨1,0,v,0⟩=none:=by
 obtain⟨h1,h2,h3⟩:=h c v hv
 unfold mayV at hm
 rw[Bool.and_eq_true] at hm
 have hp:plainB ⟨1,0,v,0⟩=true:=by
  unfold plainB inI
  simp[h2,h3]
 unfold opE
 rw[if_pos (by rw[hp];exact hm.1),if_pos rfl,h1]
 simp only
 rw[if_pos hm.2]
theorem op_i{f:Fnc}{op i n:Int}(hm:takB op i 4=true):opE f op i ⟨4,0,n,0⟩=none:=by
 have hp:plainB ⟨4,0,n,0⟩=true:=by unfold plainB;simp
 unfold opE
 rw[if_pos (by rw[hp];exact hm),if_neg (by show ¬(4:Int)=1;decide)]
theorem op_n{f:Fnc}{op i:Int}(hm:takB op i 0=true):opE f op i ⟨0,0,0,0⟩=none:=by
 have hp:plainB ⟨0,0,0,0⟩=true:=by decide
 unfold opE
 rw[if_pos (by rw[hp];exact hm),if_neg (by decide)]
structure IQ (f:Fnc) (H:Int→Prop) (x:Ins):Prop where
 ar:arB x=true
 nm:x.name.size≤64
 al:x.args.length≤8
 dst:opE f x.op (-1) x.dst=none
 od: ∀(k:Nat) o,x.args[k]?=some o→opE f x.op (k:Int) o=none
 us: ∀a∈x.args,a.kind=1→H a.n
structure Mh (m:zH):Prop where
 z:0∈m.has
 o:1∈m.has
 g0:m.ids.a0[0]?=some 0
 x0:m.ids.a1[0]?=some 1
theorem use_full{m:zH}{L:Nat}(h:Mk m L)(q:Mh m)(hL:L≤4000000)(fuel:Nat)(c:Bool){k:Int}(hk:u8 k): ∃v,v∈m.ids.at c∧v∈m.has∧pz48 fuel m (if c=true then 1 else 0) k=some ⟨1,0,v,0⟩:=by
 obtain⟨b1,b2⟩:=h.at c
 obtain⟨x1,x2,e1,e2,e3⟩:=pick_idx b1 b2 hk
 obtain⟨y,hy,hyh⟩: ∃y,(m.ids.at c)[0]?=some y∧y∈m.has:=by
  cases c
  ·exact⟨0,q.g0,q.z⟩
  ·exact⟨1,q.x0,q.o⟩
 have hc:ix2 (if c=true then 1 else 0)=some c:=by cases c<;>rfl
 have hin:=in_ref (l:=m.has) (by have:=h.has;omega) fuel x2
 have e0:idx (m.ids.at c) 0=some y:=zp (i:=0) hy
 unfold pz48 pz46
 simp only[hc,Option.bind_some,e1,e2,hin]
 by_cases hm:x2∈m.has
 ·exact⟨x2,e3,hm,by simp[hm]⟩
 ·exact⟨y,List.mem_of_getElem? hy,hyh,by simp[hm,e0]⟩
theorem at1{α:Type}{a:α}{P:Nat→α→Prop}(h:P 0 a): ∀(k:Nat) o,[a][k]?=some o→P k o:=by
 intro k o e
 rcases k with _|k
 ·cases e;exact h
 ·cases e
theorem at2{α:Type}{a b:α}{P:Nat→α→Prop}(h:P 0 a)(q:P 1 b): ∀(k:Nat) o,[a,b][k]?=some o→P k o:=by
 intro k o e
 rcases k with _|_|k
 ·cases e;exact h
 ·cases e;exact q
 ·cases e
structure Nx (m m':zH) (x:Ins) (L:Nat):Prop where
 mkr:Mk m' (L+1)
 f:m'.f=m.f
 ids:m'.ids=m.ids
 has: ∀v,v∈m'.has↔v∈m.has∨gv x=some v
theorem instr_full{f:Fnc}{m:zH}{L:Nat}(h:Mk m L)(q:Mh m)(hF:Has f m.ids)(hL:L≤4000000)(fuel:Nat){d:DIns}(hd:rI d): ∃x m',pz4d fuel m d=some (x,m')∧Nx m m' x L∧IQ f (fun v=>v∈m.has) x∧(1≤x.op∧x.op≤19)∧x.labels=[]∧x.cases=[]:=by
 obtain⟨hop,hdd,hda,hdb⟩:=hd
 obtain⟨o0,o1⟩:=zzZ hop.1 (show(0:Int)<19 by omega)
 have hopw:IntKind.wrap .i64 (1+Int.tmod (IntKind.wrap .i64 d.op) 19)=1+Int.tmod d.op 19:=by rw[wrap8 hop];exact zz (by omega) (by omega)
 have b3:=zzZ hdb.1 (show(0:Int)<3 by omega)
 have gv0: ∀k:Int,u8 k→ ∃v m',v∈m.ids.at false∧pz4b fuel m 0 k=some (⟨1,0,v,0⟩,m')∧Mk m' (L+1)∧m'.f=m.f∧m'.ids=m.ids∧(∀x,x∈m'.has↔x∈m.has∨x=v):=fun k hk=>mgive_ok h hL fuel false hk
 have gv1: ∀k:Int,u8 k→ ∃v m',v∈m.ids.at true∧pz4b fuel m 1 k=some (⟨1,0,v,0⟩,m')∧Mk m' (L+1)∧m'.f=m.f∧m'.ids=m.ids∧(∀x,x∈m'.has↔x∈m.has∨x=v):=fun k hk=>mgive_ok h hL fuel true hk
 have us0: ∀k:Int,u8 k→ ∃v,v∈m.ids.at false∧v∈m.has∧pz48 fuel m 0 k=some ⟨1,0,v,0⟩:=fun k hk=>use_full h q hL fuel false hk
 have us1: ∀k:Int,u8 k→ ∃v,v∈m.ids.at true∧v∈m.has∧pz48 fuel m 1 k=some ⟨1,0,v,0⟩:=fun k hk=>use_full h q hL fuel true hk
 have nx: ∀{v:Int} {m':zH} {x:Ins},x.dst=⟨1,0,v,0⟩→Mk m' (L+1)→m'.f=m.f→m'.ids=m.ids→(∀x,x∈m'.has↔x∈m.has∨x=v)→Nx m m' x L:=by
  intro v m' x e h1 h2 h3 h4
  refine⟨h1,h2,h3,fun y=>?_⟩
  rw[h4 y]
  unfold gv
  rw[e]
  simp only[if_true,Option.some.injEq]
  exact⟨fun h=>h.elim .inl fun h=> .inr h.symm,fun h=>h.elim .inl fun h=> .inr h.symm⟩
 have nx0: ∀{x:Ins},x.dst=⟨0,0,0,0⟩→Nx m m x L:=by
  intro x e
  refine⟨h.mono (by omega),rfl,rfl,fun y=>?_⟩
  unfold gv
  rw[e]
  simp
 unfold pz4d
 simp only[hopw]
 by_cases c16:1+Int.tmod d.op 19=16
 ·have mc:=may_copy
  simp only[Bool.and_eq_true] at mc
  obtain⟨⟨⟨⟨mc1,mc2⟩,mc3⟩,mc4⟩,mc5⟩:=mc
  simp only[c16,decide_true,if_true,pz47,Option.bind_some]
  have hd2:=zzZ hdd.1 (show(0:Int)<2 by omega)
  have hq:u8 (IntKind.wrap .u8 (Int.tdiv d.d 2)):=wrap_u8 _
  obtain⟨c,v,m',gm,g1,g2,g3,g4,g5⟩: ∃(c:Bool) (v:Int) (m':zH),v∈m.ids.at c∧pz4b fuel m (Int.tmod (IntKind.wrap .i64 d.d) 2) (IntKind.wrap .u8 (Int.tdiv d.d 2))=some (⟨1,0,v,0⟩,m')∧Mk m' (L+1)∧m'.f=m.f∧m'.ids=m.ids∧(∀x,x∈m'.has↔x∈m.has∨x=v):=by
   rw[wrap8 hdd]
   have:Int.tmod d.d 2=0∨Int.tmod d.d 2=1:=by omega
   rcases this with e|e
   ·rw[e];exact⟨false,gv0 _ hq⟩
   ·rw[e];exact⟨true,gv1 _ hq⟩
  have hdst:opE f 16 (-1) ⟨1,0,v,0⟩=none:=zzv hF gm (by cases c<;>assumption)
  by_cases cb:0<Int.tmod d.b 3
  ·obtain⟨c',u,hum,huh,hu⟩: ∃(c':Bool) (u:Int),u∈m.ids.at c'∧u∈m.has∧pz48 fuel m (IntKind.wrap .i64 ((IntKind.wrap .i64 (Int.tmod d.b 3))-1)) d.a=some ⟨1,0,u,0⟩:=by
    rw[zz (x:=Int.tmod d.b 3) (by omega) (by omega),zz (by omega) (by omega)]
    have:Int.tmod d.b 3-1=0∨Int.tmod d.b 3-1=1:=by omega
    rcases this with e|e
    ·rw[e];exact⟨false,us0 _ hda⟩
    ·rw[e];exact⟨true,us1 _ hda⟩
   simp only[cb,decide_true,if_true,hu,Option.bind_some,idx,setI,g1]
   refine⟨_,_,rfl,nx rfl g2 g3 g4 g5,⟨ar_copy,by show(0:Nat)≤64;omega,by show(1:Nat)≤8;omega,hdst,at1 (zzv hF hum (by cases c'<;>assumption)),fun a ha hk=>?_⟩,⟨by show(1:Int)≤16;omega,by show(16:Int)≤19;omega⟩,rfl,rfl⟩
   rw[List.mem_singleton.1 ha];exact huh
  ·simp only[cb,decide_false,Bool.false_eq_true,if_false,Option.bind_some,g1]
   refine⟨_,_,rfl,nx rfl g2 g3 g4 g5,⟨ar_copy,by show(0:Nat)≤64;omega,by show(1:Nat)≤8;omega,hdst,at1 (op_i mc5),fun a ha hk=>?_⟩,⟨by show(1:Int)≤16;omega,by show(16:Int)≤19;omega⟩,rfl,rfl⟩
   rw[List.mem_singleton.1 ha] at hk;cases hk
 ·simp only[c16,decide_false,Bool.false_eq_true,if_false]
  by_cases c17:1+Int.tmod d.op 19=17
  ·have mc:=may_load
   simp only[Bool.and_eq_true] at mc
   obtain⟨u,hum,huh,hu⟩:=us1 _ hda
   obtain⟨v,m',gm,g1,g2,g3,g4,g5⟩:=gv0 _ hdd
   simp only[c17,decide_true,if_true,hu,g1,Option.bind_some]
   refine⟨_,_,rfl,nx rfl g2 g3 g4 g5,⟨ar_load _,by show(0:Nat)≤64;omega,by show(1:Nat)≤8;omega,zzv hF gm mc.1,at1 (zzv hF hum mc.2),fun a ha hk=>?_⟩,⟨by show(1:Int)≤17;omega,by show(17:Int)≤19;omega⟩,rfl,rfl⟩
   rw[List.mem_singleton.1 ha];exact huh
  ·simp only[c17,decide_false,Bool.false_eq_true,if_false]
   by_cases c18:1+Int.tmod d.op 19=18
   ·have mc:=may_store
    simp only[Bool.and_eq_true] at mc
    obtain⟨u,hum,huh,hu⟩:=us1 _ hda
    obtain⟨v,hvm,hvh,hv⟩:=us0 _ hdb
    simp only[c18,decide_true,if_true,hu,hv,Option.bind_some]
    refine⟨_,_,rfl,nx0 rfl,⟨ar_store _,by show(0:Nat)≤64;omega,by show(2:Nat)≤8;omega,op_n mc.1.1,at2 (zzv hF hvm mc.1.2) (zzv hF hum mc.2),fun a ha hk=>?_⟩,⟨by show(1:Int)≤18;omega,by show(18:Int)≤19;omega⟩,rfl,rfl⟩
    rcases List.mem_cons.1 ha with rfl|ha
    ·exact hvh
    ·rw[List.mem_singleton.1 ha];exact huh
   ·simp only[c18,decide_false,Bool.false_eq_true,if_false]
    by_cases c19:1+Int.tmod d.op 19=19
    ·have mc:=may_call
     simp only[Bool.and_eq_true] at mc
     have ha3:=zzZ hda.1 (show(0:Int)<3 by omega)
     have hb4:=zzZ hdb.1 (show(0:Int)<4 by omega)
     obtain⟨n3,hn3⟩:=Int.eq_ofNat_of_zero_le ha3.1
     obtain⟨n4,hn4⟩:=Int.eq_ofNat_of_zero_le hb4.1
     obtain⟨nm,hnm⟩:=getAt (xs:=([(⟨#[102]⟩:ByteArray),(⟨#[103]⟩:ByteArray),(⟨#[112,117,116,10]⟩:ByteArray)]:List ByteArray)) (i:=n3) (by simp;omega)
     have hnms:nm.size≤64:=by
      have:n3=0∨n3=1∨n3=2:=by omega
      rcases this with rfl|rfl|rfl<;>(cases hnm;decide)
     obtain⟨s,h1,h2,h3⟩:=toN_inv (fun i (s:List Opd)=>s.length=i∧ ∀(k:Nat) o,s[k]?=some o→(∃n,o=⟨4,0,n,0⟩)∨ ∃v,v∈m.ids.at false∧v∈m.has∧o=⟨1,0,v,0⟩) (fun i s=>pz4c fuel m d i s) n4 (by omega) (s:=[]) ⟨rfl,by simp⟩ (by
      rintro i s hi ⟨hs,hs2⟩
      have ap: ∀o,app s [o]=some (s++[o]):=fun o=>yf (by simp;omega)
      have fin: ∀o,((∃n,o=(⟨4,0,n,0⟩:Opd))∨ ∃v,v∈m.ids.at false∧v∈m.has∧o=⟨1,0,v,0⟩)→(s++[o]).length=i+1∧ ∀(k:Nat) o',(s++[o])[k]?=some o'→(∃n,o'=⟨4,0,n,0⟩)∨ ∃v,v∈m.ids.at false∧v∈m.has∧o'=⟨1,0,v,0⟩:=by
       intro o ho
       refine⟨by simp[hs],fun k o' e=>?_⟩
       by_cases hk:k<s.length
       ·rw[List.getElem?_append_left hk] at e;exact hs2 k o' e
       ·have hl:=(List.getElem?_eq_some_iff.1 e).1
        have:k=s.length:=by simp at hl;omega
        subst this
        simp at e
        subst e;exact ho
      unfold pz4c pz47
      by_cases c:Int.tmod (IntKind.wrap .i64 ((IntKind.wrap .i64 d.n)+(i:Int))) 3=0
      ·simp only[c,decide_true,if_true,Option.bind_some,ap]
       exact⟨_,rfl,fin _ (.inl ⟨_,rfl⟩)⟩
      ·obtain⟨v,v1,v2,hv⟩:=us0 _ (wrap_u8 (d.a+(IntKind.wrap .u8 ((IntKind.wrap .u8 (i:Int))*d.b))))
       simp only[c,decide_false,Bool.false_eq_true,if_false,hv,Option.bind_some,ap]
       exact⟨_,rfl,fin _ (.inr ⟨v,v1,v2,rfl⟩)⟩)
     have hod: ∀(k:Nat) o,s[k]?=some o→opE f 19 (k:Int) o=none:=by
      intro k o e
      have hl:=(List.getElem?_eq_some_iff.1 e).1
      have t:=may_calls ⟨k,by omega⟩
      simp only[Bool.and_eq_true] at t
      rcases h3 k o e with ⟨n,rfl⟩|⟨v,v1,_,rfl⟩
      ·exact op_i t.2
      ·exact zzv hF v1 t.1
     have hus: ∀a∈s,a.kind=1→a.n∈m.has:=by
      intro a ha hk
      obtain⟨k,e⟩:=List.getElem?_of_mem ha
      rcases h3 k a e with ⟨n,rfl⟩|⟨v,_,v2,rfl⟩
      ·cases hk
      ·exact v2
     have har: ∀(dk c:Bool),arD 19 s.length 0 0 dk c true=true:=fun dk c=>by
      have:=ar_call ⟨s.length,by omega⟩ dk c
      exact this
     simp only[c19,decide_true,if_true]
     rw[wrap8 hda,wrap8 hdb,hn3,hn4,zp hnm]
     simp only[Option.bind_some,h1]
     by_cases cd:0<Int.tmod d.d 3
     ·obtain⟨v,m',gm,g1,g2,g3,g4,g5⟩:=gv0 _ hdd
      simp only[cd,decide_true,if_true,g1,Option.bind_some]
      exact⟨_,_,rfl,nx rfl g2 g3 g4 g5,⟨har _ _,hnms,by show s.length≤8;omega,zzv hF gm mc.1,hod,hus⟩,⟨by show(1:Int)≤19;omega,by show(19:Int)≤19;omega⟩,rfl,rfl⟩
     ·simp only[cd,decide_false,Bool.false_eq_true,if_false,Option.bind_some]
      exact⟨_,_,rfl,nx0 rfl,⟨har _ _,hnms,by show s.length≤8;omega,op_n mc.2,hod,hus⟩,⟨by show(1:Int)≤19;omega,by show(19:Int)≤19;omega⟩,rfl,rfl⟩
    ·simp only[c19,decide_false,Bool.false_eq_true,if_false]
     obtain⟨o,ho⟩:=yzE (n:=15) (x:=Int.tmod d.op 19) (by omega) (by omega)
     have ho1:1+Int.tmod d.op 19=(o.val:Int)+1:=by omega
     have mc:=may_two o
     have har:=ar_two o
     rw[←ho1] at mc har
     simp only[Bool.and_eq_true] at mc
     obtain⟨⟨⟨mc1,mc2⟩,mc3⟩,mc4⟩:=mc
     obtain⟨u,hum,huh,hu⟩:=us0 _ hda
     obtain⟨v,m',gm,g1,g2,g3,g4,g5⟩:=gv0 _ hdd
     simp only[hu,pz47,Option.bind_some]
     by_cases cb:0<Int.tmod d.b 3
     ·obtain⟨w,hwm,hwh,hw⟩:=us0 _ hdb
      simp only[cb,decide_true,if_true,hw,Option.bind_some,idx,setI,g1]
      refine⟨_,_,rfl,nx rfl g2 g3 g4 g5,⟨har,by show(0:Nat)≤64;omega,by show(2:Nat)≤8;omega,zzv hF gm mc1,at2 (zzv hF hum mc2) (zzv hF hwm mc3),fun a ha hk=>?_⟩,⟨by show(1:Int)≤1+Int.tmod d.op 19;omega,by show 1+Int.tmod d.op 19≤(19:Int);omega⟩,rfl,rfl⟩
      rcases List.mem_cons.1 ha with rfl|ha
      ·exact huh
      ·rw[List.mem_singleton.1 ha];exact hwh
     ·simp only[cb,decide_false,Bool.false_eq_true,if_false,Option.bind_some,g1]
      refine⟨_,_,rfl,nx rfl g2 g3 g4 g5,⟨har,by show(0:Nat)≤64;omega,by show(2:Nat)≤8;omega,zzv hF gm mc1,at2 (zzv hF hum mc2) (op_i mc4),fun a ha hk=>?_⟩,⟨by show(1:Int)≤1+Int.tmod d.op 19;omega,by show 1+Int.tmod d.op 19≤(19:Int);omega⟩,rfl,rfl⟩
      rcases List.mem_cons.1 ha with rfl|ha
      ·exact huh
      ·rw[List.mem_singleton.1 ha] at hk;cases hk
end Go.Proofs.YtmogcnnhbmaffaaGreat.PL
set_option linter.unusedVariables false
set_option linter.unusedSimpArgs false
set_option maxRecDepth 100000
namespace Go.Proofs.YtmogcnnhbmaffaaGreat.PL
open Go
def casOk(l:List Int):Prop:= ∀k,casG l k=none
theorem zzI:casOk []:=fun k=>by unfold casG;simp
theorem cas_one(a:Int):casOk [a]:=fun k=>by
 unfold casG
 rcases k with _|k<;>simp
theorem cas_two{a b:Int}(h:a≠b):casOk [a,b]:=fun k=>by
 unfold casG
 rcases k with _|_|k
 ·simp
 ·simp[h.symm]
 ·simp
theorem last_full{f:Fnc}{m:zH}{L:Nat}(h:Mk m L)(q:Mh m)(hF:Has f m.ids)(hL:L≤4000000)(fuel:Nat){b:DBl}(hb:rB b){n i:Nat}(hn:1≤n)(hn9:n≤9)(hi:i<n):
  ∃x,pz4e fuel m b i n=some x∧LOk n i x∧IQ f (fun v=>v∈m.has) x∧casOk x.cases:=by
 obtain⟨_,ht,hba,hbb,hbv⟩:=hb
 obtain⟨v,hvm,hvh,hv⟩:=use_full h q hL fuel false hbv
 simp only[Bool.false_eq_true,if_false] at hv
 have mr:=may_ret
 have mb:=may_brif
 have ms:=may_sw
 simp only[Bool.and_eq_true] at mr mb ms
 have one: ∀a∈[(⟨1,0,v,0⟩:Opd)],a.kind=1→a.n∈m.has:=fun a ha _=>by rw[List.mem_singleton.1 ha];exact hvh
 unfold pz4e
 rw[hv,zz (x:=(n:Int)-1) (by omega) (by omega),zz (x:=(i:Int)+1) (by omega) (by omega)]
 simp only[Option.bind_some]
 by_cases c1:((decide ((n:Int)=1))||((decide ((i:Int)=(n:Int)-1))&&(decide ((Int.tmod b.term 3)=0))))=true
 ·rw[if_pos c1]
  have hlast: ¬(i+1<n):=by
   simp at c1
   omega
  by_cases c2:Int.tmod b.v 7=6
  ·simp only[c2,decide_true,if_true,pz47,Option.bind_some]
   exact⟨_,rfl,⟨by simp,by simp,by simp,fun q=>absurd q hlast⟩,⟨ar_ret,by show(0:Nat)≤64;omega,by show(1:Nat)≤8;omega,op_n mr.1.1,at1 (op_i mr.2),fun a ha hk=>by rw[List.mem_singleton.1 ha] at hk;cases hk⟩,zzI⟩
  ·simp only[c2,decide_false,Bool.false_eq_true,if_false,Option.bind_some]
   exact⟨_,rfl,⟨by simp,by simp,by simp,fun q=>absurd q hlast⟩,⟨ar_ret,by show(0:Nat)≤64;omega,by show(1:Nat)≤8;omega,op_n mr.1.1,at1 (zzv hF hvm mr.1.2),one⟩,zzI⟩
 ·rw[if_neg c1]
  have hn2:2≤n:=by
   simp at c1
   omega
  obtain⟨ja,a1,a2,ha⟩:=goal_ok fuel hba hn2 hn9
  obtain⟨jb,b1,b2,hbg⟩:=goal_ok fuel hbb hn2 hn9
  obtain⟨jn,n1,n2,hnx,hn0⟩: ∃jn,1≤jn∧jn<n∧(if decide ((i:Int)<(n:Int)-1)=true then(pz49 fuel ((i:Int)+1)).bind fun r4=>some r4 else some (lab ja))=some (lab jn)∧(i+1<n→jn=i+1):=by
   by_cases c:i+1<n
   ·refine⟨i+1,by omega,c,?_,fun _=>rfl⟩
    rw[if_pos (by simp;omega),show(i:Int)+1=((i+1:Nat):Int) by omega,label_all (i+1) (by omega)]
    rfl
   ·exact⟨ja,a1,a2,by rw[if_neg (by simp;omega)],fun q=>absurd q c⟩
  simp only[ha,Option.bind_some,hnx,hbg]
  have nx: ∀l:List ByteArray,lab jn∈l→(i+1<n→lab (i+1)∈l):=fun l hl q=>by rw[←hn0 q];exact hl
  have fin: ∀(x:Ins),(20≤x.op∧x.op≤23)→x.labels.length≤3→(∀l∈x.labels,l=lab ja∨l=lab jb∨l=lab jn)→lab jn∈x.labels→LOk n i x:=fun x h1 h2 h3 h4=>
   ⟨h1,h2,fun l hl=>by
    rcases h3 l hl with e|e|e
    ·exact⟨ja,a1,a2,e⟩
    ·exact⟨jb,b1,b2,e⟩
    ·exact⟨jn,n1,n2,e⟩,nx _ h4⟩
  have iqb: ∀l1 l2:ByteArray,IQ f (fun v=>v∈m.has) ⟨21,⟨0,0,0,0⟩,[⟨1,0,v,0⟩],⟨#[]⟩,0,[l1,l2],[]⟩:=fun l1 l2=>
   ⟨ar_brif,by show(0:Nat)≤64;omega,by show(1:Nat)≤8;omega,op_n mb.1,at1 (zzv hF hvm mb.2),one⟩
  by_cases t0:Int.tmod b.term 4=0
  ·simp only[t0,decide_true,if_true,Option.bind_some]
   by_cases t8:Int.tmod b.term 8<4
   ·simp only[t8,decide_true,if_true,bindE]
    exact⟨_,rfl,fin _ (by simp) (by simp) (by simp) (by simp),iqb _ _,zzI⟩
   ·simp only[t8,decide_false,Bool.false_eq_true,if_false,bindE]
    exact⟨_,rfl,fin _ (by simp) (by simp) (by simp) (by simp),iqb _ _,zzI⟩
  ·simp only[t0,decide_false,Bool.false_eq_true,if_false,Option.bind_some]
   by_cases t1:Int.tmod b.term 4=1
   ·simp only[t1,decide_true,if_true]
    by_cases t8:Int.tmod b.term 8<4
    ·simp only[t8,decide_true,if_true,bindE]
     exact⟨_,rfl,fin _ (by simp) (by simp) (by simp) (by simp),iqb _ _,zzI⟩
    ·simp only[t8,decide_false,Bool.false_eq_true,if_false,bindE]
     exact⟨_,rfl,fin _ (by simp) (by simp) (by simp) (by simp),iqb _ _,zzI⟩
   ·simp only[t1,decide_false,Bool.false_eq_true,if_false]
    by_cases t2:Int.tmod b.term 4=2
    ·have h3:=zzZ (a:=IntKind.wrap .i64 b.a) (by rw[wrap8 hba];exact hba.1) (show(0:Int)<3 by omega)
     simp only[t2,decide_true,if_true]
     by_cases v2:Int.tmod b.v 2=0
     ·simp only[v2,decide_true,if_true,sli,bindE]
      exact⟨_,rfl,fin _ (by simp) (by simp) (by simp) (by simp),⟨ar_sw 0,by show(0:Nat)≤64;omega,by show(1:Nat)≤8;omega,op_n ms.1,at1 (zzv hF hvm ms.2),one⟩,cas_one _⟩
     ·simp only[v2,decide_false,Bool.false_eq_true,if_false,Option.bind_some,bindE]
      exact⟨_,rfl,fin _ (by simp) (by simp) (by simp) (by simp),⟨ar_sw 1,by show(0:Nat)≤64;omega,by show(1:Nat)≤8;omega,op_n ms.1,at1 (zzv hF hvm ms.2),one⟩,cas_two (by omega)⟩
    ·simp only[t2,decide_false,Bool.false_eq_true,if_false,bindE]
     exact⟨_,rfl,fin _ (by simp) (by simp) (by simp) (by simp),⟨ar_br,by show(0:Nat)≤64;omega,by show(0:Nat)≤8;omega,op_n may_br,by simp,by simp⟩,zzI⟩
theorem IQ.mono{f:Fnc}{H H':Int→Prop}{x:Ins}(h:IQ f H x)(k: ∀v,H v→H' v):IQ f H' x:=⟨h.ar,h.nm,h.al,h.dst,h.od,fun a ha hk=>k _ (h.us a ha hk)⟩
def Cod(f:Fnc)(P:Int→Prop)(c:List Ins):Prop:= ∀(i:Nat) x,c[i]?=some x→IQ f (fun v=>P v∨ ∃y∈c.take i,gv y=some v) x∧(1≤x.op∧x.op≤19)∧x.labels=[]∧x.cases=[]
theorem Cod.nil(f:Fnc)(P:Int→Prop):Cod f P []:=fun i x h=>by cases h
theorem Cod.snoc{f:Fnc}{P:Int→Prop}{c:List Ins}{x:Ins}(h:Cod f P c)(k:IQ f (fun v=>P v∨ ∃y∈c,gv y=some v) x)(k2:(1≤x.op∧x.op≤19)∧x.labels=[]∧x.cases=[]):Cod f P (c++[x]):=by
 intro i y e
 by_cases hi:i<c.length
 ·rw[List.getElem?_append_left hi] at e
  rw[List.take_append_of_le_length (by omega)]
  exact h i y e
 ·have hl:=(List.getElem?_eq_some_iff.1 e).1
  have:i=c.length:=by simp at hl;omega
  subst this
  simp at e
  subst e
  rw[List.take_left']
  ·exact⟨k,k2⟩
  ·rfl
def rf(d:Drf):Fnc:=⟨false,⟨#[102]⟩,rgs d 12,[],[]⟩
theorem rgs_at{d:Drf}{n:Nat}{r:Rg}(h:r∈rgs d n): ∃i:Nat,i<n∧r=⟨(i:Int),((i%2:Nat):Int)⟩:=by
 unfold rgs at h
 obtain⟨i,hi,rfl⟩:=List.mem_map.1 h
 rw[List.mem_filter,List.mem_range] at hi
 exact⟨i,hi.1,rfl⟩
theorem rgs_in{d:Drf}{n i:Nat}(hi:i<n)(h:i/2<if i%2=0 then cntG d else cntX d):(⟨(i:Int),((i%2:Nat):Int)⟩:Rg)∈rgs d n:=by
 unfold rgs
 refine List.mem_map.2 ⟨i,?_,rfl⟩
 rw[List.mem_filter,List.mem_range]
 exact⟨hi,by simpa using h⟩
theorem rgs_cls{d:Drf}{f:Fnc}(hf:f.regs=rgs d 12){r:Rg}(h:r∈rgs d 12):cls f r.id=some r.cls:=by
 cases e:cls f r.id with
 |none=>
  unfold cls at e
  rw[Option.map_eq_none_iff,List.find?_eq_none,hf] at e
  exact absurd (by simp:decide (r.id=r.id)=true) (e r h)
 |some c=>
  obtain⟨g,h1,h2,h3⟩:=cls_mem e
  rw[hf] at h1
  obtain⟨i,_,rfl⟩:=rgs_at h
  obtain⟨j,_,rfl⟩:=rgs_at h1
  simp only at h2 h3
  have:i=j:=by omega
  subst this
  rw[←h3]
theorem cnt_pos(d:Drf):(1≤cntG d∧cntG d≤6)∧1≤cntX d∧cntX d≤3:=by
 unfold cntG cntX
 have h1:d.g.toNat%6<6:=Nat.mod_lt _ (by decide)
 have h2:d.x.toNat%3<3:=Nat.mod_lt _ (by decide)
 omega
theorem has_ids{d:Drf}{f:Fnc}(hf:f.regs=rgs d 12):Has f ⟨idsG (cntG d),idsX (cntX d)⟩:=by
 obtain⟨⟨g1,g6⟩,x1,x3⟩:=cnt_pos d
 intro c v hv
 cases c with
 |false=>
  have hv':v∈idsG (cntG d):=hv
  unfold idsG at hv'
  obtain⟨i,hi,rfl⟩:=List.mem_map.1 hv'
  rw[List.mem_range] at hi
  have:=rgs_cls hf (rgs_in (d:=d) (n:=12) (i:=2*i) (by omega) (by rw[if_pos (by omega)];omega))
  simp only at this
  refine⟨?_,by omega,by omega⟩
  rw[show(2*(i:Int))=((2*i:Nat):Int) by omega,this,show 2*i%2=0 by omega];rfl
 |true=>
  have hv':v∈idsX (cntX d):=hv
  unfold idsX at hv'
  obtain⟨i,hi,rfl⟩:=List.mem_map.1 hv'
  rw[List.mem_range] at hi
  have:=rgs_cls hf (rgs_in (d:=d) (n:=12) (i:=2*i+1) (by omega) (by rw[if_neg (by omega)];omega))
  simp only at this
  refine⟨?_,by omega,by omega⟩
  rw[show(2*(i:Int)+1)=((2*i+1:Nat):Int) by omega,this,show(2*i+1)%2=1 by omega];rfl
theorem rgs_two(d:Drf): ∃t,rgs d 12=⟨0,0⟩::⟨1,1⟩::t:=by
 obtain⟨⟨g1,g6⟩,x1,x3⟩:=cnt_pos d
 unfold rgs
 rw[show List.range 12=0::1::List.range' 2 10 from rfl,List.filter_cons_of_pos (by simp;omega),List.filter_cons_of_pos (by simp;omega)]
 exact⟨_,rfl⟩
theorem id_ids{d:Drf}{r:Rg}(h:r∈rgs d 12): ∃c:Bool,r.cls=(if c=true then 1 else 0)∧0≤r.id∧r.id≤2147483647:=by
 obtain⟨i,hi,rfl⟩:=rgs_at h
 simp only
 rcases Nat.mod_two_eq_zero_or_one i with e|e
 ·exact⟨false,by rw[e];rfl,by omega,by omega⟩
 ·exact⟨true,by rw[e];rfl,by omega,by omega⟩
def prs(l:List Rg):List Opd:=l.map fun r=>⟨1,0,r.id,0⟩
theorem copy_iq{d:Drf}{H:Int→Prop}{r:Rg}(h:r∈rgs d 12)(n:Int):IQ (rf d) H ⟨16,⟨1,0,r.id,0⟩,[⟨4,0,n,0⟩],⟨#[]⟩,0,[],[]⟩:=by
 have mc:=may_copy
 simp only[Bool.and_eq_true] at mc
 obtain⟨c,hc,h1,h2⟩:=id_ids h
 have hF:Has (rf d) ⟨if c=true then [] else [r.id],if c=true then [r.id] else []⟩:=by
  intro c' v hv
  have hcl:=rgs_cls (f:=rf d) rfl h
  cases c<;>cases c'<;>simp[A2.at] at hv
  ·subst hv;exact⟨by rw[hcl,hc],h1,h2⟩
  ·subst hv;exact⟨by rw[hcl,hc],h1,h2⟩
 refine⟨ar_copy,by show(0:Nat)≤64;omega,by show(1:Nat)≤8;omega,?_,at1 (op_i mc.2),fun a ha hk=>?_⟩
 ·refine zzv hF (c:=c) ?_ ?_
  ·cases c<;>simp[A2.at]
  ·cases c
   ·exact mc.1.1.1.1
   ·exact mc.1.1.1.2
 ·rw[List.mem_singleton.1 ha] at hk;cases hk
structure Pre (d:Drf) (k:Nat) (a:List Opd) (b:List Int) (c:List Ins):Prop where
 pars: ∃p,a=prs ((rgs d 12).take p)
 bl:b.length≤k
 cl:c.length≤k
 cod:Cod (rf d) (fun v=>(⟨1,0,v,0⟩:Opd)∈a) c
 has: ∀v∈b,(⟨1,0,v,0⟩:Opd)∈a∨ ∃y∈c,gv y=some v
 two: ∀(j:Nat) r,j<k→j<2→(rgs d 12)[j]?=some r→r.id∈b
theorem make_b4F{d:Drf}(h:rD d){fuel:Nat}(hf:20<fuel): ∃i a b c,loopE fuel (fun s=>pz4i fuel d (rgs d 12) s.1 s.2.1 s.2.2.1 s.2.2.2) (0,([]:List Opd),([]:List Int),([]:List Ins))=some (.n (i,a,b,c))∧Pre d (rgs d 12).length a b c:=by
 have hl:=rgs_len d 12
 generalize hp:(Int.tmod d.params (((rgs d 12).length:Int)+1)).toNat=p
 have hp0:=zzZ h.2.2.1.1 (show(0:Int)<((rgs d 12).length:Int)+1 by omega)
 refine Or.elim (yO (fun s:Int×List Opd×List Int×List Ins=> ∃k:Nat,s.1=k∧k≤(rgs d 12).length∧s.2.1=prs ((rgs d 12).take (min k p))∧Pre d k s.2.1 s.2.2.1 s.2.2.2) (fun s=>Pre d (rgs d 12).length s.2.1 s.2.2.1 s.2.2.2) (fun _:Fnc=>False) (fun s=>(rgs d 12).length-s.1.toNat)
  (fun s=>pz4i fuel d (rgs d 12) s.1 s.2.1 s.2.2.1 s.2.2.2) ?_ fuel (0,[],[],[]) ⟨0,rfl,by omega,by simp[prs],⟨⟨0,by simp[prs]⟩,by simp,by simp,Cod.nil _ _,by simp,fun j r h=>by omega⟩⟩ (by simp;omega)) ?_ ?_
 rotate_left
 ·rintro⟨⟨a,b,c,e⟩,h1,h2⟩
  exact⟨a,b,c,e,h1,h2⟩
 ·rintro⟨v,_,h⟩;exact h.elim
 ·rintro⟨i,a,b,c⟩ ⟨k,hi,hk,ha,hP⟩
  simp only at hi ha hP
  subst hi
  show(∃s',pz4i fuel d (rgs d 12) (k:Int) a b c=some (.n s')∧_)∨(∃s',pz4i fuel d (rgs d 12) (k:Int) a b c=some (.b s')∧_)∨_
  unfold pz4i
  by_cases hlt:k<(rgs d 12).length
  ·left
   obtain⟨x,hx⟩:=getAt hlt
   have hxm:=List.mem_of_getElem? hx
   have hlt':(k:Int)<((rgs d 12).length:Int):=by omega
   have hbl:=hP.bl
   have hcl:=hP.cl
   have hal:a.length≤k:=by rw[ha];simp[prs];omega
   have hr:rem (IntKind.wrap .i64 d.params) (IntKind.wrap .i64 (((rgs d 12).length:Int)+1))=some (p:Int):=by
    unfold rem
    rw[wrap8 h.2.2.1,zz (x:=((rgs d 12).length:Int)+1) (by omega) (by omega),if_neg (by omega)]
    congr 1
    omega
   have hm: ∀k':Nat,k'=k+1→(rgs d 12).length-((k':Nat):Int).toNat<(rgs d 12).length-((k:Nat):Int).toNat:=by intro k' e;omega
   have a1:app a [(⟨1,0,x.id,0⟩:Opd)]=some (a++[⟨1,0,x.id,0⟩]):=yf (by simp;omega)
   have a2:app b [x.id]=some (b++[x.id]):=yf (by simp;omega)
   have a3:app c [(⟨16,⟨1,0,x.id,0⟩,[⟨4,0,IntKind.wrap .i64 (3*x.id),0⟩],(⟨#[]⟩:ByteArray),0,[],[]⟩:Ins)]=some (c++[⟨16,⟨1,0,x.id,0⟩,[⟨4,0,IntKind.wrap .i64 (3*x.id),0⟩],(⟨#[]⟩:ByteArray),0,[],[]⟩]):=yf (by simp;omega)
   have two: ∀b':List Int,(∀v∈b,v∈b')→(k<2→x.id∈b')→ ∀(j:Nat) r,j<k+1→j<2→(rgs d 12)[j]?=some r→r.id∈b':=by
    intro b' h1 h2 j r hj hj2 hr
    by_cases e:j=k
    ·subst e;rw[hx] at hr;cases hr;exact h2 hj2
    ·exact h1 _ (hP.two j r (by omega) hj2 hr)
   simp only[hlt',decide_true,if_true,zp hx,Option.bind_some,hr,pz46,pz47]
   by_cases c1:(k:Int)<(p:Int)
   ·simp only[c1,decide_true,if_true,a1,a2,Option.bind_some,wrap1 (show k≤4294967296 by omega)]
    have hmin:min k p=k:=by omega
    have hmin1:min (k+1) p=k+1:=by omega
    have hnew:a++[⟨1,0,x.id,0⟩]=prs ((rgs d 12).take (min (k+1) p)):=by
     rw[hmin1,List.take_add_one,hx,ha,hmin];simp[prs]
    refine⟨_,rfl,⟨k+1,rfl,by omega,hnew,⟨⟨min (k+1) p,hnew⟩,by simp;omega,by show c.length≤k+1;omega,?_,?_,two _ (fun v hv=>List.mem_append_left _ hv) (fun _=>by simp)⟩⟩,hm _ rfl⟩
    ·intro i y e
     obtain⟨q1,q2⟩:=hP.cod i y e
     exact⟨q1.mono fun v hv=>hv.elim (fun hv=> .inl (List.mem_append_left _ hv)) .inr,q2⟩
    ·intro v hv
     rcases List.mem_append.1 hv with hv|hv
     ·exact(hP.has v hv).elim (fun h=> .inl (List.mem_append_left _ h)) .inr
     ·rw[List.mem_singleton.1 hv];exact .inl (by simp)
   ·have hmin:min (k+1) p=min k p:=by omega
    simp only[c1,decide_false,Bool.false_eq_true,if_false]
    by_cases c2:((decide ((k:Int)<2))||(decide ((IntKind.wrap .i64 ((k:Int)+2))<((rgs d 12).length:Int))))=true
    ·simp only[c2,if_true,a3,a2,Option.bind_some,wrap1 (show k≤4294967296 by omega)]
     refine⟨_,rfl,⟨k+1,rfl,by omega,by rw[hmin];exact ha,⟨hP.pars,by simp;omega,by simp;omega,hP.cod.snoc (copy_iq hxm _) ⟨⟨by show(1:Int)≤16;omega,by show(16:Int)≤19;omega⟩,rfl,rfl⟩,?_,two _ (fun v hv=>List.mem_append_left _ hv) (fun _=>by simp)⟩⟩,hm _ rfl⟩
     intro v hv
     rcases List.mem_append.1 hv with hv|hv
     ·rcases hP.has v hv with h|⟨y,hy,e⟩
      ·exact .inl h
      ·exact .inr ⟨y,List.mem_append_left _ hy,e⟩
     ·rw[List.mem_singleton.1 hv]
      exact .inr ⟨_,List.mem_append_right _ (List.mem_singleton.2 rfl),rfl⟩
    ·rw[if_neg c2]
     have hk2: ¬k<2:=by simp at c2;omega
     simp only[Option.bind_some,wrap1 (show k≤4294967296 by omega)]
     exact⟨_,rfl,⟨k+1,rfl,by omega,by rw[hmin];exact ha,⟨hP.pars,by show b.length≤k+1;omega,by show c.length≤k+1;omega,hP.cod,hP.has,two _ (fun v hv=>hv) (fun q=>absurd q hk2)⟩⟩,hm _ rfl⟩
  ·right;left
   have hlt': ¬((k:Int)<((rgs d 12).length:Int)):=by omega
   simp only[hlt',decide_false,Bool.false_eq_true,if_false]
   have:k=(rgs d 12).length:=by omega
   subst this
   exact⟨_,rfl,hP⟩
def Pi(a:List Opd)(al:List Int)(i:Nat)(v:Int):Prop:=if i=0 then(⟨1,0,v,0⟩:Opd)∈a else v∈al
structure BF (d:Drf) (a:List Opd) (al:List Int) (n i:Nat) (b:Bl):Prop where
 label:b.label=lab i
 edge:b.edge=false
 ins:b.ins=[]
 len:b.code.length≤73
 code: ∃c x,b.code=c++[x]∧Cod (rf d) (Pi a al i) c∧LOk n i x∧IQ (rf d) (fun v=>Pi a al i v∨ ∃y∈c,gv y=some v) x∧casOk x.cases∧ ∀v∈al,Pi a al i v∨ ∃y∈c,gv y=some v
structure MF (d:Drf) (n:Nat) (f:Fnc):Prop where
 mach:f.machine=false
 name:f.name=⟨#[102]⟩
 regs:f.regs=rgs d 12
 pars: ∃p,f.params=prs ((rgs d 12).take p)
 len:f.blocks.length=n
 blk: ∃al:List Int,∀(i:Nat) b,f.blocks[i]?=some b→BF d f.params al n i b
theorem make_full{d:Drf}(h:rD d)(h9:d.blocks.length≤9)(hc: ∀b∈d.blocks,b.code.length≤60){fuel:Nat}(hf:20<fuel): ∃f,pz4l fuel d=some f∧MF d (max d.blocks.length 1) f:=by
 have e1:toN 0 2 (fun i s=>pz4g fuel d i s.1 s.2) (([]:List Int),([]:List Int))=some (idsG (cntG d),idsX (cntX d)):=by
  have b0:=make_b1_0 h hf
  have b1:=make_b1_1 h hf (idsG (cntG d))
  unfold toN
  rw[if_pos (by decide),show((2:Int)-0).toNat=2 from rfl]
  simp only[forN,b0,Option.bind_some]
  rw[show(0:Int)+1=1 from rfl,b1]
  rfl
 obtain⟨rg,e2,e3⟩:=toN_inv (fun i (s:List Rg)=>s=rgs d i) (fun i s=>pz4h fuel d i s) 12 (by omega) (s:=[]) rfl (by
  rintro i s hi rfl
  exact⟨_,make_b3 h fuel hi,rfl⟩)
 subst e3
 obtain⟨i4,a4,b4,c4,e4,hP⟩:=make_b4F h hf
 have hrl:=rgs_len d 12
 have l4:=hP.bl
 have l5:=hP.cl
 have ha:app ([]:List Int) b4=some b4:=by rw[yf (by simp;omega)];rfl
 have hn:(if 1>(d.blocks.length:Int) then 1 else(d.blocks.length:Int))=((max d.blocks.length 1:Nat):Int):=by
  split<;>omega
 have hn1:1≤max d.blocks.length 1:=by omega
 have hn9:max d.blocks.length 1≤9:=by omega
 obtain⟨hcg,hcx⟩:=cnt_pos d
 obtain⟨tl,htl⟩:=rgs_two d
 have hz:(0:Int)∈b4:=hP.two 0 ⟨0,0⟩ (by rw[htl];simp) (by omega) (by rw[htl];rfl)
 have ho:(1:Int)∈b4:=hP.two 1 ⟨1,1⟩ (by rw[htl];simp) (by omega) (by rw[htl];rfl)
 generalize hN:max d.blocks.length 1=n at*
 have hids:Has (rf d) ⟨idsG (cntG d),idsX (cntX d)⟩:=has_ids rfl
 have hG0:(idsG (cntG d))[0]?=some 0:=by
  unfold idsG
  rw[List.getElem?_map,List.getElem?_range (by omega)];rfl
 have hX0:(idsX (cntX d))[0]?=some 1:=by
  unfold idsX
  rw[List.getElem?_map,List.getElem?_range (by omega)];rfl
 obtain⟨s,e5,e6⟩:=toN_inv (fun i (s:Bool×ByteArray×(List Rg)×(List Opd)×(List Bl)×(List Int)×(List Int)×(List Int)×(List Ins))=>
   (s.1=false∧s.2.1=⟨#[102]⟩∧s.2.2.1=rgs d 12∧s.2.2.2.1=a4)∧s.2.2.2.2.1.length=i∧(∀(j:Nat) b,s.2.2.2.2.1[j]?=some b→BF d a4 b4 n j b)∧s.2.2.2.2.2.1=idsG (cntG d)∧s.2.2.2.2.2.2.1=idsX (cntX d)∧s.2.2.2.2.2.2.2.2.length≤12∧Cod (rf d) (Pi a4 b4 i) s.2.2.2.2.2.2.2.2∧ ∀v∈b4,Pi a4 b4 i v∨ ∃y∈s.2.2.2.2.2.2.2.2,gv y=some v)
  (fun i s=>pz4k fuel d b4 i s.1 s.2.1 s.2.2.1 s.2.2.2.1 s.2.2.2.2.1 s.2.2.2.2.2.1 s.2.2.2.2.2.2.1 s.2.2.2.2.2.2.2.1 s.2.2.2.2.2.2.2.2) n (by omega) (s:=(false,(⟨#[102]⟩:ByteArray),rgs d 12,a4,([]:List Bl),idsG (cntG d),idsX (cntX d),b4,c4))
  ⟨⟨rfl,rfl,rfl,rfl⟩,rfl,by simp,rfl,rfl,by show c4.length≤12;omega,by show Cod (rf d) (Pi a4 b4 0) c4;exact hP.cod,by show ∀v∈b4,Pi a4 b4 0 v∨ ∃y∈c4,gv y=some v;exact hP.has⟩ (by
  rintro i ⟨m0,nm,rg,pa,bs,g,x,hs,cd⟩ hi ⟨⟨z1,z2,z3,z4⟩,k1,k2,k3,k4,k5,k6,k7⟩
  simp only at z1 z2 z3 z4 k1 k2 k3 k4 k5 k6 k7
  subst k3;subst k4;subst z1;subst z2;subst z3;subst z4
  obtain⟨db,hdb,hsel⟩: ∃db:DBl,(rB db∧db.code.length≤60)∧(if decide ((i:Int)<(d.blocks.length:Int))=true then(idx d.blocks (i:Int)).bind fun x3=>some (x3.code,x3.term,x3.a,x3.b,x3.v) else some (([]:List DIns),0,0,0,0))=some (db.code,db.term,db.a,db.b,db.v):=by
   by_cases c:i<d.blocks.length
   ·obtain⟨b,hb⟩:=getAt c
    exact⟨b,⟨h.2.2.2 b (List.mem_of_getElem? hb),hc b (List.mem_of_getElem? hb)⟩,by rw[if_pos (by simp;omega),zp hb];rfl⟩
   ·refine⟨⟨[],0,0,0,0⟩,⟨⟨by simp,⟨by decide,by decide⟩,⟨by decide,by decide⟩,⟨by decide,by decide⟩,⟨by decide,by decide⟩⟩,by simp⟩,?_⟩
    rw[if_neg (by simp;omega)]
  obtain⟨⟨m2,cd2⟩,q1,q2⟩:=toN_inv (fun j (s:zH×List Ins)=>Mk s.1 (12+j)∧Mh s.1∧s.1.f=(⟨false,⟨#[102]⟩,rgs d 12,pa,bs⟩:Fnc)∧s.1.ids=⟨idsG (cntG d),idsX (cntX d)⟩∧s.2.length≤12+j∧Cod (rf d) (Pi pa b4 i) s.2∧(∀v∈s.1.has,Pi pa b4 i v∨ ∃y∈s.2,gv y=some v)∧ ∀v∈b4,v∈s.1.has)
   (fun j s=>pz4j fuel db.code j s.1 s.2) db.code.length (by have:=hdb.2;omega) (s:=((⟨(⟨false,⟨#[102]⟩,rgs d 12,pa,bs⟩:Fnc),(⟨idsG (cntG d),idsX (cntX d)⟩:A2 (List Int)),b4⟩:zH),cd))
   ⟨⟨by simp[idsG];exact hcg,by simp[idsX];exact hcx,by show b4.length≤12;omega⟩,⟨hz,ho,hG0,hX0⟩,rfl,rfl,k5,k6,k7,fun v hv=>hv⟩ (by
   rintro j ⟨m,c⟩ hj ⟨p1,p1h,p2,p3,p4,p5,p6,p7⟩
   simp only at p1 p1h p2 p3 p4 p5 p6 p7
   obtain⟨y,hy⟩:=getAt hj
   have hdl:=hdb.2
   obtain⟨x,m',r1,r2,r3,r4,r5,r6⟩:=instr_full (f:=rf d) p1 p1h (by rw[p3];exact hids) (by omega) fuel (hdb.1.1 y (List.mem_of_getElem? hy))
   have ha':app c [x]=some (c++[x]):=yf (by simp;omega)
   have hms: ∀v∈m.has,v∈m'.has:=fun v hv=>(r2.has v).2 (.inl hv)
   refine⟨(m',c++[x]),?_,r2.mkr,⟨hms _ p1h.z,hms _ p1h.o,by rw[r2.ids];exact p1h.g0,by rw[r2.ids];exact p1h.x0⟩,r2.f.trans p2,r2.ids.trans p3,by simp;omega,p5.snoc (r3.mono p6) ⟨r4,r5,r6⟩,?_,fun v hv=>hms _ (p7 v hv)⟩
   ·show pz4j fuel db.code (j:Int) m c=_
    unfold pz4j
    simp only[zp hy,Option.bind_some,r1,ha']
   ·intro v hv
    rcases (r2.has v).1 hv with hv|hv
    ·rcases p6 v hv with h|⟨z,hz,e⟩
     ·exact .inl h
     ·exact .inr ⟨z,List.mem_append_left _ hz,e⟩
    ·exact .inr ⟨x,by simp,hv⟩)
  obtain⟨p1,p1h,p2,p3,p4,p5,p6,p7⟩:=q2
  simp only at p1 p1h p2 p3 p4 p5 p6 p7
  have hdl:=hdb.2
  obtain⟨x,r1,r2,r3,r4⟩:=last_full (f:=rf d) p1 p1h (by rw[p3];exact hids) (by omega) fuel hdb.1 hn1 hn9 hi
  have ha1:app cd2 [x]=some (cd2++[x]):=yf (by simp;omega)
  have ha2:app m2.f.blocks [(⟨lab i,false,([]:List Opd),cd2++[x]⟩:Bl)]=some (bs++[⟨lab i,false,[],cd2++[x]⟩]):=by rw[p2,yf (by simp;omega)]
  refine⟨(m2.f.machine,m2.f.name,m2.f.regs,m2.f.params,bs++[⟨lab i,false,[],cd2++[x]⟩],m2.ids.a0,m2.ids.a1,m2.has,[]),?_,⟨by rw[p2],by rw[p2],by rw[p2],by rw[p2]⟩,by simp[k1],?_,by rw[p3],by rw[p3],by simp,Cod.nil _ _,fun v hv=> .inl (by unfold Pi;rw[if_neg (by omega)];exact hv)⟩
  ·show pz4k fuel d b4 (i:Int) false ⟨#[102]⟩ (rgs d 12) pa bs (idsG (cntG d)) (idsX (cntX d)) hs cd=_
   unfold pz4k
   rw[hsel,hn]
   simp only[Option.bind_some,ha,q1,r1,ha1,label_all i (by omega),ha2]
  ·intro j b hb
   simp only at hb
   by_cases hj:j<bs.length
   ·rw[List.getElem?_append_left hj] at hb
    exact k2 j b hb
   ·have hjl:=(List.getElem?_eq_some_iff.1 hb).1
    have:j=bs.length:=by simp at hjl;omega
    subst this
    simp at hb
    subst hb
    rw[k1]
    exact⟨rfl,rfl,rfl,by simp;omega,cd2,x,rfl,p5,r2,r3.mono p6,r4,fun v hv=>p6 v (p7 v hv)⟩)
 obtain⟨s0,s1,s2,s3,s4,s5,s6,s7,s8⟩:=s
 obtain⟨⟨z1,z2,z3,z4⟩,k1,k2,_⟩:=e6
 simp only at z1 z2 z3 z4 k1 k2
 subst z1;subst z2;subst z3;subst z4
 refine⟨⟨false,⟨#[102]⟩,rgs d 12,s3,s4⟩,?_,⟨rfl,rfl,rfl,hP.pars,k1,b4,k2⟩⟩
 unfold pz4l
 rw[e1]
 simp only[Option.bind_some]
 have e2':toN 0 12 (fun i s=>pz4h fuel d i s) ([]:List Rg)=some (rgs d 12):=e2
 rw[e2']
 simp only[Option.bind_some]
 rw[e4]
 simp only[bindE,ha,Option.bind_some]
 rw[hn,e5]
 rfl
end Go.Proofs.YtmogcnnhbmaffaaGreat.PL
set_option linter.unusedVariables false
set_option linter.unusedSectionVars false
set_option linter.unusedSimpArgs false
set_option maxRecDepth 100000
namespace Go.Proofs.YtmogcnnhbmaffaaGreat.PL
open Go
theorem opE_regs{f g:Fnc}(h:f.regs=g.regs)(op i:Int)(o:Opd):opE f op i o=opE g op i o:=by unfold opE cls;rw[h]
theorem lab_right: ∀i:Fin 10,rightB (lab i.val)=true:=by decide+kernel
theorem f_right:rightB ⟨#[102]⟩=true:=by decide+kernel
section
variable {d:Drf} {n:Nat} {f:Fnc} (hM:MF d n f) (hn1:1≤n) (hn9:n≤9)
include hM hn1 hn9
theorem mf_mok:MOk n f:=by
 obtain⟨al,hb⟩:=hM.blk
 refine⟨hM.len,fun i b h=>?_⟩
 have B:=hb i b h
 obtain⟨c,x,e,hc,hl,_⟩:=B.code
 have hlen:=B.len
 refine⟨B.label,by omega,⟨x,by rw[e];simp,hl⟩,fun y hy=>?_⟩
 rw[e] at hy
 rcases List.mem_append.1 hy with hy|hy
 ·obtain⟨k,hk⟩:=List.getElem?_of_mem hy
  rw[(hc k y hk).2.2.1];simp
 ·rw[List.mem_singleton.1 hy];exact hl.len
theorem mf_fBk:fBk f:=by
 have hr:=rgs_len d 12
 obtain⟨p,hp⟩:=hM.pars
 refine⟨mok_fOk (mf_mok hM hn1 hn9) hn9,by rw[hM.regs];omega,by rw[hp];simp[prs];omega,fun b hb x hx=>?_⟩
 obtain⟨al,hB⟩:=hM.blk
 obtain⟨i,hi⟩:=List.getElem?_of_mem hb
 obtain⟨c,y,e,hc,hl,iq,cs,_⟩:=(hB i b hi).code
 rw[e] at hx
 rcases List.mem_append.1 hx with hx|hx
 ·obtain⟨k,hk⟩:=List.getElem?_of_mem hx
  obtain⟨q1,_,_,q4⟩:=hc k x hk
  have:=q1.al
  rw[q4]
  exact⟨by omega,by simp⟩
 ·rw[List.mem_singleton.1 hx]
  have:=iq.al
  refine⟨by omega,?_⟩
  by_cases h17:y.cases.length≤16
  ·omega
  ·exfalso
   obtain⟨v,hv⟩:=getAt (xs:=y.cases) (i:=0) (by omega)
   have:=cs 0
   unfold casG at this
   rw[hv] at this
   simp only at this
   rw[if_pos (.inl (by omega))] at this
   cases this
theorem ins_none{H:Int→Prop}{x:Ins}{last:Bool}(hg:goodOp x.op last)(h:IQ (rf d) H x)(hc:casOk x.cases)(hl: ∀l∈x.labels,∃j,1≤j∧j<n∧l=lab j):insE f x last=none:=by
 have hr:f.regs=(rf d).regs:=hM.regs
 unfold insE
 rw[if_pos hg,if_pos h.ar,if_neg (by have:=h.nm;omega)]
 rw[Option.or_eq_none_iff,Option.or_eq_none_iff]
 refine⟨fsc_none.2 fun i _=>hc i,fsc_none.2 fun i hi=>?_,fsc_none.2 fun i hi=>?_⟩
 ·unfold opG
  cases e:(x.dst::x.args)[i]? with
  |none=>rfl
  |some o=>
   simp only
   rw[opE_regs hr]
   rcases i with _|i
   ·cases e;exact h.dst
   ·have:=h.od i o (by simpa using e)
    rw[show((i+1:Nat):Int)-1=(i:Int) by omega]
    exact this
 ·unfold labG
  cases e:x.labels[i]? with
  |none=>rfl
  |some l=>
   simp only
   obtain⟨j,j1,j2,rfl⟩:=hl l (List.mem_of_getElem? e)
   rw[mok_fnd (mf_mok hM hn1 hn9) hn9 j2,if_neg (by omega),if_neg (by omega)]
theorem good_in{op:Int}(h:1≤op∧op≤19):goodOp op false:=by
 refine⟨by omega,?_⟩
 have: ¬20≤op:=by omega
 simp[this]
theorem good_last{op:Int}(h:20≤op∧op≤23):goodOp op true:=by
 refine⟨by omega,?_⟩
 simp[h.1,h.2]
theorem mf_cod:codE f=none:=by
 refine fsc_none.2 fun b hb=>?_
 obtain⟨bl,hbl⟩:=getAt hb
 obtain⟨al,hB⟩:=hM.blk
 obtain⟨c,x,e,hc,hl,iq,cs,_⟩:=(hB b bl hbl).code
 unfold codG
 rw[hbl]
 simp only
 have hlen:bl.code.length=c.length+1:=by rw[e];simp
 rw[if_neg (by omega)]
 refine fsc_none.2 fun i hi=>?_
 unfold insG
 obtain⟨y,hy⟩:=getAt hi
 rw[hy]
 simp only
 rw[Option.map_eq_none_iff]
 rw[e] at hy
 by_cases h:i<c.length
 ·rw[List.getElem?_append_left h] at hy
  obtain⟨q1,q2,q3,q4⟩:=hc i y hy
  have:decide ((i:Int)=(bl.code.length:Int)-1)=false:=by simp;omega
  rw[this]
  exact ins_none hM hn1 hn9 (good_in hM hn1 hn9 q2) q1 (by rw[q4];exact zzI) (by rw[q3];simp)
 ·have:i=c.length:=by omega
  subst this
  simp at hy
  subst hy
  have:decide ((c.length:Int)=(bl.code.length:Int)-1)=true:=by simp;omega
  rw[this]
  exact ins_none hM hn1 hn9 (good_last hM hn1 hn9 hl.op) iq cs hl.to
theorem mf_nam:namE f=none:=by
 refine fsc_none.2 fun b hb=>?_
 obtain⟨bl,hbl⟩:=getAt hb
 obtain⟨al,hB⟩:=hM.blk
 have B:=hB b bl hbl
 have hbn:b<n:=by rw[←hM.len];exact hb
 unfold namG
 rw[hbl]
 simp only
 have hrt:=lab_right ⟨b,by omega⟩
 simp only at hrt
 rw[B.label,B.edge,B.ins,hrt,if_neg (by simp),mok_fnd (mf_mok hM hn1 hn9) hn9 hbn,if_neg (by simp)]
theorem mf_cnt:cntF f≤4096:=by
 have key: ∀(l:List Bl) (a:Int),0≤a→a+73*(l.length:Int)≤4096→(∀b∈l,b.code.length≤73)→l.foldl (fun n b=>IntKind.wrap .i64 (n+(b.code.length:Int))) a≤a+73*(l.length:Int):=by
  intro l
  induction l with
  |nil=>intro a _ _ _;simp
  |cons b l ih=>
   intro a h0 h1 h3
   have hb:=h3 b (by simp)
   simp only[List.length_cons] at h1 ⊢
   rw[List.foldl_cons,zz (by omega) (by omega)]
   have:=ih (a+(b.code.length:Int)) (by omega) (by omega) fun y hy=>h3 y (by simp[hy])
   omega
 obtain⟨al,hB⟩:=hM.blk
 have hl:=hM.len
 have:=key f.blocks 0 (by omega) (by omega) fun b hb=>by
  obtain⟨i,hi⟩:=List.getElem?_of_mem hb
  exact(hB i b hi).len
 unfold cntF
 omega
theorem prw{α:Type}{R:α→α→Prop}{l:List α}(h:l.Pairwise R){i j:Nat}{a b:α}(hi:l[i]?=some a)(hj:l[j]?=some b)(hij:i<j):R a b:=by
 obtain⟨h1,rfl⟩:=List.getElem?_eq_some_iff.1 hi
 obtain⟨h2,rfl⟩:=List.getElem?_eq_some_iff.1 hj
 exact List.pairwise_iff_getElem.1 h i j h1 h2 hij
theorem rgs_lt(d:Drf)(m:Nat):(rgs d m).Pairwise fun a b=>a.id<b.id:=by
 unfold rgs
 rw[List.pairwise_map]
 refine List.Pairwise.filter _ ?_
 refine List.Pairwise.imp ?_ List.pairwise_lt_range
 intro a b h
 show(a:Int)<(b:Int)
 omega
theorem mf_regs:regsE f=none:=by
 have hl:=rgs_len d 12
 unfold regsE
 rw[hM.regs,if_neg (by omega)]
 refine fsc_none.2 fun k hk=>?_
 obtain⟨g,hg⟩:=getAt hk
 unfold regG
 rw[hg]
 simp only
 obtain⟨i,hi,e⟩:=rgs_at (List.mem_of_getElem? hg)
 have hp:prevLe (rgs d 12) k g=false:=by
  unfold prevLe
  cases e1:(rgs d 12)[k-1]? with
  |none=>rfl
  |some y=>
   simp only
   by_cases h0:0<k
   ·have:=prw hM hn1 hn9 (rgs_lt hM hn1 hn9 d 12) e1 hg (by omega)
    have h2: ¬g.id≤y.id:=by omega
    simp[h2]
   ·simp[h0]
 rw[if_neg]
 rintro(h|h|h)
 ·rw[e] at h;simp only at h;omega
 ·rw[e] at h;simp only at h;omega
 ·rw[hp] at h;cases h
theorem mf_pars:parsE f=none:=by
 obtain⟨p,hp⟩:=hM.pars
 refine fsc_none.2 fun k hk=>?_
 obtain⟨o,ho⟩:=getAt hk
 have ho':=ho
 rw[hp] at ho'
 unfold prs at ho'
 rw[List.getElem?_map,Option.map_eq_some_iff] at ho'
 obtain⟨r,hr,rfl⟩:=ho'
 have hrk:(rgs d 12)[k]?=some r:=by
  rw[List.getElem?_take] at hr
  split at hr
  ·exact hr
  ·cases hr
 have hcl:=rgs_cls hM.regs (List.mem_of_getElem? hrk)
 unfold parG
 rw[ho]
 simp only
 rw[if_pos trivial,hcl]
 show(if _∈List.take k f.params then some 31 else none)=none
 rw[if_neg]
 intro hm
 obtain⟨j,hj⟩:=List.getElem?_of_mem hm
 rw[List.getElem?_take] at hj
 split at hj
 ·rename_i hjk
  rw[hp] at hj
  unfold prs at hj
  rw[List.getElem?_map,Option.map_eq_some_iff] at hj
  obtain⟨r',hr',e⟩:=hj
  rw[List.getElem?_take] at hr'
  split at hr'
  ·have:=prw hM hn1 hn9 (rgs_lt hM hn1 hn9 d 12) hr' hrk hjk
   have e2:r'.id=r.id:=by injection e
   omega
  ·cases hr'
 ·cases hj
theorem mf_head:headE f=none:=by
 unfold headE
 have hl:=hM.len
 have hc:=mf_cnt hM hn1 hn9
 have h1:kindE f=none:=by
  unfold kindE
  rw[hM.mach,hM.name,if_neg (by decide),if_pos f_right]
 have h4:blksE f=none:=by
  unfold blksE
  rw[if_neg (by omega),if_neg (by omega)]
 rw[h1,mf_regs hM hn1 hn9,mf_pars hM hn1 hn9,h4]
 rfl
theorem mf_rea:reaE f=none:=by
 refine fsc_none.2 fun b hb=>?_
 exact reaG_pos (mf_fBk hM hn1 hn9) (mok_reach (mf_mok hM hn1 hn9) hn9 (by rw[←hM.len];exact hb))
theorem mf_val:valE f=none:=by
 unfold valE
 rw[Option.map_eq_none_iff]
 refine fsc_none.2 fun b hb=>?_
 obtain⟨bl,hbl⟩:=getAt hb
 obtain⟨al,hB⟩:=hM.blk
 unfold blkV
 rw[hbl]
 simp only
 refine fsc_none.2 fun i hi=>?_
 unfold codV
 obtain⟨x,hx⟩:=getAt hi
 rw[hx]
 simp only
 refine fsc_none.2 fun k hk=>?_
 obtain⟨a,ha⟩:=getAt hk
 refine(argV_at ha).2 ?_
 rintro⟨hk1,hsr⟩
 apply hsr
 obtain⟨c,y,e,hc,hl,iq,cs,_⟩:=(hB b bl hbl).code
 have hus:(Pi f.params al b a.n∨ ∃z∈bl.code.take i,gv z=some a.n)∧(cls f a.n).isSome=true:=by
  have known: ∀{H:Int→Prop},IQ (rf d) H x→(cls f a.n).isSome=true:=by
   intro H q
   have:=q.od k a ha
   rw[←opE_regs (f:=f) hM.regs] at this
   unfold opE at this
   cases h:cls f a.n with
   |some d=>rfl
   |none=>
    exfalso
    rw[h] at this
    split at this
    ·cases this
    ·cases this
  have hx':=hx
  rw[e] at hx'
  by_cases h:i<c.length
  ·rw[List.getElem?_append_left h] at hx'
   obtain⟨q1,_⟩:=hc i x hx'
   refine⟨?_,known q1⟩
   rw[e,List.take_append_of_le_length (by omega)]
   exact q1.us a (List.mem_of_getElem? ha) hk1
  ·have hlen:bl.code.length=c.length+1:=by rw[e];simp
   have:i=c.length:=by omega
   subst this
   simp at hx'
   subst hx'
   refine⟨?_,known iq⟩
   rw[e,List.take_left' rfl]
   exact iq.us a (List.mem_of_getElem? ha) hk1
 refine⟨(cls_known _).1 hus.2,?_⟩
 rcases hus.1 with h|⟨z,hz,ez⟩
 ·left
  rintro⟨hnp,hP⟩
  have par:(⟨1,0,a.n,0⟩:Opd)∈f.params→False:=fun h=>hnp ⟨_,h,rfl,rfl⟩
  unfold Pi at h
  by_cases h0:b=0
  ·rw[if_pos h0] at h
   exact par h
  ·rw[if_neg h0] at h
   obtain⟨b0,hb0⟩:=getAt (xs:=f.blocks) (i:=0) (by omega)
   obtain⟨c0,y0,e0,_,_,_,_,hg⟩:=(hB 0 b0 hb0).code
   rcases hg a.n h with h|⟨z,hz,ez⟩
   ·unfold Pi at h
    rw[if_pos rfl] at h
    exact par h
   ·have hgb:gb f 0 a.n:=⟨b0,hb0,z,by rw[e0];exact List.mem_append_left _ hz,ez⟩
    have:b=0:=hP.closed (C:=fun j=>j=0) (fun u w hu hE _=>by subst hu;exact absurd hgb hE.2) rfl
    exact h0 this
 ·right
  exact⟨bl,hbl,z,hz,ez⟩
theorem mf_chk:chkE f=none:=by
 unfold chkE
 rw[mf_head hM hn1 hn9,mf_nam hM hn1 hn9,mf_cod hM hn1 hn9,mf_rea hM hn1 hn9,mf_val hM hn1 hn9]
 rfl
end
theorem law_VerifyMade{d:Drf}(h:rD d)(hs:(d.blocks.map fun b=>1+b.code.length).sum≤1048576):pz4m FU d=some true:=by
 unfold pz4m
 obtain⟨r,e,hr⟩:=many_ok hs FU
 rw[e]
 simp only[Option.bind_some]
 cases r
 ·obtain⟨h9,h60⟩:=hr rfl
  obtain⟨f,ef,hM⟩:=make_full h h9 h60 (fuel:=FU) (by decide)
  have hn1:1≤max d.blocks.length 1:=by omega
  have hn9:max d.blocks.length 1≤9:=by omega
  rw[if_neg (by decide),ef]
  have hw:pz3p FU f=some true:=by
   unfold pz3p
   rw[check_code (mf_fBk hM hn1 hn9),mf_chk hM hn1 hn9];rfl
  simp only[Option.bind_some,hw,works_ok,if_true]
 ·rw[if_pos rfl,works_ok];rfl
end Go.Proofs.YtmogcnnhbmaffaaGreat.PL
