import Derived.Test.YtejmbnahdkgpmaaXLexerAgainx2
import Derived.Test.YtejmbnahdkgpmaaLX9
namespace Go.Proofs.Ytejmbnahdkgpmaa.Pure
open Go.RowKit Go.Proofs.Ytejmbnahdkgpmaa.XLexerAgain Go.Proofs.YtejmbnahdkgpmaaW.PrintWords Go.Proofs.YtejmbnahdkgpmaaW.PrintLast
set_option linter.unusedVariables false
set_option linter.unusedSimpArgs false

set_option maxRecDepth 100000 in
theorem lives : octroilaw30_lives.f = some true := by
  decide +kernel

theorem rd_map (toks : List LX.Tok) (i : Nat) (h : i < toks.length) : rd_T57 (toks.map mk57) (i : Int) = mk57 (toks.getD i (0, 0, ⟨#[]⟩, 0)) := by
  unfold rd_T57
  rw [List.getD_eq_getElem?_getD, List.getElem?_map, List.getD_eq_getElem?_getD]
  simp [h]

theorem show_f (toks : List LX.Tok) (h : LX.sumL toks ≤ 262144) (hn : toks.length ≤ 131072) :
    ∃ S : ByteArray, lexer_Show.f (toks.map mk57) = some S ∧ S.data.toList = LX.joinR false (toks.map LX.txt) := by
  have e := LX.joinF_all (fun i => (rd_T57 (toks.map mk57) (i : Int)).f2) toks (fun i hi => by
    show (rd_T57 (toks.map mk57) (i : Int)).f2.data.toList = _
    rw [rd_map toks i hi]
    rfl)
  refine ⟨⟨(LX.joinF (fun i => (rd_T57 (toks.map mk57) (i : Int)).f2) (toks.map mk57).length).toArray⟩, ?_, ?_⟩
  · unfold lexer_Show.f
    rw [if_pos]
    refine ⟨by rw [List.length_map]; omega, ?_⟩
    rw [List.length_map, e]
    have := LX.joinR_len false toks
    omega
  · rw [List.length_map, e]

theorem bytes_ext {x y : ByteArray} (h : x.data.toList = y.data.toList) : x = y := by
  cases x
  cases y
  congr 1
  exact Array.toList_inj.1 h

theorem strip_at (a b : List LX.Tok) (h : a.map LX.strip = b.map LX.strip) (i : Nat) (ha : i < a.length) (hb : i < b.length) :
    (rd_T57 (a.map mk57) (i : Int)).f0 = (rd_T57 (b.map mk57) (i : Int)).f0 ∧ (rd_T57 (a.map mk57) (i : Int)).f2.data.toList = (rd_T57 (b.map mk57) (i : Int)).f2.data.toList ∧ (rd_T57 (a.map mk57) (i : Int)).f3 = (rd_T57 (b.map mk57) (i : Int)).f3 := by
  rw [rd_map a i ha, rd_map b i hb]
  have h1 : (a.map LX.strip)[i]? = (b.map LX.strip)[i]? := by rw [h]
  rw [List.getElem?_map, List.getElem?_map, List.getElem?_eq_getElem ha, List.getElem?_eq_getElem hb] at h1
  rw [List.getD_eq_getElem?_getD, List.getD_eq_getElem?_getD, List.getElem?_eq_getElem ha, List.getElem?_eq_getElem hb]
  simp only [Option.map_some, Option.some.injEq] at h1
  unfold LX.strip at h1
  simp only [Prod.mk.injEq] at h1
  exact ⟨h1.1, h1.2.1, h1.2.2⟩

theorem again_l0 (a b : List LX.Tok) (h : a.map LX.strip = b.map LX.strip) (hl : a.length = b.length) (hn : a.length ≤ 100000) : ∀ n i : Nat, i + n = a.length → octroilaw30_LexerAgain.l0 (n + 1) (a.map mk57) (b.map mk57) ((a.map mk57).length : Int) (i : Int) = some true
  | 0, i, hi => by
    rw [octroilaw30_LexerAgain.l0, if_neg (by rw [List.length_map]; omega), lives]
    rfl
  | n + 1, i, hi => by
    have hs := strip_at a b h i (by omega) (by omega)
    rw [octroilaw30_LexerAgain.l0, if_pos (by rw [List.length_map]; omega), if_pos (by omega), if_pos (by rw [List.length_map]; omega), if_pos (by rw [List.length_map]; omega), if_pos hs.1, if_pos (congrArg ByteArray.toList (bytes_ext hs.2.1)), if_pos hs.2.2]
    have e : wrap64 ((i : Int) + 1) = ((i + 1 : Nat) : Int) := by
      unfold wrap64
      omega
    rw [e]
    exact again_l0 a b h hl hn n (i + 1) (by omega)

theorem LexerAgain : octroilaw30_LexerAgain.Pure := by
  intro a0 h0
  by_cases hs : (a0.size : Int) > 6000
  · refine ⟨0, ?_⟩
    unfold octroilaw30_LexerAgain.f
    rw [if_pos hs, lives]
    rfl
  · obtain ⟨⟨toks, r2, r3⟩, hl⟩ := LX.lex_total a0
    have hlf : lexer_Lex.f a0 = some (toks.map mk57, r2, r3) := by
      unfold lexer_Lex.f
      rw [hl]
      rfl
    by_cases h3 : r3 = 0
    · subst h3
      have hlen := LX.lex_len a0 toks r2 0 hl
      obtain ⟨S, hS, hSl⟩ := show_f toks (by omega) (by omega)
      obtain ⟨toks', hl', hst⟩ := LX.again a0 S toks r2 (by omega) hl hSl
      have hlf' : lexer_Lex.f S = some (toks'.map mk57, 0, 0) := by
        unfold lexer_Lex.f
        rw [hl']
        rfl
      have hle : toks.length = toks'.length := by
        have := congrArg List.length hst
        simpa using this.symm
      refine ⟨toks.length + 2, ?_⟩
      unfold octroilaw30_LexerAgain.f
      rw [if_neg hs, hlf]
      simp only [Option.bind_some, if_true]
      rw [hS]
      simp only [Option.bind_some]
      rw [hlf']
      simp only [Option.bind_some, if_true]
      rw [octroilaw30_LexerAgain.j0]
      rw [if_neg (by rw [List.length_map, List.length_map, hle]; simp)]
      exact again_l0 toks toks' hst.symm hle (by omega) toks.length 0 (by omega)
    · have hnil : toks = [] := (LX.lex_err a0 toks r2 r3 hl).resolve_left h3
      subst hnil
      refine ⟨0, ?_⟩
      unfold octroilaw30_LexerAgain.f
      rw [if_neg hs, hlf]
      simp only [Option.bind_some]
      rw [if_neg h3, if_pos (by simp), lives]
      rfl

end Go.Proofs.Ytejmbnahdkgpmaa.Pure
